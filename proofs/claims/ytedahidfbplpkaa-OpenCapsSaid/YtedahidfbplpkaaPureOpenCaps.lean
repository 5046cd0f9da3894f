/- OpenCaps, the plain law (its walk stands in the printed text). Conditions: those of the statement's inputs. -/
import Derived.Test.YtedahidfbplpkaaXOpenC
import Derived.Test.YtedahidfbplpkaaQx7
namespace Go.Proofs.Ytedahidfbplpkaa.Pure
open Go.RowKit Go.Proofs.Ytedahidfbplpkaa.Q Go.Proofs.YtedahidfbplpkaaW.PrintWords Go.Proofs.YtedahidfbplpkaaW.PrintLast Go.Proofs.YtedahidfbplpkaaW.PrintMore Go.Proofs.YtedahidfbplpkaaW.PrintX
set_option linter.unusedVariables false
set_option linter.unusedSimpArgs false
theorem OpenCaps : ridgewaylaw06_OpenCaps.Pure := by
  intro x c l k hx hc hl hk
  unfold ridgewaylaw06_OpenCaps.f
  have h1 := octs_of_wf (l := [c]) (by simpa using hc) c (by simp)
  have h2 := octs_of_wf (l := [k]) (by simpa using hk) k (by simp)
  rw [if_pos ⟨octs_of_wf hl.2, h1.1, h1.2, h2.1, h2.2⟩]
end Go.Proofs.Ytedahidfbplpkaa.Pure
