/- OpenFields, the plain law (its walk stands in the printed text). Conditions: those of the statement's inputs. -/
import Derived.Test.YtedahidfbplpkaaXOpenF
import Derived.Test.YtedahidfbplpkaaQx8
namespace Go.Proofs.Ytedahidfbplpkaa.Pure
open Go.RowKit Go.Proofs.Ytedahidfbplpkaa.Q Go.Proofs.YtedahidfbplpkaaW.PrintWords Go.Proofs.YtedahidfbplpkaaW.PrintLast Go.Proofs.YtedahidfbplpkaaW.PrintMore Go.Proofs.YtedahidfbplpkaaW.PrintX
set_option linter.unusedVariables false
set_option linter.unusedSimpArgs false
theorem OpenFields : ridgewaylaw06_OpenFields.Pure := by
  intro x v hx hv
  unfold ridgewaylaw06_OpenFields.f
  have ho := octs_of_wf (l := [v]) (by simpa using hv) v (by simp)
  rw [if_pos ho]
end Go.Proofs.Ytedahidfbplpkaa.Pure
