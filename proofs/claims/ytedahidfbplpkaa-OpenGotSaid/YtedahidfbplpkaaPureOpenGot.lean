/- OpenGot, the plain law (its walk stands in the printed text). Conditions: those of the statement's inputs. -/
import Derived.Test.YtedahidfbplpkaaXOpenA
import Derived.Test.YtedahidfbplpkaaQx6
namespace Go.Proofs.Ytedahidfbplpkaa.Pure
open Go.RowKit Go.Proofs.Ytedahidfbplpkaa.Q Go.Proofs.YtedahidfbplpkaaW.PrintWords Go.Proofs.YtedahidfbplpkaaW.PrintLast Go.Proofs.YtedahidfbplpkaaW.PrintMore Go.Proofs.YtedahidfbplpkaaW.PrintX
set_option linter.unusedVariables false
set_option linter.unusedSimpArgs false
theorem OpenGot : ridgewaylaw06_OpenGot.Pure := by
  intro x a hx ha
  unfold ridgewaylaw06_OpenGot.f
  rw [if_pos (octs_of_wf hx.2.2)]
end Go.Proofs.Ytedahidfbplpkaa.Pure
