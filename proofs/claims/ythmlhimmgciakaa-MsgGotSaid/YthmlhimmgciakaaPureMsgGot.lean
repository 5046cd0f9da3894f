/- MsgGot, the plain law (its walk stands in the printed text): octets are octets. Conditions: those of the statement's inputs. -/
import Derived.Test.YthmlhimmgciakaaQx9
namespace Go.Proofs.Ythmlhimmgciakaa.Pure
open Go.RowKit Go.Proofs.Ythmlhimmgciakaa.Q Go.Proofs.YthmlhimmgciakaaW.PrintWords Go.Proofs.YthmlhimmgciakaaW.PrintLast Go.Proofs.YthmlhimmgciakaaW.PrintMore Go.Proofs.YthmlhimmgciakaaW.PrintX
set_option linter.unusedVariables false
set_option linter.unusedSimpArgs false
theorem MsgGot : ridgewaylaw03_MsgGot.Pure := by
  intro l hl
  unfold ridgewaylaw03_MsgGot.f
  rw [if_pos (octs_of_wf hl.2)]
end Go.Proofs.Ythmlhimmgciakaa.Pure
