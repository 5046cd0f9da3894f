/- MsgTwo, the plain law (its walk stands in the printed text): octets are octets. Conditions: those of the statement's inputs. -/
import Derived.Test.YthmlhimmgciakaaQx11
namespace Go.Proofs.Ythmlhimmgciakaa.Pure
open Go.RowKit Go.Proofs.Ythmlhimmgciakaa.Q Go.Proofs.YthmlhimmgciakaaW.PrintWords Go.Proofs.YthmlhimmgciakaaW.PrintLast Go.Proofs.YthmlhimmgciakaaW.PrintMore Go.Proofs.YthmlhimmgciakaaW.PrintX
set_option linter.unusedVariables false
set_option linter.unusedSimpArgs false
theorem MsgTwo : ridgewaylaw03_MsgTwo.Pure := by
  intro x y hx hy
  unfold ridgewaylaw03_MsgTwo.f
  rw [if_pos ⟨octs_of_wf hx.2.2, octs_of_wf hy.2.2⟩]
end Go.Proofs.Ythmlhimmgciakaa.Pure
