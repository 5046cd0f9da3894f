/- MsgBack, the plain law (its walk stands in the printed text): octets are octets. Conditions: those of the statement's inputs. -/
import Derived.Test.YthmlhimmgciakaaQx8
namespace Go.Proofs.Ythmlhimmgciakaa.Pure
open Go.RowKit Go.Proofs.Ythmlhimmgciakaa.Q Go.Proofs.YthmlhimmgciakaaW.PrintWords Go.Proofs.YthmlhimmgciakaaW.PrintLast Go.Proofs.YthmlhimmgciakaaW.PrintMore Go.Proofs.YthmlhimmgciakaaW.PrintX
set_option linter.unusedVariables false
set_option linter.unusedSimpArgs false
theorem MsgBack : ridgewaylaw03_MsgBack.Pure := by
  intro x l a hx hl ha
  unfold ridgewaylaw03_MsgBack.f
  rw [if_pos ⟨octs_of_wf hx.2.2, octs_of_wf hl.2⟩]
end Go.Proofs.Ythmlhimmgciakaa.Pure
