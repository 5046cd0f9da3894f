/- MsgBad, the plain law (its walk stands in the printed text): octets are octets. Conditions: those of the statement's inputs. -/
import Derived.Test.YthmlhimmgciakaaQx10
namespace Go.Proofs.Ythmlhimmgciakaa.Pure
open Go.RowKit Go.Proofs.Ythmlhimmgciakaa.Q Go.Proofs.YthmlhimmgciakaaW.PrintWords Go.Proofs.YthmlhimmgciakaaW.PrintLast Go.Proofs.YthmlhimmgciakaaW.PrintMore Go.Proofs.YthmlhimmgciakaaW.PrintX
set_option linter.unusedVariables false
set_option linter.unusedSimpArgs false
theorem MsgBad : ridgewaylaw03_MsgBad.Pure := by
  intro x i c n hx hi hc hn
  unfold ridgewaylaw03_MsgBad.f
  rw [if_pos ⟨octs_of_wf hx.2.2, (octs_of_wf (l := [c]) (by simpa using hc) c (by simp)).1, (octs_of_wf (l := [c]) (by simpa using hc) c (by simp)).2⟩]
end Go.Proofs.Ythmlhimmgciakaa.Pure
