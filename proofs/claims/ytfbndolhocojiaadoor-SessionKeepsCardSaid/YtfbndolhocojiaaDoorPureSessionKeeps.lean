/- SessionKeeps, the plain law (its walk stands in the printed text). No conditions but those of the statement. -/
import Derived.Test.YtfbndolhocojiaaDoorKx16
import Derived.Test.YtfbndolhocojiaaDoorXSessionConf
namespace Go.Proofs.YtfbndolhocojiaaDoor.Pure
open Go.RowKit Go.Proofs.YtfbndolhocojiaaDoor.K Go.Proofs.YtfbndolhocojiaaDoorW.PrintWords Go.Proofs.YtfbndolhocojiaaDoorW.PrintLast Go.Proofs.YtfbndolhocojiaaDoorW.PrintMore Go.Proofs.YtfbndolhocojiaaDoorW.PrintX
set_option linter.unusedVariables false
set_option linter.unusedSimpArgs false
theorem few_short (k : Nat) (a b c d : Int) (l4 : List S62) (l5 : List S31) (t : Int) (bd : List Int) (hl : l5.length ≤ 9223372036854775807) (hk : l5.length < k) : ∃ r, ridgewaylaw17_short.f k a b c d l4 l5 t bd = some r ∧ (r = true → bd.length ≤ 5000) := by
  unfold ridgewaylaw17_short.f
  obtain ⟨x, hx⟩ := few_tot k a b c d l4 l5 hl hk
  rw [hx, Option.bind_some]
  cases x
  · exact ⟨false, rfl, fun h => by cases h⟩
  · exact ⟨_, if_pos rfl, fun h => by have := of_decide_eq_true h; omega⟩
theorem SessionKeeps : ridgewaylaw17_SessionKeeps.Pure := by
  intro x0 x1 a2 x3 a4 hw0 hw1 hw2 hw3 hw4
  unfold ridgewaylaw17_SessionKeeps.f
  have hc := conf_tot x1 hw1
  have hl : x1.f5.length ≤ 9223372036854775807 := hw1.2.2.2.2.2.1
  rw [if_pos ⟨hc, ⟨x1.f5.length + 1, few_short _ _ _ _ _ _ _ _ _ hl (by omega)⟩, octs_of_wf hw3.2.2⟩]
end Go.Proofs.YtfbndolhocojiaaDoor.Pure
