/- What octet.Take comes to. -/
import Derived.Test.YtfbndolhocojiaaDoorXOctetPG
import Derived.Test.YtfbndolhocojiaaDoorKx10
namespace Go.Proofs.YtfbndolhocojiaaDoor.Pure
open Go.RowKit Go.Proofs.YtfbndolhocojiaaDoor.K Go.Proofs.YtfbndolhocojiaaDoorW.PrintWords Go.Proofs.YtfbndolhocojiaaDoorW.PrintLast Go.Proofs.YtfbndolhocojiaaDoorW.PrintMore Go.Proofs.YtfbndolhocojiaaDoorW.PrintX
set_option linter.unusedVariables false
set_option linter.unusedSimpArgs false
theorem octet_take (l : List Int) (n : Int) : octet_Take.f l n = some (if n < 0 ∨ n > (l.length : Int) then ([], [], false) else (l.take n.toNat, l.drop n.toNat, true)) := by
  unfold octet_Take.f
  by_cases h1 : n < 0
  · rw [if_pos h1, if_pos (Or.inl h1)]
  · rw [if_neg h1]
    by_cases h2 : n > (l.length : Int)
    · rw [if_pos h2, if_pos (Or.inr h2)]
    · rw [if_neg h2, if_pos (by omega), if_pos (by omega), if_neg (by omega)]
theorem octet_takeS (l : List Int) (n : Int) (h0 : 0 ≤ n) (hl : n ≤ l.length) : octet_Take.f l n = some (l.take n.toNat, l.drop n.toNat, true) := by
  rw [octet_take, if_neg (by omega)]
theorem octet_takeF (l : List Int) (n : Int) (h : n < 0 ∨ n > l.length) : octet_Take.f l n = some ([], [], false) := by
  rw [octet_take, if_pos h]
end Go.Proofs.YtfbndolhocojiaaDoor.Pure
