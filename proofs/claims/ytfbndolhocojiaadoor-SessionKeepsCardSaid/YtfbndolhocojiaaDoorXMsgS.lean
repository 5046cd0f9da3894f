/- What msg.Sane comes to, in plain words (saneV). Conditions: at most 1000000 octets. -/
import Derived.Test.YtfbndolhocojiaaDoorXOctetPG
import Derived.Test.YtfbndolhocojiaaDoorKx9
namespace Go.Proofs.YtfbndolhocojiaaDoor.Pure
open Go.RowKit Go.Proofs.YtfbndolhocojiaaDoor.K Go.Proofs.YtfbndolhocojiaaDoorW.PrintWords Go.Proofs.YtfbndolhocojiaaDoorW.PrintLast Go.Proofs.YtfbndolhocojiaaDoorW.PrintMore Go.Proofs.YtfbndolhocojiaaDoorW.PrintX
set_option linter.unusedVariables false
set_option linter.unusedSimpArgs false
def leastV (t : Int) : Int := if t = 1 then 29 else if t = 2 then 23 else if t = 3 then 21 else if t = 4 then 19 else 0
def fitsV (t s : Int) : Bool := decide (leastV t > 0) && (decide (s ≥ leastV t) && (decide (s ≤ 4096) && (if t = 4 then s == leastV t else true)))
def saneV (t : Int) (b : List Int) : Bool := fitsV t (19 + b.length)
theorem least_eq (t : Int) : msg_Least.f t = some (leastV t) := by
  unfold msg_Least.f leastV
  (repeat' split) <;> rfl
theorem fits_eq (t s : Int) : msg_fits.f t s = some (fitsV t s) := by
  unfold msg_fits.f fitsV
  rw [least_eq]
  simp only [Option.bind_some]
  (repeat' split) <;> simp_all <;> omega
theorem sane_eq (t : Int) (b : List Int) (hb : b.length ≤ 1000000) : msg_Sane.f t b = some (saneV t b) := by
  unfold msg_Sane.f saneV
  rw [w64 (by omega) (by omega), fits_eq]
  rfl
end Go.Proofs.YtfbndolhocojiaaDoor.Pure
