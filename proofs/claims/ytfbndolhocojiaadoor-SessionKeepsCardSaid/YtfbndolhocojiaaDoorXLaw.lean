/- Words of ours for laws that are walked by hand: a fresh row of octets. No conditions but those that each states. -/
import Derived.Test.YtfbndolhocojiaaDoorXRow
set_option linter.unusedVariables false
set_option linter.unusedSimpArgs false
namespace Go.Proofs.YtfbndolhocojiaaDoorW.PrintX
open Go.RowKit Go.Proofs.YtfbndolhocojiaaDoorW.PrintWords Go.Proofs.YtfbndolhocojiaaDoorW.PrintLast Go.Proofs.YtfbndolhocojiaaDoorW.PrintMore
theorem R_lit8 (w : World) (base e : Nat) (hb : base ≤ w.heap.size) (xs : List Int) (hx : xs.length ≤ 1000000) : (Kd.int .u8).R e (w.alloc (.cells (xs.map (Value.int .u8)).toArray e)) base (fun _ => True) (.slice (some ⟨w.heap.size, 0, none⟩) xs.length xs.length) xs := by
  refine Kd.R_of_own (enc := Value.int .u8) ?_ (fun _ _ => trivial)
  have h2 := World.ownsRow_lit (base := base) (e := e) (size := 1) w (xs.map (Value.int .u8)).toArray xs.length hb (by simp [maxLen]; omega) (by simp)
  simpa [encs] using h2
end Go.Proofs.YtfbndolhocojiaaDoorW.PrintX
