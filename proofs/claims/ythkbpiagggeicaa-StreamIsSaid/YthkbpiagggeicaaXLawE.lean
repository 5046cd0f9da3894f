/- Words of ours for laws that are walked by hand: a fresh row of octets in a world behind a store. No conditions but those that each states. -/
-- pruned: what nothing names is left out (wip/tools/prune.py)
import Derived.Test.YthkbpiagggeicaaXLawC
set_option linter.unusedVariables false
namespace Go.Proofs.YthkbpiagggeicaaW.PrintX
open Go.RowKit Go.Proofs.YthkbpiagggeicaaW.PrintWords Go.Proofs.YthkbpiagggeicaaW.PrintLast Go.Proofs.YthkbpiagggeicaaW.PrintMore
theorem R_lit8e (w : World) (base e n : Nat) (hn : w.heap.size = n) (hb : base ≤ w.heap.size) (xs : List Int) (hx : xs.length ≤ 1000000) : (Kd.int .u8).R e (w.alloc (.cells (xs.map (Value.int .u8)).toArray e)) base (fun _ => True) (.slice (some ⟨n, 0, none⟩) xs.length xs.length) xs := by
  subst hn
  exact R_lit8 w base e hb xs hx
end Go.Proofs.YthkbpiagggeicaaW.PrintX
