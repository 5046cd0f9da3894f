/- Words of ours for laws that are walked by hand: an element of a row of octets written; rows that were made one behind the other lie apart. No conditions but those that each states. -/
-- pruned: what nothing names is left out (wip/tools/prune.py)
import Derived.Test.YtfmhclbcoladpaaXLaw
set_option linter.unusedVariables false
set_option linter.unusedSimpArgs false
namespace Go.Proofs.YtfmhclbcoladpaaW.PrintX
open Go.RowKit Go.Proofs.YtfmhclbcoladpaaW.PrintWords Go.Proofs.YtfmhclbcoladpaaW.PrintLast Go.Proofs.YtfmhclbcoladpaaW.PrintMore
theorem set_below {w0 W : World} {g j : Nat} (x : Value) (hb : Below w0.heap.size w0 W) (hg : w0.heap.size ≤ g) : Below w0.heap.size w0 (W.setCell ⟨g, j, none⟩ x) := below_set hb hg
end Go.Proofs.YtfmhclbcoladpaaW.PrintX
