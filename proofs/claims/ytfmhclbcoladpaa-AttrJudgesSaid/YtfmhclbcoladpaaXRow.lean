/- Words of ours on rows of the call's own: an element written, the tail cleared, a row cut; the first element for which a predicate holds. No conditions. -/
-- pruned: what nothing names is left out (wip/tools/prune.py)
import Derived.Test.YtfmhclbcoladpaaWMore
import Derived.Test.YtfmhclbcoladpaaWArr
import Derived.Laws.IdiomCopy
import Derived.Deep.MidRow
set_option linter.unusedVariables false
set_option linter.unusedSimpArgs false
namespace Go.Proofs.YtfmhclbcoladpaaW.PrintX
open Go.RowKit Go.Proofs.YtfmhclbcoladpaaW.PrintWords Go.Proofs.YtfmhclbcoladpaaW.PrintLast Go.Proofs.YtfmhclbcoladpaaW.PrintMore
def idxM {α : Type} (p : α → Option Bool) : List α → Int → Option Int
  | [], _ => some (-1)
  | x :: r, i => (p x).bind fun b => if b = true then some i else idxM p r (i + 1)
end Go.Proofs.YtfmhclbcoladpaaW.PrintX
