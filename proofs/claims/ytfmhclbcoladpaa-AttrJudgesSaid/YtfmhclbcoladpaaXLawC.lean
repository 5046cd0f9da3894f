/- Words of ours for laws that are walked by hand: rows in blocks of their own. No conditions but those that each states. -/
-- pruned: what nothing names is left out (wip/tools/prune.py)
import Derived.Test.YtfmhclbcoladpaaXLawB
set_option linter.unusedVariables false
set_option linter.unusedSimpArgs false
namespace Go.Proofs.YtfmhclbcoladpaaW.PrintX
open Go.RowKit Go.Proofs.YtfmhclbcoladpaaW.PrintWords Go.Proofs.YtfmhclbcoladpaaW.PrintLast Go.Proofs.YtfmhclbcoladpaaW.PrintMore
end Go.Proofs.YtfmhclbcoladpaaW.PrintX
