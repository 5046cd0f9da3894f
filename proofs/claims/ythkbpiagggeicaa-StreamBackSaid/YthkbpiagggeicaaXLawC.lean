/- Words of ours for laws that are walked by hand: rows in blocks of their own. No conditions but those that each states. -/
-- pruned: what nothing names is left out (wip/tools/prune.py)
import Derived.Test.YthkbpiagggeicaaXLawB
set_option linter.unusedVariables false
set_option linter.unusedSimpArgs false
namespace Go.Proofs.YthkbpiagggeicaaW.PrintX
open Go.RowKit Go.Proofs.YthkbpiagggeicaaW.PrintWords Go.Proofs.YthkbpiagggeicaaW.PrintLast Go.Proofs.YthkbpiagggeicaaW.PrintMore
end Go.Proofs.YthkbpiagggeicaaW.PrintX
