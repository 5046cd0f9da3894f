/- Words of ours for laws that are walked by hand: a fresh row of octets. No conditions but those that each states. -/
-- pruned: what nothing names is left out (wip/tools/prune.py)
import Derived.Test.YtfmhclbcoladpaaXRow
set_option linter.unusedVariables false
set_option linter.unusedSimpArgs false
namespace Go.Proofs.YtfmhclbcoladpaaW.PrintX
open Go.RowKit Go.Proofs.YtfmhclbcoladpaaW.PrintWords Go.Proofs.YtfmhclbcoladpaaW.PrintLast Go.Proofs.YtfmhclbcoladpaaW.PrintMore
end Go.Proofs.YtfmhclbcoladpaaW.PrintX
