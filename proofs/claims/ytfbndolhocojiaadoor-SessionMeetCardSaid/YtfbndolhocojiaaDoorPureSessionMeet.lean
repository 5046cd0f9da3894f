/- SessionMeet, the plain law (its walk stands in the printed text). No conditions but those of the statement. -/
import Derived.Test.YtfbndolhocojiaaDoorMx16
namespace Go.Proofs.YtfbndolhocojiaaDoor.Pure
open Go.RowKit Go.Proofs.YtfbndolhocojiaaDoor.M Go.Proofs.YtfbndolhocojiaaDoorW.PrintWords Go.Proofs.YtfbndolhocojiaaDoorW.PrintLast Go.Proofs.YtfbndolhocojiaaDoorW.PrintMore Go.Proofs.YtfbndolhocojiaaDoorW.PrintX
set_option linter.unusedVariables false
set_option linter.unusedSimpArgs false
theorem SessionMeet : ridgewaylaw17_SessionMeet.Pure := by
  intro a0 a1 a2 a3 a4 a5 _ _ _ _ _ _
  rfl
end Go.Proofs.YtfbndolhocojiaaDoor.Pure
