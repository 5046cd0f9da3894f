/- What comes in as data is, as cells, an element of its kind: whole numbers, bools, texts, slices and structs of such. No conditions but that the datum can be read. -/
import Derived.Test.YtfbndolhocojiaaDoorXWords
import Derived.ProofKit
import Derived.OpenShut
import Derived.ShutString
import Derived.ChangeArms
set_option linter.unusedVariables false
set_option linter.unusedSimpArgs false
namespace Go.Proofs.YtfbndolhocojiaaDoorW.PrintX
open Go.RowKit Go.Proofs.YtfbndolhocojiaaDoorW.PrintWords Go.Proofs.YtfbndolhocojiaaDoorW.PrintLast Go.Proofs.YtfbndolhocojiaaDoorW.PrintMore

section
variable {P : Program} {t e : TypeId}
end
end Go.Proofs.YtfbndolhocojiaaDoorW.PrintX
