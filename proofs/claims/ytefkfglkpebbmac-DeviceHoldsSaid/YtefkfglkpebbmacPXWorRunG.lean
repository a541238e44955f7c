/- The walk of world.Run. Printed by gen_devacts.py. No conditions. -/
import Derived.Test.YtefkfglkpebbmacPXWorHa
import Derived.Test.YtefkfglkpebbmacPXWorCheck
import Derived.Test.YtefkfglkpebbmacPXWorCopy
import Derived.Test.YtefkfglkpebbmacPXElErrnos
set_option linter.unusedVariables false
set_option linter.unusedSimpArgs false
set_option maxRecDepth 100000
set_option maxHeartbeats 40000000
namespace Go.Proofs.Ytefkfglkpebbmac
open Go.RowKit
variable {Y:Prop}
section
open Go.RowKit
end
end Go.Proofs.Ytefkfglkpebbmac
