import Derived.Test.YtiefibobgdbcdaaK16
import Derived.Test.YtiefibobgdbcdaaW14
set_option linter.all false
namespace Go.X
open Go Go.RowKit
set_option maxRecDepth 100000
set_option maxHeartbeats 8000000
set_option linter.unusedVariables false
variable {P : Program} {N : FN}
end Go.X
