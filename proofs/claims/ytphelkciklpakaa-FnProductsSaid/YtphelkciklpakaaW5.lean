import Derived.Test.YtphelkciklpakaaM1
import Derived.Test.YtphelkciklpakaaK3
set_option linter.all false
namespace Go.X
open Go Go.RowKit
set_option maxRecDepth 100000
set_option maxHeartbeats 8000000
set_option linter.unusedSimpArgs false
set_option linter.unusedVariables false
variable {P : Program} {N : FN}
end Go.X
