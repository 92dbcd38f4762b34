import Derived.Test.YtphelkciklpakaaK9
import Derived.Test.YtphelkciklpakaaW5
import Derived.Test.YtphelkciklpakaaW6
set_option linter.all false
namespace Go.X
open Go Go.RowKit
set_option maxRecDepth 100000
set_option maxHeartbeats 8000000
variable {P : Program} {N : FN}
end Go.X
