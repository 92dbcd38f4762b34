import Derived.Test.YtghlfoeiplaanaaGreatK9
import Derived.Test.YtghlfoeiplaanaaGreatW6
import Derived.Test.YtghlfoeiplaanaaGreatW7
set_option linter.all false
namespace Go.X
open Go Go.RowKit
set_option maxRecDepth 100000
set_option maxHeartbeats 8000000
variable {P : Program} {N : FN}
end Go.X
