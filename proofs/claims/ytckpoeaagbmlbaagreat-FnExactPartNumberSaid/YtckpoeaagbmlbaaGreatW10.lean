import Derived.Test.YtckpoeaagbmlbaaGreatK9
import Derived.Test.YtckpoeaagbmlbaaGreatW5
import Derived.Test.YtckpoeaagbmlbaaGreatW6
set_option linter.all false
namespace Go.X
open Go Go.RowKit
set_option maxRecDepth 100000
set_option maxHeartbeats 8000000
variable {P : Program} {N : FN}
end Go.X
