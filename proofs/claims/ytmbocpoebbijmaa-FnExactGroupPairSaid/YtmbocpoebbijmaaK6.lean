import Derived.Test.YtmbocpoebbijmaaK5
import Derived.Test.YtmbocpoebbijmaaK3
import Derived.Test.YtmbocpoebbijmaaK4
set_option linter.all false
namespace Go.X
open Go Go.RowKit
end Go.X
namespace Go.X
open Go Go.RowKit
end Go.X
namespace Go.X
open Go Go.RowKit
end Go.X
