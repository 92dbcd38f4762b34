import Derived.Test.YtmbocpoebbijmaaK9
import Derived.Test.YtmbocpoebbijmaaK7
import Derived.Test.YtmbocpoebbijmaaK8
set_option linter.all false
namespace Go.X
open Go Go.RowKit
end Go.X
namespace Go.X
open Go Go.RowKit
section
variable {a : Alg}
end
end Go.X
