import Derived.Test.YtphelkciklpakaaK12
import Derived.Test.YtphelkciklpakaaK2
import Derived.Test.YtphelkciklpakaaK3
set_option linter.all false
namespace Go.X
open Go Go.RowKit
end Go.X
namespace Go.X
open Go Go.RowKit
end Go.X
