import Derived.Test.YtphelkciklpakaaK8
import Derived.Test.YtphelkciklpakaaK3
import Derived.Test.YtphelkciklpakaaK4
import Derived.Test.YtphelkciklpakaaK7
import Derived.Test.YtphelkciklpakaaK5
set_option linter.all false
namespace Go.X
open Go Go.RowKit
end Go.X
namespace Go.X
open Go Go.RowKit
section
variable {a : Alg}
end
end Go.X
namespace Go.X
open Go Go.RowKit
end Go.X
