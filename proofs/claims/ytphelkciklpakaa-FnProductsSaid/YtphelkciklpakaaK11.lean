import Derived.Test.YtphelkciklpakaaK10
set_option linter.all false
namespace Go.X
open Go Go.RowKit
end Go.X
namespace Go.X
open Go Go.RowKit
section
variable {a : Alg}
end
end Go.X
namespace Go.X
open Go Go.RowKit
section
variable {a : Alg}
end
end Go.X
