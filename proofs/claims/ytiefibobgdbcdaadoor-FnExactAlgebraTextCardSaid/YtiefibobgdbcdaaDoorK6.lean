import Derived.Test.YtiefibobgdbcdaaDoorK5
import Derived.Test.YtiefibobgdbcdaaDoorK3
import Derived.Test.YtiefibobgdbcdaaDoorK4
set_option linter.all false
namespace Go.X
open Go Go.RowKit
end Go.X
namespace Go.X
open Go Go.RowKit
end Go.X
namespace Go.X
open Go Go.RowKit
end Go.X
namespace Go.X
open Go Go.RowKit
end Go.X
