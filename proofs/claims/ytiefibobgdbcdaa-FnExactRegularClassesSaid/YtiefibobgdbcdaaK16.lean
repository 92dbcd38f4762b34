import Derived.Test.YtiefibobgdbcdaaK15
import Derived.Test.YtiefibobgdbcdaaM1
set_option linter.all false
namespace Go.X
open Go Go.RowKit
def C_toGroup (P : Program) (N : FN) : Prop := ∀ {g : Grp}, Can P N.laws_toGroup [grpD g] (.val (grpD g))
end Go.X
