import Derived.Test.YtiefibobgdbcdaaK9
import Derived.Test.YtiefibobgdbcdaaK7
import Derived.Test.YtiefibobgdbcdaaK8
set_option linter.all false
namespace Go.X
open Go Go.RowKit
def FN.slices_ContainsFunc_Lint64_int64 (N : FN) : FuncId := N.f 211
def ir_slices_ContainsFunc_Lint64_int64 (N : FN) : CF := ⟨2, 9, [(.tmp 4)], (.seq (.reg false [] [(rO 4 (.mov (.c (.bool false))))]) (.seq (.reg false [8] [(rO 5 (.mov (.t 0))), (rO 6 (.mov (.t 1))), (rO 7 (.call N.slices_IndexFunc_Lint64_int64 [(.t 5), (.t 6)])), (rO 8 (.cmp .geq (.t 7) (.c (.int .i64 0)))), (rO 4 (.mov (.t 8)))]) .ret))⟩
end Go.X
namespace Go.X
open Go Go.RowKit
section
variable {a : Alg}
end
end Go.X
