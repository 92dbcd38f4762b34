import Derived.Test.YtiefibobgdbcdaaK8
import Derived.Test.YtiefibobgdbcdaaK3
import Derived.Test.YtiefibobgdbcdaaK4
import Derived.Test.YtiefibobgdbcdaaK7
import Derived.Test.YtiefibobgdbcdaaK5
set_option linter.all false
namespace Go.X
open Go Go.RowKit
def FN.laws_eqInt64S (N : FN) : FuncId := N.f 200
def FN.laws_markInt64S (N : FN) : FuncId := N.f 201
def FN.laws_heldInt64S (N : FN) : FuncId := N.f 202
def ir_laws_eqInt64S (N : FN) : CF := ⟨2, 26, [(.tmp 4)], (.seq (.reg false [] [(rO 4 (.mov (.c (.bool false))))]) (.seq (.seq (.reg false [] [(rO 6 (.mov (.t 0))), (rO 7 (.len (.t 6))), (rO 8 (.mov (.t 1))), (rO 9 (.len (.t 8))), (rO 10 (.cmp .neq (.t 7) (.t 9)))]) (.cond (.t 10) (.seq (.reg false [] [(rO 4 (.mov (.c (.bool false))))]) .ret) .skip)) (.seq (.seq (.reg false [] [(rO 5 (.mov (.c (.int .i64 0))))]) (.block 0 (.loop (.seq (.seq (.reg false [] [(rO 11 (.mov (.t 5))), (rO 12 (.mov (.t 0))), (rO 13 (.len (.t 12))), (rO 14 (.cmp .lss (.t 11) (.t 13)))]) (.cond (.t 14) .skip (.exit 0))) (.seq (.block 1 (.seq (.reg true [] [(rO 17 (.mov (.t 0))), (rO 18 (.mov (.t 5))), (rO 19 (.iaddrS 1 (.t 17) (.t 18))), (rO 20 (.load none (.t 19))), (rO 21 (.mov (.t 1))), (rO 22 (.mov (.t 5))), (rO 23 (.iaddrS 1 (.t 21) (.t 22))), (rO 24 (.load none (.t 23))), (rO 25 (.cmp .neq (.t 20) (.t 24)))]) (.cond (.t 25) (.seq (.reg false [] [(rO 4 (.mov (.c (.bool false))))]) .ret) .skip))) (.reg false [] [(rO 15 (.mov (.t 5))), (rO 16 (.arith .add (.t 15) (.c (.int .i64 1)))), (rO 5 (.mov (.t 16)))])))))) (.seq (.reg false [] [(rO 4 (.mov (.c (.bool true))))]) .ret))))⟩
def ir_laws_markInt64S (N : FN) : CF := ⟨2, 19, [(.tmp 4)], (.seq (.reg false [] [(rO 4 (.mov (.c (.int .i64 0))))]) (.seq (.seq (.reg false [] [(rO 5 (.mov (.c (.int .i64 0))))]) (.block 0 (.loop (.seq (.seq (.reg false [] [(rO 6 (.mov (.t 5))), (rO 7 (.mov (.t 0))), (rO 8 (.len (.t 7))), (rO 9 (.cmp .lss (.t 6) (.t 8)))]) (.cond (.t 9) .skip (.exit 0))) (.seq (.block 1 (.seq (.reg false [] [(rO 12 (.mov (.t 0))), (rO 13 (.mov (.t 5))), (rO 14 (.mov (.t 1))), (rO 15 (.iaddrS 1 (.t 12) (.t 13))), ⟨none, 24, (.store none (.t 15) (.t 14)), none, [], none⟩]) (.reg false [] [(rO 16 (.mov (.t 1))), (rO 17 (.arith .add (.t 16) (.c (.int .i64 1)))), (rO 1 (.mov (.t 17)))]))) (.reg false [] [(rO 10 (.mov (.t 5))), (rO 11 (.arith .add (.t 10) (.c (.int .i64 1)))), (rO 5 (.mov (.t 11)))])))))) (.seq (.reg false [] [(rO 18 (.mov (.t 1))), (rO 4 (.mov (.t 18)))]) .ret)))⟩
def ir_laws_heldInt64S (N : FN) : CF := ⟨2, 21, [(.tmp 4)], (.seq (.reg false [] [(rO 4 (.mov (.c (.int .i64 0))))]) (.seq (.seq (.reg false [] [(rO 5 (.mov (.c (.int .i64 0))))]) (.block 0 (.loop (.seq (.seq (.reg false [] [(rO 6 (.mov (.t 5))), (rO 7 (.mov (.t 0))), (rO 8 (.len (.t 7))), (rO 9 (.cmp .lss (.t 6) (.t 8)))]) (.cond (.t 9) .skip (.exit 0))) (.seq (.block 1 (.seq (.seq (.reg false [] [(rO 12 (.mov (.t 0))), (rO 13 (.mov (.t 5))), (rO 14 (.iaddrS 1 (.t 12) (.t 13))), (rO 15 (.load none (.t 14))), (rO 16 (.mov (.t 1))), (rO 17 (.cmp .neq (.t 15) (.t 16)))]) (.cond (.t 17) (.seq (.reg false [] [(rO 4 (.mov (.c (.int .i64 (-1)))))]) .ret) .skip)) (.reg false [] [(rO 18 (.mov (.t 1))), (rO 19 (.arith .add (.t 18) (.c (.int .i64 1)))), (rO 1 (.mov (.t 19)))]))) (.reg false [] [(rO 10 (.mov (.t 5))), (rO 11 (.arith .add (.t 10) (.c (.int .i64 1)))), (rO 5 (.mov (.t 11)))])))))) (.seq (.reg false [] [(rO 20 (.mov (.t 1))), (rO 4 (.mov (.t 20)))]) .ret)))⟩
end Go.X
namespace Go.X
open Go Go.RowKit
section
variable {a : Alg}
end
end Go.X
namespace Go.X
open Go Go.RowKit
end Go.X
