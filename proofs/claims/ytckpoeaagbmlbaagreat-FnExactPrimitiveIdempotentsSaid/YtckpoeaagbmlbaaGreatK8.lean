import Derived.Test.YtckpoeaagbmlbaaGreatK7
import Derived.Test.YtckpoeaagbmlbaaGreatK6
import Derived.Test.YtckpoeaagbmlbaaGreatK4
set_option linter.all false
namespace Go.X
open Go Go.RowKit
def FN.impl_commutes (N : FN) : FuncId := N.f 172
def FN.spec_l05Code (N : FN) : FuncId := N.f 173
def FN.impl_IsLocal (N : FN) : FuncId := N.f 174
def FN.spec_IsLocal (N : FN) : FuncId := N.f 175
def FN.impl_CountIdempotents (N : FN) : FuncId := N.f 176
def FN.spec_CountIdempotents (N : FN) : FuncId := N.f 177
def FN.laws_FnExactIsLocal (N : FN) : FuncId := N.f 178
def FN.laws_FnExactCountIdempotents (N : FN) : FuncId := N.f 179
def FN.impl_IsPrimitive (N : FN) : FuncId := N.f 180
def FN.slices_Contains_Limpl_Vector_impl_Vector (N : FN) : FuncId := N.f 181
def FN.spec_IsPrimitive (N : FN) : FuncId := N.f 182
def FN.spec_l05Is (N : FN) : FuncId := N.f 183
def FN.slices_Index_Limpl_Vector_impl_Vector (N : FN) : FuncId := N.f 184
def FN.laws_FnExactIsPrimitive (N : FN) : FuncId := N.f 185
def FN.laws_FnExactPrimitiveIdempotents (N : FN) : FuncId := N.f 186
def FN.spec_PrimitiveIdempotents (N : FN) : FuncId := N.f 187
def FN.impl_PrimitiveIdempotents (N : FN) : FuncId := N.f 188
def ir_impl_commutes (N : FN) : CF := ⟨2, 14, [(.tmp 4)], (.seq (.reg false [3] [(rO 2 (.box (.t 0))), (rO 4 (.mov (.c (.int .i64 0))))]) (.seq (.seq (.reg false [9] [(rO 6 (.load (some 224) (.t 2))), (rO 7 (.mov (.t 1))), (rO 8 (.call N.impl_valid [(.t 6), (.t 7)])), (rO 5 (.mov (.t 8)))]) (.seq (.reg false [] [(rO 9 (.mov (.t 5))), (rO 10 (.cmp .neq (.t 9) (.c (.int .i64 0))))]) (.cond (.t 10) (.seq (.reg false [] [(rO 11 (.mov (.t 5))), (rO 4 (.mov (.t 11)))]) .ret) .skip))) (.seq (.seq (.reg false [13] [(rO 12 (.call N.impl_Algebra_commutative [(.t 2)])), (rO 13 (.not (.t 12)))]) (.cond (.t 13) (.seq (.reg false [] [(rO 4 (.mov (.c (.int .i64 5))))]) .ret) .skip)) (.seq (.reg false [] [(rO 4 (.mov (.c (.int .i64 0))))]) .ret))))⟩
def ir_spec_l05Code (N : FN) : CF := ⟨2, 15, [(.tmp 4)], (.seq (.reg false [3] [(rO 2 (.box (.t 0))), (rO 4 (.mov (.c (.int .i64 0))))]) (.seq (.seq (.reg false [9] [(rO 6 (.load (some 224) (.t 2))), (rO 7 (.mov (.t 1))), (rO 8 (.call N.spec_l01Code [(.t 6), (.t 7)])), (rO 5 (.mov (.t 8)))]) (.seq (.reg false [] [(rO 9 (.mov (.t 5))), (rO 10 (.cmp .neq (.t 9) (.c (.int .i64 0))))]) (.cond (.t 10) (.seq (.reg false [] [(rO 11 (.mov (.t 5))), (rO 4 (.mov (.t 11)))]) .ret) .skip))) (.seq (.seq (.reg false [14] [(rO 12 (.load (some 224) (.t 2))), (rO 13 (.call N.spec_l01Commutative [(.t 12)])), (rO 14 (.not (.t 13)))]) (.cond (.t 14) (.seq (.reg false [] [(rO 4 (.mov (.c (.int .i64 5))))]) .ret) .skip)) (.seq (.reg false [] [(rO 4 (.mov (.c (.int .i64 0))))]) .ret))))⟩
def ir_impl_IsLocal (N : FN) : CF := ⟨1, 13, [(.tmp 2), (.tmp 3)], (.seq (.reg false [2] [(rO 1 (.box (.t 0))), (rO 2 (.mov (.c (.bool false)))), (rO 3 (.mov (.c (.int .i64 0))))]) (.seq (.seq (.reg false [7] [(rO 5 (.load (some 224) (.t 1))), (rO 6 (.call N.impl_commutes [(.t 5), (.c .emp)])), (rO 4 (.mov (.t 6)))]) (.seq (.reg false [] [(rO 7 (.mov (.t 4))), (rO 8 (.cmp .neq (.t 7) (.c (.int .i64 0))))]) (.cond (.t 8) (.seq (.reg false [] [(rO 9 (.mov (.t 4))), (rO 2 (.mov (.c (.bool false)))), (rO 3 (.mov (.t 9)))]) .ret) .skip))) (.seq (.reg false [11] [(rO 10 (.call N.impl_Algebra_primitives [(.t 1)])), (rO 11 (.len (.t 10))), (rO 12 (.cmp .eql (.t 11) (.c (.int .i64 1)))), (rO 2 (.mov (.t 12))), (rO 3 (.mov (.c (.int .i64 0))))]) .ret)))⟩
def ir_spec_IsLocal (N : FN) : CF := ⟨1, 14, [(.tmp 2), (.tmp 3)], (.seq (.reg false [2] [(rO 1 (.box (.t 0))), (rO 2 (.mov (.c (.bool false)))), (rO 3 (.mov (.c (.int .i64 0))))]) (.seq (.seq (.reg false [7] [(rO 5 (.load (some 224) (.t 1))), (rO 6 (.call N.spec_l05Code [(.t 5), (.c .emp)])), (rO 4 (.mov (.t 6)))]) (.seq (.reg false [] [(rO 7 (.mov (.t 4))), (rO 8 (.cmp .neq (.t 7) (.c (.int .i64 0))))]) (.cond (.t 8) (.seq (.reg false [] [(rO 9 (.mov (.t 4))), (rO 2 (.mov (.c (.bool false)))), (rO 3 (.mov (.t 9)))]) .ret) .skip))) (.seq (.reg false [12] [(rO 10 (.load (some 224) (.t 1))), (rO 11 (.call N.spec_l05Primitive [(.t 10)])), (rO 12 (.len (.t 11))), (rO 13 (.cmp .eql (.t 12) (.c (.int .i64 1)))), (rO 2 (.mov (.t 13))), (rO 3 (.mov (.c (.int .i64 0))))]) .ret)))⟩
def ir_impl_CountIdempotents (N : FN) : CF := ⟨1, 13, [(.tmp 2), (.tmp 3)], (.seq (.reg false [2] [(rO 1 (.box (.t 0))), (rO 2 (.mov (.c (.int .i64 0)))), (rO 3 (.mov (.c (.int .i64 0))))]) (.seq (.seq (.reg false [7] [(rO 5 (.load (some 224) (.t 1))), (rO 6 (.call N.impl_commutes [(.t 5), (.c .emp)])), (rO 4 (.mov (.t 6)))]) (.seq (.reg false [] [(rO 7 (.mov (.t 4))), (rO 8 (.cmp .neq (.t 7) (.c (.int .i64 0))))]) (.cond (.t 8) (.seq (.reg false [] [(rO 9 (.mov (.t 4))), (rO 2 (.mov (.c (.int .i64 0)))), (rO 3 (.mov (.t 9)))]) .ret) .skip))) (.seq (.reg false [11] [(rO 10 (.call N.impl_Algebra_primitives [(.t 1)])), (rO 11 (.len (.t 10))), (rO 12 (.arith .shl (.c (.int .i64 1)) (.t 11))), (rO 2 (.mov (.t 12))), (rO 3 (.mov (.c (.int .i64 0))))]) .ret)))⟩
def ir_spec_CountIdempotents (N : FN) : CF := ⟨1, 22, [(.tmp 2), (.tmp 3)], (.seq (.reg false [2] [(rO 1 (.box (.t 0))), (rO 2 (.mov (.c (.int .i64 0)))), (rO 3 (.mov (.c (.int .i64 0))))]) (.seq (.seq (.reg false [9] [(rO 7 (.load (some 224) (.t 1))), (rO 8 (.call N.spec_l05Code [(.t 7), (.c .emp)])), (rO 4 (.mov (.t 8)))]) (.seq (.reg false [] [(rO 9 (.mov (.t 4))), (rO 10 (.cmp .neq (.t 9) (.c (.int .i64 0))))]) (.cond (.t 10) (.seq (.reg false [] [(rO 11 (.mov (.t 4))), (rO 2 (.mov (.c (.int .i64 0)))), (rO 3 (.mov (.t 11)))]) .ret) .skip))) (.seq (.reg false [] [(rO 5 (.mov (.c (.int .i64 1))))]) (.seq (.seq (.reg false [14] [(rO 12 (.load (some 224) (.t 1))), (rO 13 (.call N.spec_l05Primitive [(.t 12)])), (rO 14 (.len (.t 13))), (rO 6 (.mov (.t 14)))]) (.block 0 (.loop (.seq (.seq (.reg false [] [(rO 15 (.mov (.t 6))), (rO 16 (.cmp .gtr (.t 15) (.c (.int .i64 0))))]) (.cond (.t 16) .skip (.exit 0))) (.seq (.block 1 (.reg false [] [(rO 19 (.mov (.t 5))), (rO 20 (.arith .mul (.t 19) (.c (.int .i64 2)))), (rO 5 (.mov (.t 20)))])) (.reg false [] [(rO 17 (.mov (.t 6))), (rO 18 (.arith .sub (.t 17) (.c (.int .i64 1)))), (rO 6 (.mov (.t 18)))])))))) (.seq (.reg false [] [(rO 21 (.mov (.t 5))), (rO 2 (.mov (.t 21))), (rO 3 (.mov (.c (.int .i64 0))))]) .ret)))))⟩
def ir_laws_FnExactIsLocal (N : FN) : CF := ⟨1, 27, [(.tmp 2)], (.seq (.reg false [2] [(rO 1 (.box (.t 0))), (rO 2 (.mov (.c (.bool false))))]) (.seq (.reg false [10, 11] [(rO 8 (.load (some 224) (.t 1))), (rO 9 (.call N.laws_toAlgebra [(.t 8)])), (rO 10 (.call N.spec_IsLocal [(.t 9)])), (rO 7 (.mov (.t 10))), (rO 11 (.extract (.t 7) 0)), (rO 12 (.extract (.t 7) 1)), (rO 3 (.mov (.t 11))), (rO 4 (.mov (.t 12)))]) (.seq (.reg false [16, 17] [(rO 14 (.load (some 224) (.t 1))), (rO 15 (.call N.laws_toAlgebra [(.t 14)])), (rO 16 (.call N.impl_IsLocal [(.t 15)])), (rO 13 (.mov (.t 16))), (rO 17 (.extract (.t 13) 0)), (rO 18 (.extract (.t 13) 1)), (rO 5 (.mov (.t 17))), (rO 6 (.mov (.t 18)))]) (.seq (.seq (.reg false [] [(rO 19 (.mov (.t 5))), (rO 20 (.mov (.t 3))), (rO 21 (.cmpB true (.t 19) (.t 20))), (rO 22 (.mov (.t 21))), ⟨(some 23), 24, (.mov (.t 6)), (some (22, false)), [], none⟩, ⟨(some 24), 25, (.mov (.t 4)), (some (22, false)), [], none⟩, ⟨(some 25), 26, (.cmp .neq (.t 23) (.t 24)), (some (22, false)), [], none⟩, (rO 26 (.pick (.t 22) (.c (.bool true)) (.t 25)))]) (.cond (.t 26) (.seq (.reg false [] [(rO 2 (.mov (.c (.bool false))))]) .ret) .skip)) (.seq (.reg false [] [(rO 2 (.mov (.c (.bool true))))]) .ret)))))⟩
def ir_laws_FnExactCountIdempotents (N : FN) : CF := ⟨1, 27, [(.tmp 2)], (.seq (.reg false [2] [(rO 1 (.box (.t 0))), (rO 2 (.mov (.c (.bool false))))]) (.seq (.reg false [10, 11] [(rO 8 (.load (some 224) (.t 1))), (rO 9 (.call N.laws_toAlgebra [(.t 8)])), (rO 10 (.call N.spec_CountIdempotents [(.t 9)])), (rO 7 (.mov (.t 10))), (rO 11 (.extract (.t 7) 0)), (rO 12 (.extract (.t 7) 1)), (rO 3 (.mov (.t 11))), (rO 4 (.mov (.t 12)))]) (.seq (.reg false [16, 17] [(rO 14 (.load (some 224) (.t 1))), (rO 15 (.call N.laws_toAlgebra [(.t 14)])), (rO 16 (.call N.impl_CountIdempotents [(.t 15)])), (rO 13 (.mov (.t 16))), (rO 17 (.extract (.t 13) 0)), (rO 18 (.extract (.t 13) 1)), (rO 5 (.mov (.t 17))), (rO 6 (.mov (.t 18)))]) (.seq (.seq (.reg false [] [(rO 19 (.mov (.t 5))), (rO 20 (.mov (.t 3))), (rO 21 (.cmp .neq (.t 19) (.t 20))), (rO 22 (.mov (.t 21))), ⟨(some 23), 24, (.mov (.t 6)), (some (22, false)), [], none⟩, ⟨(some 24), 25, (.mov (.t 4)), (some (22, false)), [], none⟩, ⟨(some 25), 26, (.cmp .neq (.t 23) (.t 24)), (some (22, false)), [], none⟩, (rO 26 (.pick (.t 22) (.c (.bool true)) (.t 25)))]) (.cond (.t 26) (.seq (.reg false [] [(rO 2 (.mov (.c (.bool false))))]) .ret) .skip)) (.seq (.reg false [] [(rO 2 (.mov (.c (.bool true))))]) .ret)))))⟩
def ir_impl_IsPrimitive (N : FN) : CF := ⟨2, 17, [(.tmp 4), (.tmp 5)], (.seq (.reg false [3, 4] [(rO 2 (.box (.t 0))), (rO 3 (.box (.t 1))), (rO 4 (.mov (.c (.bool false)))), (rO 5 (.mov (.c (.int .i64 0))))]) (.seq (.seq (.reg false [10, 11] [(rO 7 (.load (some 224) (.t 2))), (rO 8 (.load (some 6) (.t 3))), (rO 9 (.bslice 6 [(.t 8)])), (rO 10 (.call N.impl_commutes [(.t 7), (.t 9)])), (rO 6 (.mov (.t 10)))]) (.seq (.reg false [] [(rO 11 (.mov (.t 6))), (rO 12 (.cmp .neq (.t 11) (.c (.int .i64 0))))]) (.cond (.t 12) (.seq (.reg false [] [(rO 13 (.mov (.t 6))), (rO 4 (.mov (.c (.bool false)))), (rO 5 (.mov (.t 13)))]) .ret) .skip))) (.seq (.reg true [15, 17] [⟨(some 14), 15, (.call N.impl_Algebra_primitives [(.t 2)]), none, [17], none⟩, ⟨(some 15), 16, (.load (some 6) (.t 3)), none, [15, 17], none⟩, (rO 16 (.call N.slices_Contains_Limpl_Vector_impl_Vector [(.t 14), (.t 15)])), (rO 4 (.mov (.t 16))), (rO 5 (.mov (.c (.int .i64 0))))]) .ret)))⟩
def ir_spec_IsPrimitive (N : FN) : CF := ⟨2, 17, [(.tmp 4), (.tmp 5)], (.seq (.reg false [3, 4] [(rO 2 (.box (.t 0))), (rO 3 (.box (.t 1))), (rO 4 (.mov (.c (.bool false)))), (rO 5 (.mov (.c (.int .i64 0))))]) (.seq (.seq (.reg false [10, 11] [(rO 7 (.load (some 224) (.t 2))), (rO 8 (.load (some 6) (.t 3))), (rO 9 (.bslice 6 [(.t 8)])), (rO 10 (.call N.spec_l05Code [(.t 7), (.t 9)])), (rO 6 (.mov (.t 10)))]) (.seq (.reg false [] [(rO 11 (.mov (.t 6))), (rO 12 (.cmp .neq (.t 11) (.c (.int .i64 0))))]) (.cond (.t 12) (.seq (.reg false [] [(rO 13 (.mov (.t 6))), (rO 4 (.mov (.c (.bool false)))), (rO 5 (.mov (.t 13)))]) .ret) .skip))) (.seq (.reg false [17] [(rO 14 (.load (some 224) (.t 2))), (rO 15 (.load (some 6) (.t 3))), (rO 16 (.call N.spec_l05Is [(.t 14), (.t 15)])), (rO 4 (.mov (.t 16))), (rO 5 (.mov (.c (.int .i64 0))))]) .ret)))⟩
def ir_spec_l05Is (N : FN) : CF := ⟨2, 21, [(.tmp 4)], (.seq (.reg false [3, 4] [(rO 2 (.box (.t 0))), (rO 3 (.box (.t 1))), (rO 4 (.mov (.c (.bool false))))]) (.seq (.reg false [9] [(rO 7 (.load (some 224) (.t 2))), (rO 8 (.call N.spec_l05Primitive [(.t 7)])), (rO 5 (.mov (.t 8)))]) (.seq (.seq (.reg false [] [(rO 6 (.mov (.c (.int .i64 0))))]) (.block 0 (.loop (.seq (.seq (.reg false [] [(rO 9 (.mov (.t 6))), (rO 10 (.mov (.t 5))), (rO 11 (.len (.t 10))), (rO 12 (.cmp .lss (.t 9) (.t 11)))]) (.cond (.t 12) .skip (.exit 0))) (.seq (.block 1 (.seq (.reg true [] [(rO 15 (.mov (.t 5))), (rO 16 (.mov (.t 6))), (rO 17 (.iaddrS 6 (.t 15) (.t 16))), (rO 18 (.load (some 6) (.t 17))), (rO 19 (.load (some 6) (.t 3))), (rO 20 (.eqa false [(.int .u8), (.int .u8), (.int .u8), (.int .u8), (.int .u8), (.int .u8)] (.t 18) (.t 19)))]) (.cond (.t 20) (.seq (.reg false [] [(rO 4 (.mov (.c (.bool true))))]) .ret) .skip))) (.reg false [] [(rO 13 (.mov (.t 6))), (rO 14 (.arith .add (.t 13) (.c (.int .i64 1)))), (rO 6 (.mov (.t 14)))])))))) (.seq (.reg false [] [(rO 4 (.mov (.c (.bool false))))]) .ret))))⟩
def ir_slices_Contains_Limpl_Vector_impl_Vector (N : FN) : CF := ⟨2, 9, [(.tmp 4)], (.seq (.reg false [4] [(rO 3 (.box (.t 1))), (rO 4 (.mov (.c (.bool false))))]) (.seq (.reg false [8] [(rO 5 (.mov (.t 0))), (rO 6 (.load (some 6) (.t 3))), (rO 7 (.call N.slices_Index_Limpl_Vector_impl_Vector [(.t 5), (.t 6)])), (rO 8 (.cmp .geq (.t 7) (.c (.int .i64 0)))), (rO 4 (.mov (.t 8)))]) .ret))⟩
def ir_slices_Index_Limpl_Vector_impl_Vector (N : FN) : CF := ⟨2, 19, [(.tmp 4)], (.seq (.reg false [4] [(rO 3 (.box (.t 1))), (rO 4 (.mov (.c (.int .i64 0))))]) (.seq (.seq (.reg false [] [(rO 6 (.mov (.t 0))), (rO 7 (.len (.t 6))), (rO 8 (.mov (.c (.int .i64 0))))]) (.block 0 (.loop (.seq (.reg false [] [(rO 9 (.cmp .lss (.t 8) (.t 7)))]) (.seq (.cond (.t 9) .skip (.exit 0)) (.seq (.block 1 (.seq (.reg false [] [(rO 10 (.mov (.t 8))), (rO 5 (.mov (.t 10)))]) (.seq (.reg true [] [(rO 11 (.load (some 6) (.t 3))), (rO 12 (.mov (.t 0))), (rO 13 (.mov (.t 5))), (rO 14 (.iaddrS 6 (.t 12) (.t 13))), (rO 15 (.load (some 6) (.t 14))), (rO 16 (.eqa false [(.int .u8), (.int .u8), (.int .u8), (.int .u8), (.int .u8), (.int .u8)] (.t 11) (.t 15)))]) (.cond (.t 16) (.seq (.reg false [] [(rO 17 (.mov (.t 5))), (rO 4 (.mov (.t 17)))]) .ret) .skip)))) (.reg false [] [(rO 18 (.arith .add (.t 8) (.c (.int .i64 1)))), (rO 8 (.mov (.t 18)))]))))))) (.seq (.reg false [] [(rO 4 (.mov (.c (.int .i64 (-1)))))]) .ret)))⟩
def ir_laws_FnExactIsPrimitive (N : FN) : CF := ⟨2, 33, [(.tmp 4)], (.seq (.reg false [3, 4] [(rO 2 (.box (.t 0))), (rO 3 (.box (.t 1))), (rO 4 (.mov (.c (.bool false))))]) (.seq (.reg true [12, 14, 15] [⟨(some 10), 11, (.load (some 224) (.t 2)), none, [12, 14, 15], none⟩, ⟨(some 11), 12, (.call N.laws_toAlgebra [(.t 10)]), none, [14, 15], none⟩, ⟨(some 12), 13, (.load (some 6) (.t 3)), none, [12, 14, 15], none⟩, ⟨(some 13), 14, (.call N.laws_toVector [(.t 12)]), none, [15], none⟩, (rO 14 (.call N.spec_IsPrimitive [(.t 11), (.t 13)])), (rO 9 (.mov (.t 14))), (rO 15 (.extract (.t 9) 0)), (rO 16 (.extract (.t 9) 1)), (rO 5 (.mov (.t 15))), (rO 6 (.mov (.t 16)))]) (.seq (.reg true [20, 22, 23] [⟨(some 18), 19, (.load (some 224) (.t 2)), none, [20, 22, 23], none⟩, ⟨(some 19), 20, (.call N.laws_toAlgebra [(.t 18)]), none, [22, 23], none⟩, ⟨(some 20), 21, (.load (some 6) (.t 3)), none, [20, 22, 23], none⟩, ⟨(some 21), 22, (.call N.laws_toVector [(.t 20)]), none, [23], none⟩, (rO 22 (.call N.impl_IsPrimitive [(.t 19), (.t 21)])), (rO 17 (.mov (.t 22))), (rO 23 (.extract (.t 17) 0)), (rO 24 (.extract (.t 17) 1)), (rO 7 (.mov (.t 23))), (rO 8 (.mov (.t 24)))]) (.seq (.seq (.reg false [] [(rO 25 (.mov (.t 7))), (rO 26 (.mov (.t 5))), (rO 27 (.cmpB true (.t 25) (.t 26))), (rO 28 (.mov (.t 27))), ⟨(some 29), 30, (.mov (.t 8)), (some (28, false)), [], none⟩, ⟨(some 30), 31, (.mov (.t 6)), (some (28, false)), [], none⟩, ⟨(some 31), 32, (.cmp .neq (.t 29) (.t 30)), (some (28, false)), [], none⟩, (rO 32 (.pick (.t 28) (.c (.bool true)) (.t 31)))]) (.cond (.t 32) (.seq (.reg false [] [(rO 4 (.mov (.c (.bool false))))]) .ret) .skip)) (.seq (.reg false [] [(rO 4 (.mov (.c (.bool true))))]) .ret)))))⟩
def ir_laws_FnExactPrimitiveIdempotents (N : FN) : CF := ⟨1, 66, [(.tmp 2)], (.seq (.reg false [2] [(rO 1 (.box (.t 0))), (rO 2 (.mov (.c (.bool false))))]) (.seq (.reg false [14, 15] [(rO 12 (.load (some 224) (.t 1))), (rO 13 (.call N.laws_toAlgebra [(.t 12)])), (rO 14 (.call N.spec_PrimitiveIdempotents [(.t 13)])), (rO 11 (.mov (.t 14))), (rO 15 (.extract (.t 11) 0)), (rO 16 (.extract (.t 11) 1)), (rO 3 (.mov (.t 15))), (rO 4 (.mov (.t 16)))]) (.seq (.reg false [20, 21] [(rO 18 (.load (some 224) (.t 1))), (rO 19 (.call N.laws_toAlgebra [(.t 18)])), (rO 20 (.call N.impl_PrimitiveIdempotents [(.t 19)])), (rO 17 (.mov (.t 20))), (rO 21 (.extract (.t 17) 0)), (rO 22 (.extract (.t 17) 1)), (rO 5 (.mov (.t 21))), (rO 6 (.mov (.t 22)))]) (.seq (.seq (.reg false [26] [(rO 23 (.mov (.t 5))), (rO 24 (.mov (.t 3))), (rO 25 (.call N.laws_eqVectorS [(.t 23), (.t 24)])), (rO 26 (.not (.t 25))), (rO 27 (.mov (.t 26))), ⟨(some 28), 29, (.mov (.t 6)), (some (27, false)), [], none⟩, ⟨(some 29), 30, (.mov (.t 4)), (some (27, false)), [], none⟩, ⟨(some 30), 31, (.cmp .neq (.t 28) (.t 29)), (some (27, false)), [], none⟩, (rO 31 (.pick (.t 27) (.c (.bool true)) (.t 30)))]) (.cond (.t 31) (.seq (.reg false [] [(rO 2 (.mov (.c (.bool false))))]) .ret) .skip)) (.seq (.reg false [] [(rO 7 (.mov (.c (.int .i64 1))))]) (.seq (.reg false [35] [(rO 32 (.mov (.t 5))), (rO 33 (.mov (.t 7))), (rO 34 (.callM N.laws_markVectorS (.t 32) [(.t 33)])), (rO 7 (.mov (.t 34)))]) (.seq (.reg false [] [(rO 8 (.mov (.c (.int .i64 1))))]) (.seq (.reg false [38] [(rO 35 (.mov (.t 5))), (rO 36 (.mov (.t 8))), (rO 37 (.call N.laws_heldVectorS [(.t 35), (.t 36)])), (rO 8 (.mov (.t 37)))]) (.seq (.seq (.reg false [] [(rO 38 (.mov (.t 8))), (rO 39 (.cmp .lss (.t 38) (.c (.int .i64 0))))]) (.cond (.t 39) (.seq (.reg false [] [(rO 2 (.mov (.c (.bool false))))]) .ret) .skip)) (.seq (.seq (.reg false [] [(rO 40 (.mov (.t 8))), (rO 41 (.mov (.t 7))), (rO 42 (.cmp .neq (.t 40) (.t 41)))]) (.cond (.t 42) (.seq (.reg false [] [(rO 2 (.mov (.c (.bool false))))]) .ret) .skip)) (.seq (.reg false [46, 47] [(rO 44 (.load (some 224) (.t 1))), (rO 45 (.call N.laws_toAlgebra [(.t 44)])), (rO 46 (.call N.impl_PrimitiveIdempotents [(.t 45)])), (rO 43 (.mov (.t 46))), (rO 47 (.extract (.t 43) 0)), (rO 48 (.extract (.t 43) 1)), (rO 9 (.mov (.t 47))), (rO 10 (.mov (.t 48)))]) (.seq (.seq (.reg false [52] [(rO 49 (.mov (.t 9))), (rO 50 (.mov (.t 3))), (rO 51 (.call N.laws_eqVectorS [(.t 49), (.t 50)])), (rO 52 (.not (.t 51))), (rO 53 (.mov (.t 52))), ⟨(some 54), 55, (.mov (.t 10)), (some (53, false)), [], none⟩, ⟨(some 55), 56, (.mov (.t 4)), (some (53, false)), [], none⟩, ⟨(some 56), 57, (.cmp .neq (.t 54) (.t 55)), (some (53, false)), [], none⟩, (rO 57 (.pick (.t 53) (.c (.bool true)) (.t 56)))]) (.cond (.t 57) (.seq (.reg false [] [(rO 2 (.mov (.c (.bool false))))]) .ret) .skip)) (.seq (.reg false [] [(rO 8 (.mov (.c (.int .i64 1))))]) (.seq (.reg false [61] [(rO 58 (.mov (.t 5))), (rO 59 (.mov (.t 8))), (rO 60 (.call N.laws_heldVectorS [(.t 58), (.t 59)])), (rO 8 (.mov (.t 60)))]) (.seq (.seq (.reg false [] [(rO 61 (.mov (.t 8))), (rO 62 (.cmp .lss (.t 61) (.c (.int .i64 0))))]) (.cond (.t 62) (.seq (.reg false [] [(rO 2 (.mov (.c (.bool false))))]) .ret) .skip)) (.seq (.seq (.reg false [] [(rO 63 (.mov (.t 8))), (rO 64 (.mov (.t 7))), (rO 65 (.cmp .neq (.t 63) (.t 64)))]) (.cond (.t 65) (.seq (.reg false [] [(rO 2 (.mov (.c (.bool false))))]) .ret) .skip)) (.seq (.reg false [] [(rO 2 (.mov (.c (.bool true))))]) .ret)))))))))))))))))⟩
def ir_impl_PrimitiveIdempotents (N : FN) : CF := ⟨1, 11, [(.tmp 2), (.tmp 3)], (.seq (.reg false [2] [(rO 1 (.box (.t 0))), (rO 2 (.mov (.c .emp))), (rO 3 (.mov (.c (.int .i64 0))))]) (.seq (.seq (.reg false [7] [(rO 5 (.load (some 224) (.t 1))), (rO 6 (.call N.impl_commutes [(.t 5), (.c .emp)])), (rO 4 (.mov (.t 6)))]) (.seq (.reg false [] [(rO 7 (.mov (.t 4))), (rO 8 (.cmp .neq (.t 7) (.c (.int .i64 0))))]) (.cond (.t 8) (.seq (.reg false [] [(rO 9 (.mov (.t 4))), (rO 2 (.mov (.c .emp))), (rO 3 (.mov (.t 9)))]) .ret) .skip))) (.seq (.reg false [11] [(rO 10 (.call N.impl_Algebra_primitives [(.t 1)])), (rO 2 (.mov (.t 10))), (rO 3 (.mov (.c (.int .i64 0))))]) .ret)))⟩
def ir_spec_PrimitiveIdempotents (N : FN) : CF := ⟨1, 12, [(.tmp 2), (.tmp 3)], (.seq (.reg false [2] [(rO 1 (.box (.t 0))), (rO 2 (.mov (.c .emp))), (rO 3 (.mov (.c (.int .i64 0))))]) (.seq (.seq (.reg false [7] [(rO 5 (.load (some 224) (.t 1))), (rO 6 (.call N.spec_l05Code [(.t 5), (.c .emp)])), (rO 4 (.mov (.t 6)))]) (.seq (.reg false [] [(rO 7 (.mov (.t 4))), (rO 8 (.cmp .neq (.t 7) (.c (.int .i64 0))))]) (.cond (.t 8) (.seq (.reg false [] [(rO 9 (.mov (.t 4))), (rO 2 (.mov (.c .emp))), (rO 3 (.mov (.t 9)))]) .ret) .skip))) (.seq (.reg false [12] [(rO 10 (.load (some 224) (.t 1))), (rO 11 (.call N.spec_l05Primitive [(.t 10)])), (rO 2 (.mov (.t 11))), (rO 3 (.mov (.c (.int .i64 0))))]) .ret)))⟩
end Go.X
namespace Go.X
open Go Go.RowKit
def C_sPower5 (P : Program) (N : FN) : Prop := ∀ {a : Alg} {v : Nat → Int} {k : Nat}, AlgOk a → Byts v → k ≤ 1000 → Can P N.spec_l05Power [algD a, vecD v, .int .i64 k] (.val (vecD (foldV a (sUnit a) v k)))
def frobI (a : Alg) (v : Nat → Int) : Nat → Nat → Int
  | 0 => v
  | t + 1 => foldV a (iUnit a) (frobI a v t) a.p.toNat
def C_frobPow (P : Program) (N : FN) : Prop := ∀ {sz : Nat} {l : List (List D)} {e off : Nat} {a : Alg} {v : Nat → Int} {t : Nat}, AlgAt l e off a → AlgOk a → Byts v → t ≤ 100 → Can P N.impl_Algebra_frobeniusPower [.pd sz l e off, vecD v, .int .i64 t] (.val (vecD (frobI a v t)))
end Go.X
namespace Go.X
open Go Go.RowKit
section
variable {a : Alg}
def trc (k : Nat) (b : Nat → Int) : Nat → Int := fun i => if i < k then b i else 0
theorem in_trc (h : CA a) {b : Nat → Int} (hb : InA a b) (k : Nat) : InA a (trc k b) := ⟨fun i => by
  have := h.p1
  unfold trc; split
  · exact hb.1 i
  · omega, fun i hi => by unfold trc; rw [hb.2 i hi]; split <;> rfl⟩
theorem trc_succ (h : CA a) {b : Nat → Int} (hb : InA a b) (k : Nat) : trc (k + 1) b = vadd a.p (trc k b) (vsc a.p (b k) (basV k)) := funext fun i => by
  show (if i < k + 1 then b i else 0) = ((if i < k then b i else 0) + b k * (if i = k then 1 else 0) % a.p) % a.p
  by_cases c : i = k
  · subst c
    rw [if_pos (Nat.lt_succ_self _), if_neg (Nat.lt_irrefl _), if_pos rfl, Int.mul_one, Int.zero_add, cg_mod, rw_mod hb.1]
  · rw [if_neg c, Int.mul_zero, Int.zero_emod, Int.add_zero]
    by_cases g : i < k
    · rw [if_pos (by omega), if_pos g, rw_mod hb.1]
    · rw [if_neg (by omega), if_neg g, Int.zero_emod]
theorem trc_all {b : Nat → Int} (hb : InA a b) : trc a.n.toNat b = b := funext fun i => by
  unfold trc
  by_cases c : i < a.n.toNat
  · rw [if_pos c]
  · rw [if_neg c, hb.2 i (by omega)]
structure AddM (a : Alg) (F : (Nat → Int) → Nat → Int) : Prop where
  add : ∀ x y, InA a x → InA a y → F (vadd a.p x y) = vadd a.p (F x) (F y)
  sc : ∀ c x, InA a x → F (vsc a.p c x) = vsc a.p c (F x)
  zero : F Z = Z
theorem AddM.lin {F : (Nat → Int) → Nat → Int} (h : CA a) (hF : AddM a F) {b : Nat → Int} (hb : InA a b) (q : Nat) : F b q % a.p = sumN a.n.toNat (fun j => b j * F (basV j) q) % a.p := by
  have key : ∀ k, k ≤ a.n.toNat → F (trc k b) q % a.p = sumN k (fun j => b j * F (basV j) q) % a.p := by
    intro k
    induction k with
    | zero =>
      intro _
      have e : trc 0 b = Z := funext fun i => by unfold trc Z; rw [if_neg (by omega)]
      rw [e, hF.zero]; rfl
    | succ k ih =>
      intro hk
      rw [trc_succ h hb, hF.add _ _ (in_trc h hb k) (in_sc h (in_bas h (by omega))), hF.sc _ _ (in_bas h (by omega))]
      show (F (trc k b) q + b k * F (basV k) q % a.p) % a.p % a.p = _
      rw [cg_mod, cg_add (ih (by omega)) (cg_mod a.p _)]; rfl
  rw [← key _ (Nat.le_refl _), trc_all hb]
theorem AddM.comp {F G : (Nat → Int) → Nat → Int} (hF : AddM a F) (hG : AddM a G) (hi : ∀ x, InA a x → InA a (G x)) : AddM a fun x => F (G x) :=
  ⟨fun x y hx hy => by rw [hG.add x y hx hy, hF.add _ _ (hi x hx) (hi y hy)], fun c x hx => by rw [hG.sc c x hx, hF.sc c _ (hi x hx)], by rw [hG.zero, hF.zero]⟩
theorem frob_addM (h : CA a) : AddM a fun x => pw a x a.p.toNat := ⟨fun x y hx hy => frob_add h hx hy, fun c x _ => frob_sc h c, by
  obtain ⟨k, hk⟩ : ∃ k, a.p.toNat = k + 1 := ⟨a.p.toNat - 1, by have := h.p2; omega⟩
  show pw a Z a.p.toNat = Z
  rw [hk, pw_Z h]⟩
def ev1 (a : Alg) (b : Nat → Int) : List Int → Nat → Int
  | [] => Z
  | c :: l => vadd a.p (vsc a.p c (sUnit a)) (timesV a b (ev1 a b l))
theorem ev1_in (h : CA a) (b : Nat → Int) : ∀ l, InA a (ev1 a b l)
  | [] => in_Z h
  | _ :: _ => in_add h (in_sc h (in_one h)) (in_mul h _ _)
def addP : List Int → List Int → List Int
  | [], m => m
  | l, [] => l
  | c :: l, d :: m => (c + d) :: addP l m
theorem ev1_add (h : CA a) {b : Nat → Int} : ∀ l m, vadd a.p (ev1 a b l) (ev1 a b m) = ev1 a b (addP l m)
  | [], m => by rw [show addP [] m = m by cases m <;> rfl]; exact Z_vadd (ev1_in h b m).1
  | c :: l, [] => vadd_Z (ev1_in h b (c :: l)).1
  | c :: l, d :: m => by
    show vadd a.p (vadd a.p (vsc a.p c _) (timesV a b (ev1 a b l))) (vadd a.p (vsc a.p d _) (timesV a b (ev1 a b m))) = vadd a.p (vsc a.p (c + d) _) (timesV a b (ev1 a b (addP l m)))
    rw [vadd_vadd, vsc_add, ← mul_add' h, ev1_add h l m]
theorem ev1_sc (h : CA a) {b : Nat → Int} (c : Int) : ∀ l, vsc a.p c (ev1 a b l) = ev1 a b (l.map (c * ·))
  | [] => vsc_Z
  | d :: l => by
    show vsc a.p c (vadd a.p (vsc a.p d _) (timesV a b (ev1 a b l))) = vadd a.p (vsc a.p (c * d) _) (timesV a b (ev1 a b (l.map (c * ·))))
    rw [vsc_vadd, vsc_vsc, ← mul_sc' h, ev1_sc h c l]
theorem ev1_mod {b : Nat → Int} : ∀ l, ev1 a b (l.map (· % a.p)) = ev1 a b l
  | [] => rfl
  | c :: l => by
    show vadd a.p (vsc a.p (c % a.p) _) (timesV a b (ev1 a b (l.map (· % a.p)))) = vadd a.p (vsc a.p c _) (timesV a b (ev1 a b l))
    rw [vsc_mod, ev1_mod l]
def linP (p d : Int) (l : List Int) : List Int := (addP (0 :: l) (l.map (-d * ·))).map (· % p)
theorem ev1_lin (h : CA a) {b : Nat → Int} (d : Int) (l : List Int) : timesV a (vadd a.p b (vsc a.p (-d) (sUnit a))) (ev1 a b l) = ev1 a b (linP a.p d l) := by
  unfold linP
  rw [ev1_mod, ← ev1_add h, add_mul' h, sc_mul' h, one_mul' h (ev1_in h b l), ev1_sc h]
  congr 1
  show _ = vadd a.p (vsc a.p 0 _) (timesV a b (ev1 a b l))
  rw [vsc_0, Z_vadd (times_rw h.p1 _ _)]
def prodS (p : Int) (c : Nat) : Nat → List Int
  | 0 => [1]
  | d + 1 => if d = c then prodS p c d else linP p d (prodS p c d)
def fullL (p : Int) : List Int := 0 :: (p - 1) :: (List.replicate (p.toNat - 2) 0 ++ [1])
theorem prod_full : ∀ p ∈ primes, ∀ c ∈ List.range 13, (c : Int) < p → linP p c (prodS p c p.toNat) = fullL p := by decide +kernel
def valL (x : Int) : List Int → Int
  | [] => 0
  | c :: l => c + x * valL x l
def invK (p : Int) (c : Nat) : Nat → Int
  | 0 => 1
  | d + 1 => if d = c then invK p c d else invF p ((c : Int) - d) * invK p c d
theorem inv_val : ∀ p ∈ primes, ∀ c ∈ List.range 13, (c : Int) < p → invK p c p.toNat * valL c (prodS p c p.toNat) % p = 1 := by decide +kernel
theorem ev1_cons {b : Nat → Int} {c : Int} {l : List Int} : ev1 a b (c :: l) = vadd a.p (vsc a.p c (sUnit a)) (timesV a b (ev1 a b l)) := rfl
theorem ev1_nil {b : Nat → Int} : ev1 a b [] = Z := rfl
theorem ev1_top (h : CA a) {b : Nat → Int} : ∀ k, ev1 a b (List.replicate k 0 ++ [1]) = pw a b k
  | 0 => by
    rw [List.replicate_zero, List.nil_append, ev1_cons, ev1_nil, mul_Z h, vadd_Z (vsc_rw h.p1), vsc_1 (in_one h).1]; rfl
  | k + 1 => by
    have e := pw_succ' h b k
    rw [List.replicate_succ, List.cons_append, ev1_cons, vsc_0, Z_vadd (times_rw h.p1 _ _), ev1_top h k, e]
theorem ev1_full (h : CA a) {b : Nat → Int} (hb : InA a b) (hf : pw a b a.p.toNat = b) : ev1 a b (fullL a.p) = Z := by
  have hp := h.p2
  unfold fullL
  rw [ev1_cons, ev1_cons, vsc_0, Z_vadd (times_rw h.p1 _ _), ev1_top h, mul_add' h, mul_sc' h, mul_one' h hb, ← pw_succ' h, ← pw_succ' h, show a.p.toNat - 2 + 1 + 1 = a.p.toNat by omega, hf]
  have e : vadd a.p (vsc a.p (a.p - 1) b) b = vadd a.p (vsc a.p (a.p - 1) b) (vsc a.p 1 b) := by rw [vsc_1 hb.1]
  rw [e, vsc_add, show a.p - 1 + 1 = a.p by omega, vsc_cg (show a.p % a.p = 0 % a.p by simp), vsc_0]
theorem ev1_val (h : CA a) {b f : Nat → Int} {c : Int} (hfi : InA a f) (hf : timesV a b f = vsc a.p c f) : ∀ l, timesV a (ev1 a b l) f = vsc a.p (valL c l) f
  | [] => by show timesV a Z f = vsc a.p 0 f; rw [Z_mul h, vsc_0]
  | d :: l => by
    show timesV a (vadd a.p (vsc a.p d _) (timesV a b (ev1 a b l))) f = vsc a.p (d + c * valL c l) f
    rw [add_mul' h, sc_mul' h, one_mul' h hfi, mul_assoc' h, ev1_val h hfi hf l, mul_sc' h, hf, vsc_vsc, vsc_add, Int.mul_comm c]
def shI (a : Alg) (b e : Nat → Int) (c : Nat) : Nat → Nat → Int
  | 0 => e
  | d + 1 => if d = c then shI a b e c d else addV a.p (invF a.p (((c : Int) - d) % a.p)) Z (timesV a (shI a b e c d) (addV a.p (a.p - d) b (sUnit a)))
def shS (a : Alg) (b e : Nat → Int) (c : Nat) : Nat → Nat → Int
  | 0 => e
  | d + 1 => if d = c then shS a b e c d else timesV a (shS a b e c d) (addV a.p (invF a.p ((c : Int) - d)) Z (addV a.p (-(d : Int)) b (sUnit a)))
theorem addV_eq (p k : Int) (v w : Nat → Int) (hv : Rw p v) : addV p k v w = vadd p v (vsc p k w) := funext fun i => by
  show (v i + k * w i) % p = (v i + k * w i % p) % p
  exact (cg_add (c := k * w i % p) rfl (cg_mod p _)).symm
theorem addV_Z (p k : Int) (w : Nat → Int) : addV p k Z w = vsc p k w := funext fun i => by
  show ((0 : Int) + k * w i) % p = k * w i % p
  rw [Int.zero_add]
theorem invF_mod (p x : Int) : invF p (x % p) = invF p x := by unfold invF; rw [cg_mod]
theorem shI_eq (h : CA a) {b e : Nat → Int} (hb : InA a b) (he : InA a e) (c : Nat) : ∀ d, shI a b e c d = vsc a.p (invK a.p c d) (timesV a e (ev1 a b (prodS a.p c d)))
  | 0 => by
    show e = vsc a.p 1 (timesV a e (vadd a.p (vsc a.p 1 (sUnit a)) (timesV a b Z)))
    rw [mul_Z h, vadd_Z (vsc_rw h.p1), vsc_1 (in_one h).1, mul_one' h he, vsc_1 he.1]
  | d + 1 => by
    unfold shI invK prodS
    by_cases g : d = c
    · rw [if_pos g, if_pos g, if_pos g, shI_eq h hb he c d]
    · rw [if_neg g, if_neg g, if_neg g, shI_eq h hb he c d, addV_Z, addV_eq _ _ _ _ hb.1, invF_mod, vsc_cg (c := a.p - d) (d := -(d : Int)) (by rw [show a.p - (d : Int) = -(d : Int) + a.p by omega, Int.add_emod_right])]
      rw [sc_mul' h, mul_assoc' h, mul_comm' h (ev1 a b _), ev1_lin h, vsc_vsc]
theorem shS_eq (h : CA a) {b e : Nat → Int} (hb : InA a b) (he : InA a e) (c : Nat) : ∀ d, shS a b e c d = vsc a.p (invK a.p c d) (timesV a e (ev1 a b (prodS a.p c d)))
  | 0 => shI_eq h hb he c 0
  | d + 1 => by
    unfold shS invK prodS
    by_cases g : d = c
    · rw [if_pos g, if_pos g, if_pos g, shS_eq h hb he c d]
    · rw [if_neg g, if_neg g, if_neg g, shS_eq h hb he c d, addV_Z, addV_eq _ _ _ _ hb.1]
      rw [mul_sc' h, sc_mul' h, mul_assoc' h, mul_comm' h (ev1 a b _), ev1_lin h, vsc_vsc]
theorem sh_same (h : CA a) {b e : Nat → Int} (hb : InA a b) (he : InA a e) (c d : Nat) : shI a b e c d = shS a b e c d := by rw [shI_eq h hb he, shS_eq h hb he]
def share (a : Alg) (b e : Nat → Int) (c : Nat) : Nat → Int := shI a b e c a.p.toNat
theorem share_in (h : CA a) {b e : Nat → Int} (hb : InA a b) (he : InA a e) (c : Nat) : InA a (share a b e c) := by
  unfold share; rw [shI_eq h hb he]; exact in_sc h (in_mul h _ _)
theorem share_num (h : CA a) {b e : Nat → Int} (hb : InA a b) (he : InA a e) (hf : pw a b a.p.toNat = b) {c : Nat} (hc : (c : Int) < a.p) : timesV a b (share a b e c) = vsc a.p c (share a b e c) := by
  have hp13 := (prime_bd h.ok.p).2
  have h0 : timesV a (vadd a.p b (vsc a.p (-(c : Int)) (sUnit a))) (share a b e c) = Z := by
    unfold share
    rw [shI_eq h hb he, mul_sc' h, mul_left_comm' h, ev1_lin h, prod_full _ h.ok.p c (by simp; omega) hc, ev1_full h hb hf, mul_Z h, vsc_Z]
  rw [add_mul' h, sc_mul' h, one_mul' h (share_in h hb he c)] at h0
  have h1 : vadd a.p (vadd a.p (timesV a b (share a b e c)) (vsc a.p (-(c : Int)) (share a b e c))) (vsc a.p c (share a b e c)) = vadd a.p Z (vsc a.p c (share a b e c)) := by rw [h0]
  rw [vadd_assoc, vsc_add, Int.add_left_neg, vsc_0, vadd_Z (times_rw h.p1 _ _), Z_vadd (vsc_rw h.p1)] at h1
  exact h1
structure Orth (a : Alg) (E : List (Nat → Int)) : Prop where
  inn : ∀ e ∈ E, InA a e
  idem : ∀ e ∈ E, timesV a e e = e
  nz : ∀ e ∈ E, ∃ i, e i ≠ 0
  pair : E.Pairwise fun e f => timesV a e f = Z
theorem share_e (h : CA a) {b e : Nat → Int} (hb : InA a b) (he : InA a e) (hi : timesV a e e = e) (c : Nat) : timesV a e (share a b e c) = share a b e c := by
  unfold share
  rw [shI_eq h hb he, mul_sc' h, ← mul_assoc' h, hi]
theorem share_idem (h : CA a) {b e : Nat → Int} (hb : InA a b) (he : InA a e) (hi : timesV a e e = e) (hf : pw a b a.p.toNat = b) {c : Nat} (hc : (c : Int) < a.p) : timesV a (share a b e c) (share a b e c) = share a b e c := by
  have hp13 := (prime_bd h.ok.p).2
  have hn := share_num h hb he hf hc
  have h1 := ev1_val h (share_in h hb he c) hn (prodS a.p c a.p.toNat)
  have h2 : timesV a (vsc a.p (invK a.p c a.p.toNat) (timesV a e (ev1 a b (prodS a.p c a.p.toNat)))) (share a b e c) = share a b e c := by
    rw [sc_mul' h, mul_assoc' h, h1, mul_sc' h, vsc_vsc, share_e h hb he hi]
    rw [vsc_cg (d := 1) (by rw [inv_val _ h.ok.p c (by simp; omega) hc]; have := h.p2; rw [Int.emod_eq_of_lt (by omega) (by omega)]), vsc_1 (share_in h hb he c).1]
  have e1 : vsc a.p (invK a.p c a.p.toNat) (timesV a e (ev1 a b (prodS a.p c a.p.toNat))) = share a b e c := (shI_eq h hb he c _).symm
  rwa [e1] at h2
theorem num_zero {p k : Int} (hp : p ∈ primes) {v : Nat → Int} (hv : Rw p v) (hk : k % p ≠ 0) (h : vsc p k v = Z) : v = Z := by
  have hp2 := prime_bd hp
  have hb := mod_bd k (p := p) (by omega)
  have e : vsc p (invF p (k % p)) (vsc p k v) = Z := by rw [h, vsc_Z]
  rw [vsc_vsc] at e
  have i1 := inv_mul hp (x := k % p) ⟨by omega, hb.2⟩
  rw [vsc_cg (d := 1) (by
    rw [cg_mul (a := invF p (k % p)) (b := invF p (k % p)) (c := k) (d := k % p) rfl (cg_mod p k).symm, i1.1, Int.emod_eq_of_lt (by omega) (by omega)]), vsc_1 hv] at e
  exact e
theorem share_orth (h : CA a) {b e : Nat → Int} (hb : InA a b) (he : InA a e) (hf : pw a b a.p.toNat = b) {c d : Nat} (hc : (c : Int) < a.p) (hd : (d : Int) < a.p) (hcd : c ≠ d) : timesV a (share a b e c) (share a b e d) = Z := by
  have h1 := share_num h hb he hf hc
  have h2 := share_num h hb he hf hd
  have e1 : timesV a b (timesV a (share a b e c) (share a b e d)) = vsc a.p c (timesV a (share a b e c) (share a b e d)) := by rw [← mul_assoc' h, h1, sc_mul' h]
  have e2 : timesV a b (timesV a (share a b e c) (share a b e d)) = vsc a.p d (timesV a (share a b e c) (share a b e d)) := by rw [mul_left_comm' h, h2, mul_sc' h]
  have e3 : vsc a.p ((c : Int) - d) (timesV a (share a b e c) (share a b e d)) = Z := by
    have : vadd a.p (vsc a.p c (timesV a (share a b e c) (share a b e d))) (vsc a.p (-(d : Int)) (timesV a (share a b e c) (share a b e d))) = vadd a.p (vsc a.p d (timesV a (share a b e c) (share a b e d))) (vsc a.p (-(d : Int)) (timesV a (share a b e c) (share a b e d))) := by rw [← e1, e2]
    rw [vsc_add, vsc_add, Int.add_right_neg, vsc_0] at this
    exact this
  refine num_zero h.ok.p (times_rw h.p1 _ _) (fun hz => ?_) e3
  have := (Int.emod_eq_emod_iff_emod_sub_eq_zero (m := (c : Int)) (n := a.p) (k := (d : Int))).2 hz
  rw [Int.emod_eq_of_lt (by omega) hc, Int.emod_eq_of_lt (by omega) hd] at this
  omega
end
end Go.X
namespace Go.X
open Go Go.RowKit
theorem vcs_app {L : List (Nat → Int)} {v : Nat → Int} : L.map vecL ++ [vecL v] = (L ++ [v]).map vecL := by simp
theorem vcs_arr (L : List (Nat → Int)) : L.map vecL = arr L.length fun i => vecL (L.getD i Z) := by
  refine arr_of (by simp) fun i hi => ?_
  simp [hi]
end Go.X
