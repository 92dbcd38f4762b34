import Derived.Test.YtckpoeaagbmlbaaGreatK1
set_option linter.all false
namespace Go.X
open Go Go.RowKit
def FN.impl_Algebra_power (N : FN) : FuncId := N.f 100
def FN.impl_Algebra_handle (N : FN) : FuncId := N.f 101
def FN.impl_Algebra_handle_1 (N : FN) : FuncId := N.f 102
def FN.impl_isGenus (N : FN) : FuncId := N.f 103
def FN.spec_l02Power (N : FN) : FuncId := N.f 106
def FN.spec_l02Handle (N : FN) : FuncId := N.f 107
def ir_impl_Algebra_power (N : FN) : CF := ⟨3, 19, [(.cell 6 (some 6))], (.seq (.reg false [5, 7] [(rO 4 (.box (.t 1))), (rO 6 (.alloc [(.int .u8 0), (.int .u8 0), (.int .u8 0), (.int .u8 0), (.int .u8 0), (.int .u8 0)]))]) (.seq (.reg false [10, 8] [(rO 8 (.mov (.t 0))), (rO 9 (.call N.impl_Algebra_unit [(.t 8)])), (rO 7 (.alloc [(.int .u8 0), (.int .u8 0), (.int .u8 0), (.int .u8 0), (.int .u8 0), (.int .u8 0)])), ⟨none, 23, (.store (some 6) (.t 7) (.t 9)), none, [], none⟩]) (.seq (.seq (.reg false [] [(rO 10 (.mov (.t 2))), (rO 11 (.mov (.c (.int .i64 0))))]) (.block 0 (.loop (.seq (.reg false [] [(rO 12 (.cmp .lss (.t 11) (.t 10)))]) (.seq (.cond (.t 12) .skip (.exit 0)) (.seq (.block 1 (.reg false [17] [(rO 13 (.mov (.t 0))), (rO 14 (.load (some 6) (.t 7))), (rO 15 (.load (some 6) (.t 4))), (rO 16 (.call N.impl_Algebra_times [(.t 13), (.t 14), (.t 15)])), ⟨none, 24, (.store (some 6) (.t 7) (.t 16)), none, [], none⟩])) (.reg false [] [(rO 17 (.arith .add (.t 11) (.c (.int .i64 1)))), (rO 11 (.mov (.t 17)))]))))))) (.seq (.reg false [] [(rO 18 (.load (some 6) (.t 7))), ⟨none, 21, (.store (some 6) (.t 6) (.t 18)), none, [], none⟩]) .ret))))⟩
def ir_impl_Algebra_handle (N : FN) : CF := ⟨1, 6, [(.cell 2 (some 6))], (.seq (.reg false [2, 3] [(rO 1 (.box (.t 0))), (rO 2 (.alloc [(.int .u8 0), (.int .u8 0), (.int .u8 0), (.int .u8 0), (.int .u8 0), (.int .u8 0)]))]) (.seq (.reg false [6] [(rO 3 (.load none (.t 1))), (rO 4 (.mkfn N.impl_Algebra_handle_1 [] [(.t 1)])), (rO 5 (.call N.impl_Algebra_paired [(.t 3), (.t 4)])), ⟨none, 10, (.store (some 6) (.t 2) (.t 5)), none, [], none⟩]) .ret))⟩
def ir_impl_Algebra_handle_1 (N : FN) : CF := ⟨3, 14, [(.cell 5 (some 6))], (.seq (.reg false [6] [(rO 5 (.alloc [(.int .u8 0), (.int .u8 0), (.int .u8 0), (.int .u8 0), (.int .u8 0), (.int .u8 0)]))]) (.seq (.reg false [] [(rO 6 (.load none (.t 2))), (rO 7 (.mov (.t 0))), (rO 8 (.mov (.t 1))), (rO 9 (.nilchk (.t 6))), (rO 10 (.faddr 2 (.t 9))), (rO 11 (.iaddrA 6 36 (.t 10) (.t 7))), (rO 12 (.iaddrA 6 6 (.t 11) (.t 8))), (rO 13 (.load (some 6) (.t 12))), ⟨none, 23, (.store (some 6) (.t 5) (.t 13)), none, [], none⟩]) .ret))⟩
def ir_impl_isGenus (N : FN) : CF := ⟨1, 5, [(.tmp 2)], (.seq (.reg false [] [(rO 2 (.mov (.c (.bool false))))]) (.seq (.reg false [5] [(rO 3 (.mov (.t 0))), (rO 4 (.call N.impl_in [(.t 3), (.c (.int .i64 0)), (.c (.int .i64 30))])), (rO 2 (.mov (.t 4)))]) .ret))⟩
def ir_spec_l02Power (N : FN) : CF := ⟨2, 20, [(.cell 4 (some 6))], (.seq (.reg false [3, 5] [(rO 2 (.box (.t 0))), (rO 4 (.alloc [(.int .u8 0), (.int .u8 0), (.int .u8 0), (.int .u8 0), (.int .u8 0), (.int .u8 0)]))]) (.seq (.reg true [9, 11, 6, 7] [⟨(some 7), 8, (.load (some 224) (.t 2)), none, [9, 11, 6, 7], none⟩, ⟨(some 8), 9, (.call N.spec_l01Unit [(.t 7)]), none, [11, 6, 7], none⟩, ⟨(some 9), 10, (.load (some 224) (.t 2)), none, [9, 11, 6, 7], none⟩, ⟨(some 10), 11, (.call N.spec_l02Handle [(.t 9)]), none, [6, 7], none⟩, (rO 5 (.alloc [(.int .u8 0), (.int .u8 0), (.int .u8 0), (.int .u8 0), (.int .u8 0), (.int .u8 0)])), (rO 6 (.alloc [(.int .u8 0), (.int .u8 0), (.int .u8 0), (.int .u8 0), (.int .u8 0), (.int .u8 0)])), ⟨none, 27, (.store (some 6) (.t 5) (.t 8)), none, [], (some [6])⟩, ⟨none, 28, (.store (some 6) (.t 6) (.t 10)), none, [], (some [7])⟩]) (.seq (.block 0 (.loop (.seq (.seq (.reg false [] [(rO 11 (.mov (.t 1))), (rO 12 (.cmp .gtr (.t 11) (.c (.int .i64 0))))]) (.cond (.t 12) .skip (.exit 0))) (.seq (.block 1 (.reg false [19] [(rO 15 (.load (some 224) (.t 2))), (rO 16 (.load (some 6) (.t 5))), (rO 17 (.load (some 6) (.t 6))), (rO 18 (.call N.spec_l01Times [(.t 15), (.t 16), (.t 17)])), ⟨none, 25, (.store (some 6) (.t 5) (.t 18)), none, [], none⟩])) (.reg false [] [(rO 13 (.mov (.t 1))), (rO 14 (.arith .sub (.t 13) (.c (.int .i64 1)))), (rO 1 (.mov (.t 14)))]))))) (.seq (.reg false [] [(rO 19 (.load (some 6) (.t 5))), ⟨none, 22, (.store (some 6) (.t 4) (.t 19)), none, [], none⟩]) .ret))))⟩
def ir_spec_l02Handle (N : FN) : CF := ⟨1, 40, [(.cell 2 (some 6))], (.seq (.reg false [2, 3] [(rO 1 (.box (.t 0))), (rO 2 (.alloc [(.int .u8 0), (.int .u8 0), (.int .u8 0), (.int .u8 0), (.int .u8 0), (.int .u8 0)]))]) (.seq (.reg false [9, 5] [(rO 7 (.load (some 224) (.t 1))), (rO 8 (.call N.spec_l02Copairing [(.t 7)])), (rO 9 (.build [(.int .u8 0), (.int .u8 0), (.int .u8 0), (.int .u8 0), (.int .u8 0), (.int .u8 0)] [])), (rO 4 (.alloc [(.int .u8 0), (.int .u8 0), (.int .u8 0), (.int .u8 0), (.int .u8 0), (.int .u8 0)])), (rO 3 (.mov (.t 8))), ⟨none, 46, (.store (some 6) (.t 4) (.t 9)), none, [], none⟩]) (.seq (.seq (.reg false [] [(rO 5 (.mov (.c (.int .i64 0))))]) (.block 0 (.loop (.seq (.seq (.reg false [] [(rO 10 (.mov (.t 5))), (rO 11 (.faddr 1 (.t 1))), (rO 12 (.load none (.t 11))), (rO 13 (.cmp .lss (.t 10) (.t 12)))]) (.cond (.t 13) .skip (.exit 0))) (.seq (.block 1 (.seq (.reg false [] [(rO 6 (.mov (.c (.int .i64 0))))]) (.block 2 (.loop (.seq (.seq (.reg false [] [(rO 16 (.mov (.t 6))), (rO 17 (.faddr 1 (.t 1))), (rO 18 (.load none (.t 17))), (rO 19 (.cmp .lss (.t 16) (.t 18)))]) (.cond (.t 19) .skip (.exit 2))) (.seq (.block 3 (.reg true [28, 30, 31, 39] [(rO 22 (.faddr 0 (.t 1))), ⟨(some 23), 24, (.load none (.t 22)), none, [28, 30, 31, 39], none⟩, ⟨(some 24), 25, (.load (some 6) (.t 4)), none, [28, 30, 31, 39], none⟩, ⟨(some 25), 26, (.load (some 224) (.t 1)), none, [28, 30, 31, 39], none⟩, (rO 26 (.mov (.t 5))), ⟨(some 27), 28, (.call N.spec_l01Basis [(.t 26)]), none, [30, 31, 39], none⟩, (rO 28 (.mov (.t 6))), ⟨(some 29), 30, (.call N.spec_l01Basis [(.t 28)]), none, [31, 39], none⟩, ⟨(some 30), 31, (.call N.spec_l01Times [(.t 25), (.t 27), (.t 29)]), none, [39], none⟩, (rO 31 (.mov (.t 3))), (rO 32 (.mov (.t 5))), ⟨(some 33), 34, (.iaddrS 1 (.t 31) (.t 32)), none, [28, 30, 31, 39], none⟩, ⟨(some 34), 35, (.load none (.t 33)), none, [28, 30, 31, 39], none⟩, (rO 35 (.mov (.t 6))), ⟨(some 36), 37, (.iaddrS 1 (.t 34) (.t 35)), none, [28, 30, 31, 39], none⟩, ⟨(some 37), 38, (.load none (.t 36)), none, [28, 30, 31, 39], none⟩, (rO 38 (.call N.spec_l01Add [(.t 23), (.t 24), (.t 30), (.t 37)])), ⟨none, 58, (.store (some 6) (.t 4) (.t 38)), none, [], none⟩])) (.reg false [] [(rO 20 (.mov (.t 6))), (rO 21 (.arith .add (.t 20) (.c (.int .i64 1)))), (rO 6 (.mov (.t 21)))]))))))) (.reg false [] [(rO 14 (.mov (.t 5))), (rO 15 (.arith .add (.t 14) (.c (.int .i64 1)))), (rO 5 (.mov (.t 15)))])))))) (.seq (.reg false [] [(rO 39 (.load (some 6) (.t 4))), ⟨none, 42, (.store (some 6) (.t 2) (.t 39)), none, [], none⟩]) .ret))))⟩
end Go.X
namespace Go.X
open Go Go.RowKit
def FN.impl_valid (N : FN) : FuncId := N.f 109
def FN.impl_valid_1 (N : FN) : FuncId := N.f 110
def FN.impl_Algebra_listOk (N : FN) : FuncId := N.f 111
def FN.impl_Algebra_listOk_1 (N : FN) : FuncId := N.f 112
def FN.impl_listed (N : FN) : FuncId := N.f 113
def FN.impl_Algebra_isStar (N : FN) : FuncId := N.f 114
def FN.impl_stars (N : FN) : FuncId := N.f 115
def FN.impl_Algebra_klein (N : FN) : FuncId := N.f 116
def FN.impl_Algebra_klein_1 (N : FN) : FuncId := N.f 117
def FN.impl_Algebra_crossCap (N : FN) : FuncId := N.f 118
def FN.spec_l01Code (N : FN) : FuncId := N.f 120
def FN.spec_l08List (N : FN) : FuncId := N.f 121
def FN.spec_l08Apply (N : FN) : FuncId := N.f 122
def FN.spec_l08Star (N : FN) : FuncId := N.f 123
def FN.spec_l08Code (N : FN) : FuncId := N.f 124
def FN.spec_l08Klein (N : FN) : FuncId := N.f 125
def FN.spec_l08CrossCap (N : FN) : FuncId := N.f 126
def FN.laws_szVectorS (N : FN) : FuncId := N.f 128
def FN.laws_toVectorS (N : FN) : FuncId := N.f 129
def FN.laws_eqVectorS (N : FN) : FuncId := N.f 130
def ir_impl_valid (N : FN) : CF := ⟨2, 13, [(.tmp 4)], (.seq (.reg false [3] [(rO 2 (.box (.t 0))), (rO 4 (.mov (.c (.int .i64 0))))]) (.seq (.seq (.reg false [7, 12] [(rO 5 (.load (some 224) (.t 2))), (rO 6 (.call N.impl_IsAlgebra [(.t 5)])), (rO 7 (.not (.t 6))), (rO 8 (.mov (.t 7))), ⟨(some 9), 10, (.mov (.t 1)), (some (8, false)), [], none⟩, ⟨(some 10), 11, (.mkfn N.impl_valid_1 [] [(.t 2)]), (some (8, false)), [], none⟩, ⟨(some 11), 12, (.call N.slices_ContainsFunc_Limpl_Vector_impl_Vector [(.t 9), (.t 10)]), (some (8, false)), [], none⟩, (rO 12 (.pick (.t 8) (.c (.bool true)) (.t 11)))]) (.cond (.t 12) (.seq (.reg false [] [(rO 4 (.mov (.c (.int .i64 1))))]) .ret) .skip)) (.seq (.reg false [] [(rO 4 (.mov (.c (.int .i64 0))))]) .ret)))⟩
def ir_impl_valid_1 (N : FN) : CF := ⟨2, 11, [(.tmp 3)], (.seq (.reg false [3] [(rO 2 (.box (.t 0))), (rO 3 (.mov (.c (.bool false))))]) (.seq (.reg false [10] [(rO 4 (.load (some 6) (.t 2))), (rO 5 (.faddr 1 (.t 1))), (rO 6 (.load none (.t 5))), (rO 7 (.faddr 0 (.t 1))), (rO 8 (.load none (.t 7))), (rO 9 (.call N.impl_isVector [(.t 4), (.t 6), (.t 8)])), (rO 10 (.not (.t 9))), (rO 3 (.mov (.t 10)))]) .ret))⟩
def ir_impl_Algebra_listOk (N : FN) : CF := ⟨2, 16, [(.tmp 4)], (.seq (.reg false [3] [(rO 2 (.box (.t 0))), (rO 4 (.mov (.c (.bool false))))]) (.seq (.reg false [9, 14] [(rO 5 (.mov (.t 1))), (rO 6 (.len (.t 5))), (rO 7 (.load none (.t 2))), (rO 8 (.call N.impl_Algebra_n [(.t 7)])), (rO 9 (.cmp .eql (.t 6) (.t 8))), (rO 10 (.mov (.t 9))), ⟨(some 11), 12, (.mov (.t 1)), (some (10, true)), [], none⟩, ⟨(some 12), 13, (.mkfn N.impl_Algebra_listOk_1 [] [(.t 2)]), (some (10, true)), [], none⟩, ⟨(some 13), 14, (.call N.slices_ContainsFunc_Limpl_Vector_impl_Vector [(.t 11), (.t 12)]), (some (10, true)), [], none⟩, ⟨(some 14), 15, (.not (.t 13)), (some (10, true)), [], none⟩, (rO 15 (.pick (.t 10) (.t 14) (.c (.bool false)))), (rO 4 (.mov (.t 15)))]) .ret))⟩
def ir_impl_Algebra_listOk_1 (N : FN) : CF := ⟨2, 15, [(.tmp 3)], (.seq (.reg false [3] [(rO 2 (.box (.t 0))), (rO 3 (.mov (.c (.bool false))))]) (.seq (.reg true [14] [⟨(some 4), 5, (.load (some 6) (.t 2)), none, [14], none⟩, ⟨(some 5), 6, (.load none (.t 1)), none, [14], none⟩, (rO 6 (.nilchk (.t 5))), (rO 7 (.faddr 1 (.t 6))), ⟨(some 8), 9, (.load none (.t 7)), none, [14], none⟩, ⟨(some 9), 10, (.load none (.t 1)), none, [14], none⟩, (rO 10 (.nilchk (.t 9))), (rO 11 (.faddr 0 (.t 10))), ⟨(some 12), 13, (.load none (.t 11)), none, [14], none⟩, (rO 13 (.call N.impl_isVector [(.t 4), (.t 8), (.t 12)])), (rO 14 (.not (.t 13))), (rO 3 (.mov (.t 14)))]) .ret))⟩
def ir_impl_listed (N : FN) : CF := ⟨3, 17, [(.tmp 6)], (.seq (.reg false [4] [(rO 3 (.box (.t 0))), (rO 6 (.mov (.c (.int .i64 0))))]) (.seq (.seq (.reg false [11] [(rO 8 (.load (some 224) (.t 3))), (rO 9 (.mov (.t 2))), (rO 10 (.call N.impl_valid [(.t 8), (.t 9)])), (rO 7 (.mov (.t 10)))]) (.seq (.reg false [] [(rO 11 (.mov (.t 7))), (rO 12 (.cmp .neq (.t 11) (.c (.int .i64 0))))]) (.cond (.t 12) (.seq (.reg false [] [(rO 13 (.mov (.t 7))), (rO 6 (.mov (.t 13)))]) .ret) .skip))) (.seq (.seq (.reg false [16] [(rO 14 (.mov (.t 1))), (rO 15 (.call N.impl_Algebra_listOk [(.t 3), (.t 14)])), (rO 16 (.not (.t 15)))]) (.cond (.t 16) (.seq (.reg false [] [(rO 6 (.mov (.c (.int .i64 2))))]) .ret) .skip)) (.seq (.reg false [] [(rO 6 (.mov (.c (.int .i64 0))))]) .ret))))⟩
def ir_impl_Algebra_isStar (N : FN) : CF := ⟨2, 61, [(.tmp 4)], (.seq (.reg false [] [(rO 4 (.mov (.c (.bool false))))]) (.seq (.seq (.reg false [] [(rO 9 (.mov (.t 1))), (rO 10 (.len (.t 9))), (rO 11 (.mov (.c (.int .i64 0))))]) (.block 0 (.loop (.seq (.reg false [] [(rO 12 (.cmp .lss (.t 11) (.t 10)))]) (.seq (.cond (.t 12) .skip (.exit 0)) (.seq (.block 1 (.seq (.reg false [7] [(rO 13 (.mov (.t 11))), (rO 14 (.iaddrS 6 (.t 9) (.t 11))), (rO 15 (.load (some 6) (.t 14))), (rO 6 (.alloc [(.int .u8 0), (.int .u8 0), (.int .u8 0), (.int .u8 0), (.int .u8 0), (.int .u8 0)])), (rO 5 (.mov (.t 13))), ⟨none, 67, (.store (some 6) (.t 6) (.t 15)), none, [], none⟩]) (.seq (.seq (.reg true [20, 22, 27] [(rO 16 (.mov (.t 0))), (rO 17 (.mov (.t 1))), ⟨(some 18), 19, (.load (some 6) (.t 6)), none, [20, 22, 27], none⟩, ⟨(some 19), 20, (.call N.impl_Algebra_starred [(.t 16), (.t 17), (.t 18)]), none, [22, 27], none⟩, (rO 20 (.mov (.t 5))), ⟨(some 21), 22, (.call N.impl_basis [(.t 20)]), none, [27], none⟩, (rO 22 (.eqa true [(.int .u8), (.int .u8), (.int .u8), (.int .u8), (.int .u8), (.int .u8)] (.t 19) (.t 21))), (rO 23 (.mov (.t 22))), ⟨(some 24), 25, (.mov (.t 0)), (some (23, false)), [], none⟩, ⟨(some 25), 26, (.load (some 6) (.t 6)), (some (23, false)), [27], none⟩, ⟨(some 26), 27, (.call N.impl_Algebra_form [(.t 24), (.t 25)]), (some (23, false)), [], none⟩, ⟨(some 27), 28, (.mov (.t 0)), (some (23, false)), [], none⟩, ⟨(some 28), 29, (.mov (.t 5)), (some (23, false)), [], none⟩, ⟨(some 29), 30, (.nilchk (.t 27)), (some (23, false)), [], none⟩, ⟨(some 30), 31, (.faddr 218 (.t 29)), (some (23, false)), [], none⟩, ⟨(some 31), 32, (.iaddrA 6 1 (.t 30) (.t 28)), (some (23, false)), [], none⟩, ⟨(some 32), 33, (.load none (.t 31)), (some (23, false)), [27], none⟩, ⟨(some 33), 34, (.conv .i64 (.t 32)), (some (23, false)), [], none⟩, ⟨(some 34), 35, (.cmp .neq (.t 26) (.t 33)), (some (23, false)), [], none⟩, (rO 35 (.pick (.t 23) (.c (.bool true)) (.t 34)))]) (.cond (.t 35) (.seq (.reg false [] [(rO 4 (.mov (.c (.bool false))))]) .ret) .skip)) (.seq (.reg false [] [(rO 36 (.mov (.t 1))), (rO 37 (.len (.t 36))), (rO 38 (.mov (.c (.int .i64 0))))]) (.block 2 (.loop (.seq (.reg false [] [(rO 39 (.cmp .lss (.t 38) (.t 37)))]) (.seq (.cond (.t 39) .skip (.exit 2)) (.seq (.block 3 (.seq (.reg false [9] [(rO 40 (.mov (.t 38))), (rO 41 (.iaddrS 6 (.t 36) (.t 38))), (rO 42 (.load (some 6) (.t 41))), (rO 8 (.alloc [(.int .u8 0), (.int .u8 0), (.int .u8 0), (.int .u8 0), (.int .u8 0), (.int .u8 0)])), (rO 7 (.mov (.t 40))), ⟨none, 67, (.store (some 6) (.t 8) (.t 42)), none, [], none⟩]) (.seq (.reg true [54, 58] [(rO 43 (.mov (.t 0))), (rO 44 (.mov (.t 1))), (rO 45 (.mov (.t 0))), (rO 46 (.mov (.t 5))), (rO 47 (.mov (.t 7))), (rO 48 (.nilchk (.t 45))), (rO 49 (.faddr 2 (.t 48))), (rO 50 (.iaddrA 6 36 (.t 49) (.t 46))), (rO 51 (.iaddrA 6 6 (.t 50) (.t 47))), ⟨(some 52), 53, (.load (some 6) (.t 51)), none, [54, 58], none⟩, ⟨(some 53), 54, (.call N.impl_Algebra_starred [(.t 43), (.t 44), (.t 52)]), none, [58], none⟩, (rO 54 (.mov (.t 0))), ⟨(some 55), 56, (.load (some 6) (.t 8)), none, [54, 58], none⟩, ⟨(some 56), 57, (.load (some 6) (.t 6)), none, [54, 58], none⟩, (rO 57 (.call N.impl_Algebra_times [(.t 54), (.t 55), (.t 56)])), (rO 58 (.eqa true [(.int .u8), (.int .u8), (.int .u8), (.int .u8), (.int .u8), (.int .u8)] (.t 53) (.t 57)))]) (.cond (.t 58) (.seq (.reg false [] [(rO 4 (.mov (.c (.bool false))))]) .ret) .skip)))) (.reg false [] [(rO 59 (.arith .add (.t 38) (.c (.int .i64 1)))), (rO 38 (.mov (.t 59)))])))))))))) (.reg false [] [(rO 60 (.arith .add (.t 11) (.c (.int .i64 1)))), (rO 11 (.mov (.t 60)))]))))))) (.seq (.reg false [] [(rO 4 (.mov (.c (.bool true))))]) .ret)))⟩
def ir_impl_stars (N : FN) : CF := ⟨3, 26, [(.tmp 6)], (.seq (.reg false [4] [(rO 3 (.box (.t 0))), (rO 6 (.mov (.c (.int .i64 0))))]) (.seq (.seq (.reg false [12] [(rO 8 (.load (some 224) (.t 3))), (rO 9 (.mov (.t 1))), (rO 10 (.mov (.t 2))), (rO 11 (.call N.impl_listed [(.t 8), (.t 9), (.t 10)])), (rO 7 (.mov (.t 11)))]) (.seq (.reg false [] [(rO 12 (.mov (.t 7))), (rO 13 (.cmp .neq (.t 12) (.c (.int .i64 0))))]) (.cond (.t 13) (.seq (.reg false [] [(rO 14 (.mov (.t 7))), (rO 6 (.mov (.t 14)))]) .ret) .skip))) (.seq (.seq (.reg false [16, 19, 24] [(rO 15 (.call N.impl_Algebra_commutative [(.t 3)])), (rO 16 (.not (.t 15))), (rO 17 (.mov (.t 16))), ⟨(some 18), 19, (.call N.impl_Algebra_frobenius [(.t 3)]), (some (17, false)), [], none⟩, ⟨(some 19), 20, (.not (.t 18)), (some (17, false)), [], none⟩, (rO 20 (.pick (.t 17) (.c (.bool true)) (.t 19))), (rO 21 (.mov (.t 20))), ⟨(some 22), 23, (.mov (.t 1)), (some (21, false)), [], none⟩, ⟨(some 23), 24, (.call N.impl_Algebra_isStar [(.t 3), (.t 22)]), (some (21, false)), [], none⟩, ⟨(some 24), 25, (.not (.t 23)), (some (21, false)), [], none⟩, (rO 25 (.pick (.t 21) (.c (.bool true)) (.t 24)))]) (.cond (.t 25) (.seq (.reg false [] [(rO 6 (.mov (.c (.int .i64 5))))]) .ret) .skip)) (.seq (.reg false [] [(rO 6 (.mov (.c (.int .i64 0))))]) .ret))))⟩
def ir_impl_Algebra_klein (N : FN) : CF := ⟨2, 8, [(.cell 4 (some 6))], (.seq (.reg false [3, 4, 5] [(rO 2 (.box (.t 0))), (rO 3 (.box (.t 1))), (rO 4 (.alloc [(.int .u8 0), (.int .u8 0), (.int .u8 0), (.int .u8 0), (.int .u8 0), (.int .u8 0)]))]) (.seq (.reg false [8] [(rO 5 (.load none (.t 2))), (rO 6 (.mkfn N.impl_Algebra_klein_1 [] [(.t 2), (.t 3)])), (rO 7 (.call N.impl_Algebra_paired [(.t 5), (.t 6)])), ⟨none, 12, (.store (some 6) (.t 4) (.t 7)), none, [], none⟩]) .ret))⟩
def ir_impl_Algebra_klein_1 (N : FN) : CF := ⟨4, 15, [(.cell 6 (some 6))], (.seq (.reg false [7] [(rO 6 (.alloc [(.int .u8 0), (.int .u8 0), (.int .u8 0), (.int .u8 0), (.int .u8 0), (.int .u8 0)]))]) (.seq (.reg true [14, 15] [⟨(some 7), 8, (.load none (.t 2)), none, [14, 15], none⟩, ⟨(some 8), 9, (.load none (.t 3)), none, [14, 15], none⟩, (rO 9 (.mov (.t 0))), ⟨(some 10), 11, (.iaddrS 6 (.t 8) (.t 9)), none, [14, 15], none⟩, ⟨(some 11), 12, (.load (some 6) (.t 10)), none, [14, 15], none⟩, (rO 12 (.mov (.t 1))), ⟨(some 13), 14, (.call N.impl_basis [(.t 12)]), none, [15], none⟩, (rO 14 (.call N.impl_Algebra_times [(.t 7), (.t 11), (.t 13)])), ⟨none, 24, (.store (some 6) (.t 6) (.t 14)), none, [], none⟩]) .ret))⟩
def ir_impl_Algebra_crossCap (N : FN) : CF := ⟨4, 34, [(.tmp 8)], (.seq (.reg false [7, 8] [(rO 6 (.box (.t 2))), (rO 7 (.box (.t 3))), (rO 8 (.mov (.c (.bool false))))]) (.seq (.seq (.reg true [15] [(rO 11 (.mov (.t 0))), ⟨(some 12), 13, (.load (some 6) (.t 7)), none, [15], none⟩, ⟨(some 13), 14, (.load (some 6) (.t 7)), none, [15], none⟩, (rO 14 (.call N.impl_Algebra_times [(.t 11), (.t 12), (.t 13)])), ⟨(some 15), 16, (.load (some 6) (.t 6)), none, [15], none⟩, (rO 16 (.eqa true [(.int .u8), (.int .u8), (.int .u8), (.int .u8), (.int .u8), (.int .u8)] (.t 14) (.t 15)))]) (.cond (.t 16) (.seq (.reg false [] [(rO 8 (.mov (.c (.bool false))))]) .ret) .skip)) (.seq (.seq (.reg false [] [(rO 17 (.mov (.t 1))), (rO 18 (.len (.t 17))), (rO 19 (.mov (.c (.int .i64 0))))]) (.block 0 (.loop (.seq (.reg false [] [(rO 20 (.cmp .lss (.t 19) (.t 18)))]) (.seq (.cond (.t 20) .skip (.exit 0)) (.seq (.block 1 (.seq (.reg false [] [(rO 21 (.mov (.t 19))), (rO 9 (.mov (.t 21)))]) (.seq (.reg true [26, 27, 11] [(rO 22 (.mov (.t 0))), ⟨(some 23), 24, (.load (some 6) (.t 7)), none, [26, 27, 11], none⟩, (rO 24 (.mov (.t 9))), ⟨(some 25), 26, (.call N.impl_basis [(.t 24)]), none, [27, 11], none⟩, ⟨(some 26), 27, (.call N.impl_Algebra_times [(.t 22), (.t 23), (.t 25)]), none, [11], none⟩, (rO 10 (.alloc [(.int .u8 0), (.int .u8 0), (.int .u8 0), (.int .u8 0), (.int .u8 0), (.int .u8 0)])), ⟨none, 41, (.store (some 6) (.t 10) (.t 26)), none, [], (some [11])⟩]) (.seq (.reg true [31] [(rO 27 (.mov (.t 0))), (rO 28 (.mov (.t 1))), ⟨(some 29), 30, (.load (some 6) (.t 10)), none, [31], none⟩, (rO 30 (.call N.impl_Algebra_starred [(.t 27), (.t 28), (.t 29)])), ⟨(some 31), 32, (.load (some 6) (.t 10)), none, [31], none⟩, (rO 32 (.eqa true [(.int .u8), (.int .u8), (.int .u8), (.int .u8), (.int .u8), (.int .u8)] (.t 30) (.t 31)))]) (.cond (.t 32) (.seq (.reg false [] [(rO 8 (.mov (.c (.bool false))))]) .ret) .skip))))) (.reg false [] [(rO 33 (.arith .add (.t 19) (.c (.int .i64 1)))), (rO 19 (.mov (.t 33)))]))))))) (.seq (.reg false [] [(rO 8 (.mov (.c (.bool true))))]) .ret))))⟩
def ir_spec_l01Code (N : FN) : CF := ⟨2, 22, [(.tmp 4)], (.seq (.reg false [3] [(rO 2 (.box (.t 0))), (rO 4 (.mov (.c (.int .i64 0))))]) (.seq (.seq (.reg false [8] [(rO 6 (.load (some 224) (.t 2))), (rO 7 (.call N.spec_l01Algebra [(.t 6)])), (rO 8 (.not (.t 7)))]) (.cond (.t 8) (.seq (.reg false [] [(rO 4 (.mov (.c (.int .i64 1))))]) .ret) .skip)) (.seq (.seq (.reg false [] [(rO 5 (.mov (.c (.int .i64 0))))]) (.block 0 (.loop (.seq (.seq (.reg false [] [(rO 9 (.mov (.t 5))), (rO 10 (.mov (.t 1))), (rO 11 (.len (.t 10))), (rO 12 (.cmp .lss (.t 9) (.t 11)))]) (.cond (.t 12) .skip (.exit 0))) (.seq (.block 1 (.seq (.reg true [21] [⟨(some 15), 16, (.load (some 224) (.t 2)), none, [21], none⟩, (rO 16 (.mov (.t 1))), (rO 17 (.mov (.t 5))), ⟨(some 18), 19, (.iaddrS 6 (.t 16) (.t 17)), none, [21], none⟩, ⟨(some 19), 20, (.load (some 6) (.t 18)), none, [21], none⟩, (rO 20 (.call N.spec_l01Vector [(.t 15), (.t 19)])), (rO 21 (.not (.t 20)))]) (.cond (.t 21) (.seq (.reg false [] [(rO 4 (.mov (.c (.int .i64 1))))]) .ret) .skip))) (.reg false [] [(rO 13 (.mov (.t 5))), (rO 14 (.arith .add (.t 13) (.c (.int .i64 1)))), (rO 5 (.mov (.t 14)))])))))) (.seq (.reg false [] [(rO 4 (.mov (.c (.int .i64 0))))]) .ret))))⟩
def ir_spec_l08List (N : FN) : CF := ⟨3, 30, [(.tmp 6)], (.seq (.reg false [4] [(rO 3 (.box (.t 0))), (rO 6 (.mov (.c (.int .i64 0))))]) (.seq (.seq (.reg false [11] [(rO 8 (.load (some 224) (.t 3))), (rO 9 (.mov (.t 2))), (rO 10 (.call N.spec_l01Code [(.t 8), (.t 9)])), (rO 11 (.cmp .neq (.t 10) (.c (.int .i64 0))))]) (.cond (.t 11) (.seq (.reg false [] [(rO 6 (.mov (.c (.int .i64 1))))]) .ret) .skip)) (.seq (.seq (.reg false [] [(rO 12 (.mov (.t 1))), (rO 13 (.len (.t 12))), (rO 14 (.faddr 1 (.t 3))), (rO 15 (.load none (.t 14))), (rO 16 (.cmp .neq (.t 13) (.t 15)))]) (.cond (.t 16) (.seq (.reg false [] [(rO 6 (.mov (.c (.int .i64 2))))]) .ret) .skip)) (.seq (.seq (.reg false [] [(rO 7 (.mov (.c (.int .i64 0))))]) (.block 0 (.loop (.seq (.seq (.reg false [] [(rO 17 (.mov (.t 7))), (rO 18 (.mov (.t 1))), (rO 19 (.len (.t 18))), (rO 20 (.cmp .lss (.t 17) (.t 19)))]) (.cond (.t 20) .skip (.exit 0))) (.seq (.block 1 (.seq (.reg true [29] [⟨(some 23), 24, (.load (some 224) (.t 3)), none, [29], none⟩, (rO 24 (.mov (.t 1))), (rO 25 (.mov (.t 7))), ⟨(some 26), 27, (.iaddrS 6 (.t 24) (.t 25)), none, [29], none⟩, ⟨(some 27), 28, (.load (some 6) (.t 26)), none, [29], none⟩, (rO 28 (.call N.spec_l01Vector [(.t 23), (.t 27)])), (rO 29 (.not (.t 28)))]) (.cond (.t 29) (.seq (.reg false [] [(rO 6 (.mov (.c (.int .i64 2))))]) .ret) .skip))) (.reg false [] [(rO 21 (.mov (.t 7))), (rO 22 (.arith .add (.t 21) (.c (.int .i64 1)))), (rO 7 (.mov (.t 22)))])))))) (.seq (.reg false [] [(rO 6 (.mov (.c (.int .i64 0))))]) .ret)))))⟩
def ir_spec_l08Apply (N : FN) : CF := ⟨3, 29, [(.cell 6 (some 6))], (.seq (.reg false [4, 6, 7] [(rO 3 (.box (.t 0))), (rO 5 (.box (.t 2))), (rO 6 (.alloc [(.int .u8 0), (.int .u8 0), (.int .u8 0), (.int .u8 0), (.int .u8 0), (.int .u8 0)]))]) (.seq (.reg false [8] [(rO 9 (.build [(.int .u8 0), (.int .u8 0), (.int .u8 0), (.int .u8 0), (.int .u8 0), (.int .u8 0)] [])), (rO 7 (.alloc [(.int .u8 0), (.int .u8 0), (.int .u8 0), (.int .u8 0), (.int .u8 0), (.int .u8 0)])), ⟨none, 32, (.store (some 6) (.t 7) (.t 9)), none, [], none⟩]) (.seq (.seq (.reg false [] [(rO 8 (.mov (.c (.int .i64 0))))]) (.block 0 (.loop (.seq (.seq (.reg false [] [(rO 10 (.mov (.t 8))), (rO 11 (.faddr 1 (.t 3))), (rO 12 (.load none (.t 11))), (rO 13 (.cmp .lss (.t 10) (.t 12)))]) (.cond (.t 13) .skip (.exit 0))) (.seq (.block 1 (.reg true [28] [(rO 16 (.faddr 0 (.t 3))), ⟨(some 17), 18, (.load none (.t 16)), none, [28], none⟩, ⟨(some 18), 19, (.load (some 6) (.t 7)), none, [28], none⟩, (rO 19 (.mov (.t 1))), (rO 20 (.mov (.t 8))), ⟨(some 21), 22, (.iaddrS 6 (.t 19) (.t 20)), none, [28], none⟩, ⟨(some 22), 23, (.load (some 6) (.t 21)), none, [28], none⟩, (rO 23 (.mov (.t 8))), (rO 24 (.iaddrA 6 1 (.t 5) (.t 23))), ⟨(some 25), 26, (.load none (.t 24)), none, [28], none⟩, (rO 26 (.conv .i64 (.t 25))), (rO 27 (.call N.spec_l01Add [(.t 17), (.t 18), (.t 22), (.t 26)])), ⟨none, 42, (.store (some 6) (.t 7) (.t 27)), none, [], none⟩])) (.reg false [] [(rO 14 (.mov (.t 8))), (rO 15 (.arith .add (.t 14) (.c (.int .i64 1)))), (rO 8 (.mov (.t 15)))])))))) (.seq (.reg false [] [(rO 28 (.load (some 6) (.t 7))), ⟨none, 31, (.store (some 6) (.t 6) (.t 28)), none, [], none⟩]) .ret))))⟩
def ir_spec_l08Star (N : FN) : CF := ⟨2, 62, [(.tmp 4)], (.seq (.reg false [3] [(rO 2 (.box (.t 0))), (rO 4 (.mov (.c (.bool false))))]) (.seq (.seq (.reg false [] [(rO 5 (.mov (.c (.int .i64 0))))]) (.block 0 (.loop (.seq (.seq (.reg false [] [(rO 7 (.mov (.t 5))), (rO 8 (.faddr 1 (.t 2))), (rO 9 (.load none (.t 8))), (rO 10 (.cmp .lss (.t 7) (.t 9)))]) (.cond (.t 10) .skip (.exit 0))) (.seq (.block 1 (.seq (.seq (.reg true [20, 22, 30, 33, 34] [⟨(some 13), 14, (.load (some 224) (.t 2)), none, [20, 22, 30, 33, 34], none⟩, (rO 14 (.mov (.t 1))), (rO 15 (.mov (.t 1))), (rO 16 (.mov (.t 5))), ⟨(some 17), 18, (.iaddrS 6 (.t 15) (.t 16)), none, [20, 22, 30, 33, 34], none⟩, ⟨(some 18), 19, (.load (some 6) (.t 17)), none, [20, 22, 30, 33, 34], none⟩, ⟨(some 19), 20, (.call N.spec_l08Apply [(.t 13), (.t 14), (.t 18)]), none, [22, 30, 33, 34], none⟩, (rO 20 (.mov (.t 5))), ⟨(some 21), 22, (.call N.spec_l01Basis [(.t 20)]), none, [30, 33, 34], none⟩, (rO 22 (.eqa true [(.int .u8), (.int .u8), (.int .u8), (.int .u8), (.int .u8), (.int .u8)] (.t 19) (.t 21))), (rO 23 (.mov (.t 22))), ⟨(some 24), 25, (.load (some 224) (.t 2)), (some (23, false)), [30, 33, 34], none⟩, ⟨(some 25), 26, (.mov (.t 1)), (some (23, false)), [], none⟩, ⟨(some 26), 27, (.mov (.t 5)), (some (23, false)), [], none⟩, ⟨(some 27), 28, (.iaddrS 6 (.t 25) (.t 26)), (some (23, false)), [30, 33, 34], none⟩, ⟨(some 28), 29, (.load (some 6) (.t 27)), (some (23, false)), [30, 33, 34], none⟩, ⟨(some 29), 30, (.call N.spec_l01Form [(.t 24), (.t 28)]), (some (23, false)), [33, 34], none⟩, ⟨(some 30), 31, (.load (some 224) (.t 2)), (some (23, false)), [30, 33, 34], none⟩, ⟨(some 31), 32, (.mov (.t 5)), (some (23, false)), [], none⟩, ⟨(some 32), 33, (.call N.spec_l01Basis [(.t 31)]), (some (23, false)), [34], none⟩, ⟨(some 33), 34, (.call N.spec_l01Form [(.t 30), (.t 32)]), (some (23, false)), [], none⟩, ⟨(some 34), 35, (.cmp .neq (.t 29) (.t 33)), (some (23, false)), [], none⟩, (rO 35 (.pick (.t 23) (.c (.bool true)) (.t 34)))]) (.cond (.t 35) (.seq (.reg false [] [(rO 4 (.mov (.c (.bool false))))]) .ret) .skip)) (.seq (.reg false [] [(rO 6 (.mov (.c (.int .i64 0))))]) (.block 2 (.loop (.seq (.seq (.reg false [] [(rO 36 (.mov (.t 6))), (rO 37 (.faddr 1 (.t 2))), (rO 38 (.load none (.t 37))), (rO 39 (.cmp .lss (.t 36) (.t 38)))]) (.cond (.t 39) .skip (.exit 2))) (.seq (.block 3 (.seq (.reg true [47, 49, 50, 51, 61] [⟨(some 42), 43, (.load (some 224) (.t 2)), none, [47, 49, 50, 51, 61], none⟩, (rO 43 (.mov (.t 1))), ⟨(some 44), 45, (.load (some 224) (.t 2)), none, [47, 49, 50, 51, 61], none⟩, (rO 45 (.mov (.t 5))), ⟨(some 46), 47, (.call N.spec_l01Basis [(.t 45)]), none, [49, 50, 51, 61], none⟩, (rO 47 (.mov (.t 6))), ⟨(some 48), 49, (.call N.spec_l01Basis [(.t 47)]), none, [50, 51, 61], none⟩, ⟨(some 49), 50, (.call N.spec_l01Times [(.t 44), (.t 46), (.t 48)]), none, [51, 61], none⟩, ⟨(some 50), 51, (.call N.spec_l08Apply [(.t 42), (.t 43), (.t 49)]), none, [61], none⟩, ⟨(some 51), 52, (.load (some 224) (.t 2)), none, [47, 49, 50, 51, 61], none⟩, (rO 52 (.mov (.t 1))), (rO 53 (.mov (.t 6))), ⟨(some 54), 55, (.iaddrS 6 (.t 52) (.t 53)), none, [47, 49, 50, 51, 61], none⟩, ⟨(some 55), 56, (.load (some 6) (.t 54)), none, [47, 49, 50, 51, 61], none⟩, (rO 56 (.mov (.t 1))), (rO 57 (.mov (.t 5))), ⟨(some 58), 59, (.iaddrS 6 (.t 56) (.t 57)), none, [47, 49, 50, 51, 61], none⟩, ⟨(some 59), 60, (.load (some 6) (.t 58)), none, [47, 49, 50, 51, 61], none⟩, (rO 60 (.call N.spec_l01Times [(.t 51), (.t 55), (.t 59)])), (rO 61 (.eqa true [(.int .u8), (.int .u8), (.int .u8), (.int .u8), (.int .u8), (.int .u8)] (.t 50) (.t 60)))]) (.cond (.t 61) (.seq (.reg false [] [(rO 4 (.mov (.c (.bool false))))]) .ret) .skip))) (.reg false [] [(rO 40 (.mov (.t 6))), (rO 41 (.arith .add (.t 40) (.c (.int .i64 1)))), (rO 6 (.mov (.t 41)))])))))))) (.reg false [] [(rO 11 (.mov (.t 5))), (rO 12 (.arith .add (.t 11) (.c (.int .i64 1)))), (rO 5 (.mov (.t 12)))])))))) (.seq (.reg false [] [(rO 4 (.mov (.c (.bool true))))]) .ret)))⟩
def ir_spec_l08Code (N : FN) : CF := ⟨3, 31, [(.tmp 6)], (.seq (.reg false [4] [(rO 3 (.box (.t 0))), (rO 6 (.mov (.c (.int .i64 0))))]) (.seq (.reg false [12] [(rO 8 (.load (some 224) (.t 3))), (rO 9 (.mov (.t 1))), (rO 10 (.mov (.t 2))), (rO 11 (.call N.spec_l08List [(.t 8), (.t 9), (.t 10)])), (rO 7 (.mov (.t 11)))]) (.seq (.seq (.reg false [17, 21, 27] [(rO 12 (.mov (.t 7))), (rO 13 (.cmp .eql (.t 12) (.c (.int .i64 0)))), (rO 14 (.mov (.t 13))), ⟨(some 15), 16, (.load (some 224) (.t 3)), (some (14, true)), [], none⟩, ⟨(some 16), 17, (.call N.spec_l01Commutative [(.t 15)]), (some (14, true)), [], none⟩, ⟨(some 17), 18, (.not (.t 16)), (some (14, true)), [], none⟩, ⟨(some 18), 19, (.mov (.t 17)), (some (14, true)), [], none⟩, ⟨(some 19), 20, (.load (some 224) (.t 3)), (some (18, false)), [], none⟩, ⟨(some 20), 21, (.call N.spec_l01Frobenius [(.t 19)]), (some (18, false)), [], none⟩, ⟨(some 21), 22, (.not (.t 20)), (some (18, false)), [], none⟩, ⟨(some 22), 23, (.pick (.t 18) (.c (.bool true)) (.t 21)), (some (14, true)), [], none⟩, ⟨(some 23), 24, (.mov (.t 22)), (some (14, true)), [], none⟩, ⟨(some 24), 25, (.load (some 224) (.t 3)), (some (23, false)), [], none⟩, ⟨(some 25), 26, (.mov (.t 1)), (some (23, false)), [], none⟩, ⟨(some 26), 27, (.call N.spec_l08Star [(.t 24), (.t 25)]), (some (23, false)), [], none⟩, ⟨(some 27), 28, (.not (.t 26)), (some (23, false)), [], none⟩, ⟨(some 28), 29, (.pick (.t 23) (.c (.bool true)) (.t 27)), (some (14, true)), [], none⟩, (rO 29 (.pick (.t 14) (.t 28) (.c (.bool false))))]) (.cond (.t 29) (.reg false [] [(rO 7 (.mov (.c (.int .i64 5))))]) .skip)) (.seq (.reg false [] [(rO 30 (.mov (.t 7))), (rO 6 (.mov (.t 30)))]) .ret))))⟩
def ir_spec_l08Klein (N : FN) : CF := ⟨2, 44, [(.cell 4 (some 6))], (.seq (.reg false [3, 5] [(rO 2 (.box (.t 0))), (rO 4 (.alloc [(.int .u8 0), (.int .u8 0), (.int .u8 0), (.int .u8 0), (.int .u8 0), (.int .u8 0)]))]) (.seq (.reg false [11, 7] [(rO 9 (.load (some 224) (.t 2))), (rO 10 (.call N.spec_l02Copairing [(.t 9)])), (rO 11 (.build [(.int .u8 0), (.int .u8 0), (.int .u8 0), (.int .u8 0), (.int .u8 0), (.int .u8 0)] [])), (rO 6 (.alloc [(.int .u8 0), (.int .u8 0), (.int .u8 0), (.int .u8 0), (.int .u8 0), (.int .u8 0)])), (rO 5 (.mov (.t 10))), ⟨none, 50, (.store (some 6) (.t 6) (.t 11)), none, [], none⟩]) (.seq (.seq (.reg false [] [(rO 7 (.mov (.c (.int .i64 0))))]) (.block 0 (.loop (.seq (.seq (.reg false [] [(rO 12 (.mov (.t 7))), (rO 13 (.faddr 1 (.t 2))), (rO 14 (.load none (.t 13))), (rO 15 (.cmp .lss (.t 12) (.t 14)))]) (.cond (.t 15) .skip (.exit 0))) (.seq (.block 1 (.seq (.reg false [] [(rO 8 (.mov (.c (.int .i64 0))))]) (.block 2 (.loop (.seq (.seq (.reg false [] [(rO 18 (.mov (.t 8))), (rO 19 (.faddr 1 (.t 2))), (rO 20 (.load none (.t 19))), (rO 21 (.cmp .lss (.t 18) (.t 20)))]) (.cond (.t 21) .skip (.exit 2))) (.seq (.block 3 (.reg true [34, 35, 43] [(rO 24 (.faddr 0 (.t 2))), ⟨(some 25), 26, (.load none (.t 24)), none, [34, 35, 43], none⟩, ⟨(some 26), 27, (.load (some 6) (.t 6)), none, [34, 35, 43], none⟩, ⟨(some 27), 28, (.load (some 224) (.t 2)), none, [34, 35, 43], none⟩, (rO 28 (.mov (.t 1))), (rO 29 (.mov (.t 7))), ⟨(some 30), 31, (.iaddrS 6 (.t 28) (.t 29)), none, [34, 35, 43], none⟩, ⟨(some 31), 32, (.load (some 6) (.t 30)), none, [34, 35, 43], none⟩, (rO 32 (.mov (.t 8))), ⟨(some 33), 34, (.call N.spec_l01Basis [(.t 32)]), none, [35, 43], none⟩, ⟨(some 34), 35, (.call N.spec_l01Times [(.t 27), (.t 31), (.t 33)]), none, [43], none⟩, (rO 35 (.mov (.t 5))), (rO 36 (.mov (.t 7))), ⟨(some 37), 38, (.iaddrS 1 (.t 35) (.t 36)), none, [34, 35, 43], none⟩, ⟨(some 38), 39, (.load none (.t 37)), none, [34, 35, 43], none⟩, (rO 39 (.mov (.t 8))), ⟨(some 40), 41, (.iaddrS 1 (.t 38) (.t 39)), none, [34, 35, 43], none⟩, ⟨(some 41), 42, (.load none (.t 40)), none, [34, 35, 43], none⟩, (rO 42 (.call N.spec_l01Add [(.t 25), (.t 26), (.t 34), (.t 41)])), ⟨none, 64, (.store (some 6) (.t 6) (.t 42)), none, [], none⟩])) (.reg false [] [(rO 22 (.mov (.t 8))), (rO 23 (.arith .add (.t 22) (.c (.int .i64 1)))), (rO 8 (.mov (.t 23)))]))))))) (.reg false [] [(rO 16 (.mov (.t 7))), (rO 17 (.arith .add (.t 16) (.c (.int .i64 1)))), (rO 7 (.mov (.t 17)))])))))) (.seq (.reg false [] [(rO 43 (.load (some 6) (.t 6))), ⟨none, 46, (.store (some 6) (.t 4) (.t 43)), none, [], none⟩]) .ret))))⟩
def ir_spec_l08CrossCap (N : FN) : CF := ⟨4, 34, [(.tmp 8)], (.seq (.reg false [5, 7, 8] [(rO 4 (.box (.t 0))), (rO 6 (.box (.t 2))), (rO 7 (.box (.t 3))), (rO 8 (.mov (.c (.bool false))))]) (.seq (.seq (.reg true [15] [⟨(some 11), 12, (.load (some 224) (.t 4)), none, [15], none⟩, ⟨(some 12), 13, (.load (some 6) (.t 6)), none, [15], none⟩, ⟨(some 13), 14, (.load (some 6) (.t 6)), none, [15], none⟩, (rO 14 (.call N.spec_l01Times [(.t 11), (.t 12), (.t 13)])), ⟨(some 15), 16, (.load (some 6) (.t 7)), none, [15], none⟩, (rO 16 (.eqa true [(.int .u8), (.int .u8), (.int .u8), (.int .u8), (.int .u8), (.int .u8)] (.t 14) (.t 15)))]) (.cond (.t 16) (.seq (.reg false [] [(rO 8 (.mov (.c (.bool false))))]) .ret) .skip)) (.seq (.seq (.reg false [] [(rO 9 (.mov (.c (.int .i64 0))))]) (.block 0 (.loop (.seq (.seq (.reg false [] [(rO 17 (.mov (.t 9))), (rO 18 (.faddr 1 (.t 4))), (rO 19 (.load none (.t 18))), (rO 20 (.cmp .lss (.t 17) (.t 19)))]) (.cond (.t 20) .skip (.exit 0))) (.seq (.block 1 (.seq (.reg true [27, 28, 11] [⟨(some 23), 24, (.load (some 224) (.t 4)), none, [27, 28, 11], none⟩, ⟨(some 24), 25, (.load (some 6) (.t 6)), none, [27, 28, 11], none⟩, (rO 25 (.mov (.t 9))), ⟨(some 26), 27, (.call N.spec_l01Basis [(.t 25)]), none, [28, 11], none⟩, ⟨(some 27), 28, (.call N.spec_l01Times [(.t 23), (.t 24), (.t 26)]), none, [11], none⟩, (rO 10 (.alloc [(.int .u8 0), (.int .u8 0), (.int .u8 0), (.int .u8 0), (.int .u8 0), (.int .u8 0)])), ⟨none, 41, (.store (some 6) (.t 10) (.t 27)), none, [], (some [11])⟩]) (.seq (.reg true [32] [⟨(some 28), 29, (.load (some 224) (.t 4)), none, [32], none⟩, (rO 29 (.mov (.t 1))), ⟨(some 30), 31, (.load (some 6) (.t 10)), none, [32], none⟩, (rO 31 (.call N.spec_l08Apply [(.t 28), (.t 29), (.t 30)])), ⟨(some 32), 33, (.load (some 6) (.t 10)), none, [32], none⟩, (rO 33 (.eqa true [(.int .u8), (.int .u8), (.int .u8), (.int .u8), (.int .u8), (.int .u8)] (.t 31) (.t 32)))]) (.cond (.t 33) (.seq (.reg false [] [(rO 8 (.mov (.c (.bool false))))]) .ret) .skip)))) (.reg false [] [(rO 21 (.mov (.t 9))), (rO 22 (.arith .add (.t 21) (.c (.int .i64 1)))), (rO 9 (.mov (.t 22)))])))))) (.seq (.reg false [] [(rO 8 (.mov (.c (.bool true))))]) .ret))))⟩
def ir_laws_szVectorS (N : FN) : CF := ⟨2, 12, [(.tmp 4)], (.seq (.reg false [] [(rO 4 (.mov (.c (.int .i64 0))))]) (.seq (.reg false [] [(rO 5 (.mov (.t 1))), (rO 6 (.mov (.t 0))), (rO 7 (.len (.t 6))), (rO 8 (.arith .sub (.t 5) (.t 7))), (rO 1 (.mov (.t 8)))]) (.seq (.seq (.reg false [] [(rO 9 (.mov (.t 1))), (rO 10 (.cmp .lss (.t 9) (.c (.int .i64 0))))]) (.cond (.t 10) (.seq (.reg false [] [(rO 4 (.mov (.c (.int .i64 (-1)))))]) .ret) .skip)) (.seq (.reg false [] [(rO 11 (.mov (.t 1))), (rO 4 (.mov (.t 11)))]) .ret))))⟩
def ir_laws_toVectorS (N : FN) : CF := ⟨1, 23, [(.tmp 2)], (.seq (.reg false [] [(rO 2 (.mov (.c .emp)))]) (.seq (.reg false [8] [(rO 5 (.mov (.t 0))), (rO 6 (.len (.t 5))), (rO 7 (.mkrow 6 6 [(.int .u8 0), (.int .u8 0), (.int .u8 0), (.int .u8 0), (.int .u8 0), (.int .u8 0)] (.t 6))), (rO 3 (.mov (.t 7)))]) (.seq (.seq (.reg false [] [(rO 4 (.mov (.c (.int .i64 0))))]) (.block 0 (.loop (.seq (.seq (.reg false [] [(rO 8 (.mov (.t 4))), (rO 9 (.mov (.t 0))), (rO 10 (.len (.t 9))), (rO 11 (.cmp .lss (.t 8) (.t 10)))]) (.cond (.t 11) .skip (.exit 0))) (.seq (.block 1 (.reg false [21] [(rO 14 (.mov (.t 3))), (rO 15 (.mov (.t 4))), (rO 16 (.mov (.t 0))), (rO 17 (.mov (.t 4))), (rO 18 (.iaddrS 6 (.t 16) (.t 17))), (rO 19 (.load (some 6) (.t 18))), (rO 20 (.call N.laws_toVector [(.t 19)])), (rO 21 (.iaddrS 6 (.t 14) (.t 15))), ⟨none, 32, (.store (some 6) (.t 21) (.t 20)), none, [], none⟩])) (.reg false [] [(rO 12 (.mov (.t 4))), (rO 13 (.arith .add (.t 12) (.c (.int .i64 1)))), (rO 4 (.mov (.t 13)))])))))) (.seq (.reg false [] [(rO 22 (.mov (.t 3))), (rO 2 (.mov (.t 22)))]) .ret))))⟩
def ir_laws_eqVectorS (N : FN) : CF := ⟨2, 27, [(.tmp 4)], (.seq (.reg false [] [(rO 4 (.mov (.c (.bool false))))]) (.seq (.seq (.reg false [] [(rO 6 (.mov (.t 0))), (rO 7 (.len (.t 6))), (rO 8 (.mov (.t 1))), (rO 9 (.len (.t 8))), (rO 10 (.cmp .neq (.t 7) (.t 9)))]) (.cond (.t 10) (.seq (.reg false [] [(rO 4 (.mov (.c (.bool false))))]) .ret) .skip)) (.seq (.seq (.reg false [] [(rO 5 (.mov (.c (.int .i64 0))))]) (.block 0 (.loop (.seq (.seq (.reg false [] [(rO 11 (.mov (.t 5))), (rO 12 (.mov (.t 0))), (rO 13 (.len (.t 12))), (rO 14 (.cmp .lss (.t 11) (.t 13)))]) (.cond (.t 14) .skip (.exit 0))) (.seq (.block 1 (.seq (.reg true [26] [(rO 17 (.mov (.t 0))), (rO 18 (.mov (.t 5))), ⟨(some 19), 20, (.iaddrS 6 (.t 17) (.t 18)), none, [26], none⟩, ⟨(some 20), 21, (.load (some 6) (.t 19)), none, [26], none⟩, (rO 21 (.mov (.t 1))), (rO 22 (.mov (.t 5))), ⟨(some 23), 24, (.iaddrS 6 (.t 21) (.t 22)), none, [26], none⟩, ⟨(some 24), 25, (.load (some 6) (.t 23)), none, [26], none⟩, (rO 25 (.call N.laws_eqVector [(.t 20), (.t 24)])), (rO 26 (.not (.t 25)))]) (.cond (.t 26) (.seq (.reg false [] [(rO 4 (.mov (.c (.bool false))))]) .ret) .skip))) (.reg false [] [(rO 15 (.mov (.t 5))), (rO 16 (.arith .add (.t 15) (.c (.int .i64 1)))), (rO 5 (.mov (.t 16)))])))))) (.seq (.reg false [] [(rO 4 (.mov (.c (.bool true))))]) .ret))))⟩
end Go.X
namespace Go.X
open Go Go.RowKit
theorem dot_sub (m : Nat) (r z y : Row) : dot m r (fun i => z i - y i) = dot m r z - dot m r y := by
  unfold dot
  rw [Int.sub_eq_add_neg, show -(sumN m fun i => r i * y i) = -1 * sumN m fun i => r i * y i from by omega, ← sumN_mul, ← sumN_add]
  refine sumN_ext fun i _ => ?_
  rw [Int.mul_sub]; omega
theorem dot_mod {p : Int} {m : Nat} {r z y : Row} (h : ∀ i, i < m → z i % p = y i % p) : dot m r z % p = dot m r y % p := sumN_mod fun i hi => cg_mul rfl (h i hi)
theorem sumN_two {f : Nat → Int} {i j : Nat} {n : Nat} (hi : i < n) (hj : j < n) (hij : i ≠ j) (h : ∀ k, k < n → k ≠ i → k ≠ j → f k = 0) : sumN n f = f i + f j := by
  have e : sumN n f = sumN n (fun k => (if k = i then f k else 0) + (if k = j then f k else 0)) := sumN_ext fun k hk => by
    by_cases h1 : k = i
    · subst h1; rw [if_pos rfl, if_neg hij]; omega
    · by_cases h2 : k = j
      · subst h2; rw [if_neg h1, if_pos rfl]; omega
      · rw [if_neg h1, if_neg h2, h k hk h1 h2]; rfl
  rw [e, sumN_add, sumN_one (i := i) hi (fun k hk => by rw [if_neg hk]), sumN_one (i := j) hj (fun k hk => by rw [if_neg hk]), if_pos rfl, if_pos rfl]
theorem sumN_one' {f : Nat → Int} {i n : Nat} (hi : i < n) (h : ∀ k, k < n → k ≠ i → f k = 0) : sumN n f = f i := by
  have e : sumN n f = sumN n (fun k => if k = i then f k else 0) := sumN_ext fun k hk => by
    by_cases h1 : k = i
    · rw [if_pos h1]
    · rw [if_neg h1, h k hk h1]
  rw [e, sumN_one (i := i) hi (fun k hk => by rw [if_neg hk]), if_pos rfl]
theorem RR.ld_ne {p : Int} {m : Nat} {L : List Row} {ld : Nat → Nat} (h : RR p m L ld) {i j : Nat} (hi : i < L.length) (hj : j < L.length) (hij : i ≠ j) : ld i ≠ ld j := by
  rcases Nat.lt_or_gt_of_ne hij with c | c
  · have := h.sort i j c hj; omega
  · have := h.sort j i c hi; omega
theorem RR.ld_ge {p : Int} {m : Nat} {L : List Row} {ld : Nat → Nat} (h : RR p m L ld) : ∀ i, i < L.length → i ≤ ld i
  | 0, _ => Nat.zero_le _
  | i + 1, hi => by have := h.ld_ge i (by omega); have := h.sort i (i + 1) (by omega) hi; omega
theorem RR.len_le {p : Int} {m : Nat} {L : List Row} {ld : Nat → Nat} (h : RR p m L ld) : L.length ≤ m := by
  rcases Nat.lt_or_ge m L.length with c | c
  · have := h.ld_ge m c; have := (h.lead m c).1; omega
  · exact c
def kv (p : Int) (L : List Row) (ld : Nat → Nat) (c : Nat) : Row := fun j => if j = c then 1 else match (List.range L.length).find? (fun i => ld i == j) with
  | some i => -(L.getD i Z c) % p
  | none => 0
theorem kv_c {p : Int} {L : List Row} {ld : Nat → Nat} {c : Nat} : kv p L ld c c = 1 := by unfold kv; rw [if_pos rfl]
theorem kv_no {p : Int} {L : List Row} {ld : Nat → Nat} {c j : Nat} (hj : j ≠ c) (h : ∀ i, i < L.length → ld i ≠ j) : kv p L ld c j = 0 := by
  unfold kv
  rw [if_neg hj]
  have : (List.range L.length).find? (fun i => ld i == j) = none := by
    rw [List.find?_eq_none]
    intro i hi
    have := h i (by simpa using hi)
    simpa using this
  rw [this]
theorem kv_ld {p : Int} {m : Nat} {L : List Row} {ld : Nat → Nat} (hr : RR p m L ld) {c i : Nat} (hi : i < L.length) (hc : ld i ≠ c) : kv p L ld c (ld i) = -(L.getD i Z c) % p := by
  unfold kv
  rw [if_neg hc]
  have : (List.range L.length).find? (fun k => ld k == ld i) = some i := by
    rw [List.find?_eq_some_iff_getElem]
    refine ⟨by simp, i, by simpa using hi, by simp, fun k hk => ?_⟩
    have := hr.ld_ne (i := k) (j := i) (by omega) hi (by omega)
    simpa using this
  rw [this]
theorem kv_rw {p : Int} {L : List Row} {ld : Nat → Nat} {c : Nat} (hp : 2 ≤ p) : Rw p (kv p L ld c) := fun j => by
  unfold kv
  split
  · omega
  · split
    · exact mod_bd _ (by omega)
    · omega
theorem kv_ker {p : Int} {m : Nat} {L : List Row} {ld : Nat → Nat} (hr : RR p m L ld) {c : Nat} (hc : c < m) (h : ∀ i, i < L.length → ld i ≠ c) : Ker p m L (kv p L ld c) := fun r hrm => by
  obtain ⟨i, hi, rfl⟩ := mem_getD hrm
  obtain ⟨l1, l2, l3⟩ := hr.lead i hi
  unfold dot
  rw [sumN_two (i := ld i) (j := c) l1 hc (h i hi) fun k hk h1 h2 => ?_]
  · rw [l2, kv_c, kv_ld hr hi (h i hi), Int.one_mul, Int.mul_one]
    have : (-(L.getD i Z c) % p + L.getD i Z c) % p = (-(L.getD i Z c) + L.getD i Z c) % p := cg_add (cg_mod p _) rfl
    rw [this, Int.add_left_neg]; simp
  · by_cases e : ∃ i', i' < L.length ∧ ld i' = k
    · obtain ⟨i', hi', rfl⟩ := e
      have : i' ≠ i := fun e => h1 (by rw [e])
      rw [hr.zero i' i hi' hi this, Int.zero_mul]
    · rw [kv_no h2 (fun i' hi' e' => e ⟨i', hi', e'⟩), Int.mul_zero]
def KerZ (p : Int) (m : Nat) (L : List Row) : Prop := ∀ z, Rw p z → Ker p m L z → ∀ i, i < m → z i = 0
theorem RR.full {p : Int} {m : Nat} {L : List Row} {ld : Nat → Nat} (h : RR p m L ld) {n : Nat} (hl : L.length = n) (hb : ∀ i, i < n → ld i < n) : ∀ i, i < n → ld i = i := by
  intro i hi
  have h1 := h.ld_ge i (by omega)
  have key : ∀ d, ∀ i, i + d = n - 1 → ld i ≤ i ∨ n ≤ i := by
    intro d
    induction d with
    | zero => intro i hi; have := hb i; omega
    | succ d ih =>
      intro i hi
      have := ih (i + 1) (by omega)
      have := h.sort i (i + 1) (by omega)
      omega
  have := key (n - 1 - i) i (by omega)
  omega
theorem kerZ_len {p : Int} {m : Nat} {L : List Row} {ld : Nat → Nat} (hp : 2 ≤ p) (h : RR p m L ld) : L.length = m ↔ KerZ p m L := by
  constructor
  · intro hl z hz hk i hi
    have hf := h.full hl (fun i hi => (h.lead i (by omega)).1)
    have h1 := hk _ (getD_mem (L := L) (i := i) (by omega))
    unfold dot at h1
    rw [sumN_one' (i := i) hi fun k hk hne => ?_] at h1
    · have := (h.lead i (by omega)).2.1
      rw [hf i hi] at this
      rw [this, Int.one_mul, rw_mod hz] at h1
      exact h1
    · have := h.zero k i (by omega) (by omega) hne
      rw [hf k (by omega)] at this
      rw [this, Int.zero_mul]
  · intro hz
    have h1 := h.len_le
    rcases Nat.lt_or_ge L.length m with c | c
    · exfalso
      have : ∃ c, c < m ∧ ∀ i, i < L.length → ld i ≠ c := by
        apply Classical.byContradiction
        intro hn
        have hall : ∀ c, c < m → ∃ i, i < L.length ∧ ld i = c := fun c hc => Classical.byContradiction fun h' => hn ⟨c, hc, fun i hi e => h' ⟨i, hi, e⟩⟩
        have key : ∀ c, c < m → ∃ i, i < L.length ∧ ld i = c ∧ c ≤ i := by
          intro c
          induction c with
          | zero => intro hc; obtain ⟨i, hi, e⟩ := hall 0 hc; exact ⟨i, hi, e, by omega⟩
          | succ c ih =>
            intro hc
            obtain ⟨i, hi, e, hle⟩ := ih (by omega)
            obtain ⟨i', hi', e'⟩ := hall (c + 1) hc
            refine ⟨i', hi', e', ?_⟩
            rcases Nat.lt_trichotomy i i' with t | t | t
            · omega
            · subst t; omega
            · have := h.sort i' i t hi; omega
        obtain ⟨i, hi, _, hle⟩ := key (m - 1) (by omega)
        omega
      obtain ⟨c, hc, hne⟩ := this
      have := hz _ (kv_rw hp) (kv_ker h hc hne) c hc
      rw [kv_c] at this
      omega
    · omega
theorem rank_eq {p : Int} {m : Nat} {L : List Row} (hp : p ∈ primes) (hR : RwL p L) : (redF p m L).length = m ↔ (echF p m L).length = m := by
  have hp2 := prime_bd hp
  obtain ⟨l1, r1⟩ := redF_rr (m := m) hp hR
  obtain ⟨l2, r2⟩ := echF_rr (m := m) hp hR
  rw [kerZ_len hp2.1 r1, kerZ_len hp2.1 r2]
  unfold KerZ
  constructor <;> intro h z hz hk
  · exact h z hz ((redF_ker hp hR).2 ((echF_ker hp hR).1 hk))
  · exact h z hz ((echF_ker hp hR).2 ((redF_ker hp hR).1 hk))
theorem kerZ_ech {p : Int} {m : Nat} {L : List Row} (hp : p ∈ primes) (hR : RwL p L) (h : (echF p m L).length = m) : KerZ p m L := by
  have hp2 := prime_bd hp
  obtain ⟨l2, r2⟩ := echF_rr (m := m) hp hR
  exact fun z hz hk => (kerZ_len hp2.1 r2).1 h z hz ((echF_ker hp hR).2 hk)
def ext1 (n : Nat) (r : Row) : Row := fun i => if i < n then r i else -1
def Sol (p : Int) (n : Nat) (L : List Row) (r : Row) : Prop := Ker p (n + 1) L (ext1 n r)
theorem dot_ext1 (n : Nat) (r v : Row) : dot (n + 1) r (ext1 n v) = dot n r v - r n := by
  unfold dot
  rw [sumN]
  have : sumN n (fun i => r i * ext1 n v i) = sumN n fun i => r i * v i := sumN_ext fun i hi => by unfold ext1; rw [if_pos hi]
  rw [this]
  unfold ext1
  rw [if_neg (by omega), Int.mul_neg, Int.mul_one]; omega
theorem sol_iff {p : Int} {n : Nat} {L : List Row} {v : Row} : Sol p n L v ↔ ∀ r ∈ L, dot n r v % p = r n % p := by
  unfold Sol Ker
  constructor
  · intro h r hr
    have := h r hr
    rw [dot_ext1] at this
    exact Int.emod_eq_emod_iff_emod_sub_eq_zero.2 this
  · intro h r hr
    rw [dot_ext1]
    exact Int.emod_eq_emod_iff_emod_sub_eq_zero.1 (h r hr)
theorem sol_red {p : Int} {n : Nat} {L : List Row} {v : Row} (hp : p ∈ primes) (hR : RwL p L) : Sol p n (redF p (n + 1) L) v ↔ Sol p n L v := redF_ker hp hR
theorem sol_ech {p : Int} {n : Nat} {L : List Row} {v : Row} (hp : p ∈ primes) (hR : RwL p L) : Sol p n (echF p (n + 1) L) v ↔ Sol p n L v := echF_ker hp hR
theorem no_sol {p : Int} {n : Nat} {L : List Row} {ld : Nat → Nat} {v : Row} (hp : 2 ≤ p) (h : RR p (n + 1) L ld) (hs : Sol p n L v) {i : Nat} (hi : i < L.length) : ld i < n := by
  obtain ⟨l1, l2, l3⟩ := h.lead i hi
  rcases Nat.lt_or_ge (ld i) n with c | c
  · exact c
  · exfalso
    have e : ld i = n := by omega
    have := sol_iff.1 hs _ (getD_mem hi)
    rw [e] at l2 l3
    unfold dot at this
    rw [sumN_zero fun k hk => by rw [l3 k hk, Int.zero_mul], l2, Int.emod_eq_of_lt (by omega) (by omega), Int.emod_eq_of_lt (by omega) (by omega)] at this
    omega
theorem sol_of {p : Int} {n : Nat} {L : List Row} {ld : Nat → Nat} {v : Row} (h : RR p (n + 1) L ld) (hl : ∀ i, i < L.length → ld i < n) (h1 : ∀ i, i < L.length → v (ld i) = L.getD i Z n) (h2 : ∀ j, j < n → (∀ i, i < L.length → ld i ≠ j) → v j = 0) : Sol p n L v := sol_iff.2 fun r hr => by
  obtain ⟨i, hi, rfl⟩ := mem_getD hr
  obtain ⟨l1, l2, l3⟩ := h.lead i hi
  unfold dot
  rw [sumN_one' (i := ld i) (hl i hi) fun k hk hne => ?_]
  · rw [l2, Int.one_mul, h1 i hi]
  · by_cases e : ∃ i', i' < L.length ∧ ld i' = k
    · obtain ⟨i', hi', rfl⟩ := e
      have : i' ≠ i := fun e => hne (by rw [e])
      rw [h.zero i' i hi' hi this, Int.zero_mul]
    · rw [h2 k hk (fun i' hi' e' => e ⟨i', hi', e'⟩), Int.mul_zero]
theorem solN_ok {p : Int} {n : Nat} {L : List Row} {ld : Nat → Nat} (h : RR p (n + 1) L ld) (hl : ∀ i, i < L.length → ld i < n) : ∀ k, k ≤ L.length → ∃ o, solN n L k = some o ∧ (∀ i, i < k → o (ld i) = L.getD i Z n) ∧ ∀ j, (∀ i, i < k → ld i ≠ j) → o j = 0
  | 0, _ => ⟨Z, rfl, fun i hi => by omega, fun j _ => rfl⟩
  | k + 1, hk => by
    obtain ⟨o, e, h1, h2⟩ := solN_ok h hl k (by omega)
    have hld := (h.lead k (by omega)).leadF
    have := hl k (by omega)
    refine ⟨upd o (ld k) (L.getD k Z n), ?_, fun i hi => ?_, fun j hj => ?_⟩
    · unfold solN
      rw [e]
      dsimp only
      rw [hld, if_neg (by omega)]; rfl
    · by_cases c : i = k
      · subst c; exact upd_same ..
      · rw [upd_ne _ _ (h.ld_ne (by omega) (by omega) c)]; exact h1 i (by omega)
    · rw [upd_ne _ _ (fun e => hj k (by omega) e.symm)]; exact h2 j (fun i hi => hj i (by omega))
theorem solN_no {p : Int} {n : Nat} {L : List Row} {ld : Nat → Nat} (h : RR p (n + 1) L ld) : ∀ k, k ≤ L.length → ∀ o, solN n L k = some o → ∀ i, i < k → ld i < n
  | 0, _, _, _, i, hi => by omega
  | k + 1, hk, o, e, i, hi => by
    have hld := (h.lead k (by omega)).leadF
    have hb := (h.lead k (by omega)).1
    unfold solN at e
    split at e
    · cases e
    · rename_i o' e'
      split at e
      · cases e
      · rename_i hne
        rw [hld] at hne
        by_cases c : i = k
        · subst c; omega
        · exact solN_no h k (by omega) o' e' i (by omega)
theorem iSolve_some {p : Int} {n : Nat} {L : List Row} {r : Row} (hp : p ∈ primes) (hR : RwL p L) (h : iSolveF p n L = some r) : Sol p n L r := by
  obtain ⟨ld, rr⟩ := redF_rr (m := n + 1) hp hR
  unfold iSolveF at h
  have hl := solN_no rr _ (Nat.le_refl _) _ h
  obtain ⟨o, e, h1, h2⟩ := solN_ok rr hl _ (Nat.le_refl _)
  rw [e] at h
  simp only [Option.some.injEq] at h
  subst h
  exact (sol_red hp hR).1 (sol_of rr hl h1 fun j _ hj => h2 j hj)
theorem iSolve_none {p : Int} {n : Nat} {L : List Row} {r : Row} (hp : p ∈ primes) (hR : RwL p L) (hs : Sol p n L r) : (iSolveF p n L).isSome = true := by
  have hp2 := prime_bd hp
  obtain ⟨ld, rr⟩ := redF_rr (m := n + 1) hp hR
  have hs' := (sol_red hp hR).2 hs
  obtain ⟨o, e, _⟩ := solN_ok rr (fun i hi => no_sol hp2.1 rr hs' hi) _ (Nat.le_refl _)
  unfold iSolveF
  rw [e]; rfl
theorem sSolve_some {p : Int} {n : Nat} {L : List Row} {r : Row} (hp : p ∈ primes) (hR : RwL p L) (h : sSolveF p n L = some r) : Sol p n L r := by
  obtain ⟨ld, rr⟩ := echF_rr (m := n + 1) hp hR
  unfold sSolveF at h
  split at h
  · rename_i g
    obtain ⟨_, g2, g3⟩ := g
    simp only [Option.some.injEq] at h
    have hld : ∀ i, i < n → ld i = i := fun i hi => by
      have := (rr.lead i (by omega)).leadF
      rw [g3 i hi] at this; omega
    refine (sol_ech hp hR).1 (sol_of rr (fun i hi => by rw [hld i (by omega)]; omega) (fun i hi => ?_) fun j hj hn => absurd (hld j hj) (hn j (by omega)))
    rw [hld i (by omega), ← h]
  · cases h
theorem sSolve_of {p : Int} {n : Nat} {L : List Row} {r : Row} (hp : p ∈ primes) (hR : RwL p L) (hne : L ≠ []) (hs : Sol p n L r) (hr : Rw p r) (hu : ∀ v, Rw p v → Sol p n L v → ∀ i, i < n → v i = r i) : ∃ s, sSolveF p n L = some s ∧ ∀ i, i < n → s i = r i := by
  have hp2 := prime_bd hp
  obtain ⟨ld, rr⟩ := echF_rr (m := n + 1) hp hR
  have hs' := (sol_ech hp hR).2 hs
  have hl : ∀ i, i < (echF p (n + 1) L).length → ld i < n := fun i hi => no_sol hp2.1 rr hs' hi
  have hall : ∀ c, c < n → ∃ i, i < (echF p (n + 1) L).length ∧ ld i = c := fun c hc => by
    apply Classical.byContradiction
    intro hn
    have hk := kv_ker rr (c := c) (by omega) (fun i hi e => hn ⟨i, hi, e⟩)
    have hk' := (echF_ker hp hR).1 hk
    have hz : kv p (echF p (n + 1) L) ld c n = 0 := kv_no (by omega) (fun i hi e => by have := hl i hi; omega)
    have hsol : Sol p n L (fun i => (r i + kv p (echF p (n + 1) L) ld c i) % p) := sol_iff.2 fun x hx => by
      have h1 := sol_iff.1 hs x hx
      have h2 := hk' x hx
      unfold dot at h2
      rw [sumN, hz, Int.mul_zero, Int.add_zero] at h2
      have e : dot n x (fun i => (r i + kv p (echF p (n + 1) L) ld c i) % p) % p = dot n x (fun i => r i + kv p (echF p (n + 1) L) ld c i) % p := dot_mod fun i _ => cg_mod p _
      have e2 : dot n x (fun i => r i + kv p (echF p (n + 1) L) ld c i) = dot n x r + sumN n fun i => x i * kv p (echF p (n + 1) L) ld c i := by
        unfold dot
        rw [← sumN_add]
        exact sumN_ext fun i _ => Int.mul_add ..
      rw [e, e2, ← h1]
      have := cg_add (p := p) (a := dot n x r) rfl (show (sumN n fun i => x i * kv p (echF p (n + 1) L) ld c i) % p = 0 % p by rw [h2]; simp)
      rw [this, Int.add_zero]
    have := hu _ (fun i => mod_bd _ (by omega)) hsol c hc
    rw [kv_c] at this
    have h3 := hr c
    rcases Int.lt_or_le (r c + 1) p with t | t
    · rw [Int.emod_eq_of_lt (by omega) t] at this; omega
    · rw [show r c + 1 = p by omega, Int.emod_self] at this; omega
  have hge : ∀ c, c < n → ∃ i, i < (echF p (n + 1) L).length ∧ ld i = c ∧ c ≤ i := by
    intro c
    induction c with
    | zero => intro hc; obtain ⟨i, hi, e⟩ := hall 0 hc; exact ⟨i, hi, e, by omega⟩
    | succ c ih =>
      intro hc
      obtain ⟨i, hi, e, hle⟩ := ih (by omega)
      obtain ⟨i', hi', e'⟩ := hall (c + 1) hc
      refine ⟨i', hi', e', ?_⟩
      rcases Nat.lt_trichotomy i i' with t | t | t
      · omega
      · subst t; omega
      · have := rr.sort i' i t hi; omega
  have hlen : (echF p (n + 1) L).length = n := by
    have h1 : n ≤ (echF p (n + 1) L).length := by
      rcases Nat.eq_zero_or_pos n with c | c
      · omega
      · obtain ⟨i, hi, _, hle⟩ := hge (n - 1) (by omega); omega
    rcases Nat.lt_or_ge n (echF p (n + 1) L).length with c | c
    · have := rr.ld_ge n c; have := hl n c; omega
    · omega
  have hld := rr.full hlen (fun i hi => hl i (by omega))
  have e : sSolveF p n L = some fun i => (echF p (n + 1) L).getD i Z n := by
    unfold sSolveF
    rw [if_pos ⟨hne, hlen, fun i hi => by rw [(rr.lead i (by omega)).leadF, hld i hi]⟩]
  refine ⟨_, e, ?_⟩
  have hsol := sSolve_some hp hR e
  exact fun i hi => hu _ (fun i => rr.rw.get (by omega) i n) hsol i hi
end Go.X
