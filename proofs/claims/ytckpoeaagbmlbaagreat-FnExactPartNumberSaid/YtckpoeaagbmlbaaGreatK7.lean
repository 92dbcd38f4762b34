import Derived.Test.YtckpoeaagbmlbaaGreatK6
import Derived.Test.YtckpoeaagbmlbaaGreatK3
import Derived.Test.YtckpoeaagbmlbaaGreatK5
set_option linter.all false
namespace Go.X
open Go Go.RowKit
def FN.spec_l05Space (N : FN) : FuncId := N.f 150
def FN.spec_l05Before (N : FN) : FuncId := N.f 151
def FN.spec_l05Primitive (N : FN) : FuncId := N.f 152
def FN.impl_Algebra_primitives_1 (N : FN) : FuncId := N.f 153
def FN.impl_Algebra_shares (N : FN) : FuncId := N.f 154
def FN.impl_Algebra_primitives (N : FN) : FuncId := N.f 155
def FN.slices_SortFunc_Limpl_Vector_impl_Vector (N : FN) : FuncId := N.f 156
def FN.impl_Algebra_primitives_2 (N : FN) : FuncId := N.f 157
def FN.bytes_Compare (N : FN) : FuncId := N.f 158
def FN.internal_bytealg_Compare (N : FN) : FuncId := N.f 159
def FN.math_bits_Len (N : FN) : FuncId := N.f 160
def FN.slices_pdqsortCmpFunc_impl_Vector (N : FN) : FuncId := N.f 161
def FN.slices_insertionSortCmpFunc_impl_Vector (N : FN) : FuncId := N.f 162
def FN.slices_heapSortCmpFunc_impl_Vector (N : FN) : FuncId := N.f 163
def FN.slices_breakPatternsCmpFunc_impl_Vector (N : FN) : FuncId := N.f 164
def FN.slices_choosePivotCmpFunc_impl_Vector (N : FN) : FuncId := N.f 165
def FN.slices_reverseRangeCmpFunc_impl_Vector (N : FN) : FuncId := N.f 166
def FN.slices_partialInsertionSortCmpFunc_impl_Vector (N : FN) : FuncId := N.f 167
def FN.slices_partitionEqualCmpFunc_impl_Vector (N : FN) : FuncId := N.f 168
def FN.slices_partitionCmpFunc_impl_Vector (N : FN) : FuncId := N.f 169
def FN.math_bits_Len32 (N : FN) : FuncId := N.f 170
def FN.math_bits_Len64 (N : FN) : FuncId := N.f 171
def ir_spec_l05Space (N : FN) : CF := ⟨3, 67, [(.tmp 6)], (.seq (.reg false [4] [(rO 3 (.box (.t 0))), (rO 6 (.mov (.c .emp)))]) (.seq (.ga (.put [8]) (.ga (.dead [12]) (.ga (.ren [7]) (.reg false [13] [(rO 12 (.bslice 1 [])), (rO 7 (.mov (.t 12)))])))) (.seq (.seq (.reg false [] [(rO 8 (.mov (.c (.int .i64 0))))]) (.block 0 (.loop (.seq (.seq (.reg false [] [(rO 13 (.mov (.t 8))), (rO 14 (.faddr 1 (.t 3))), (rO 15 (.load none (.t 14))), (rO 16 (.cmp .lss (.t 13) (.t 15)))]) (.cond (.t 16) .skip (.exit 0))) (.seq (.block 1 (.ga (.put [8]) (.ga (.dead [22]) (.ga (.ren [7]) (.reg false [21, 22, 23] [(rO 19 (.mov (.t 7))), (rO 20 (.bslice 1 [])), (rO 21 (.bslice 1 [(.t 20)])), (rO 22 (.app 1 24 (.t 19) (.t 21))), (rO 7 (.mov (.t 22)))]))))) (.reg false [] [(rO 17 (.mov (.t 8))), (rO 18 (.arith .add (.t 17) (.c (.int .i64 1)))), (rO 8 (.mov (.t 18)))])))))) (.seq (.seq (.reg false [] [(rO 9 (.mov (.c (.int .i64 0))))]) (.block 2 (.loop (.seq (.seq (.reg false [] [(rO 23 (.mov (.t 9))), (rO 24 (.faddr 1 (.t 3))), (rO 25 (.load none (.t 24))), (rO 26 (.cmp .lss (.t 23) (.t 25)))]) (.cond (.t 26) .skip (.exit 2))) (.seq (.block 3 (.seq (.reg true [34, 36, 38, 41, 11] [(rO 29 (.faddr 0 (.t 3))), ⟨(some 30), 31, (.load none (.t 29)), none, [34, 36, 38, 41, 11], none⟩, ⟨(some 31), 32, (.load (some 224) (.t 3)), none, [34, 36, 38, 41, 11], none⟩, (rO 32 (.mov (.t 9))), ⟨(some 33), 34, (.call N.spec_l01Basis [(.t 32)]), none, [36, 38, 41, 11], none⟩, (rO 34 (.mov (.t 1))), ⟨(some 35), 36, (.call N.spec_l05Power [(.t 31), (.t 33), (.t 34)]), none, [38, 41, 11], none⟩, (rO 36 (.mov (.t 9))), ⟨(some 37), 38, (.call N.spec_l01Basis [(.t 36)]), none, [41, 11], none⟩, (rO 38 (.mov (.t 2))), (rO 39 (.neg (.t 38))), ⟨(some 40), 41, (.call N.spec_l01Add [(.t 30), (.t 35), (.t 37), (.t 39)]), none, [11], none⟩, (rO 10 (.alloc [(.int .u8 0), (.int .u8 0), (.int .u8 0), (.int .u8 0), (.int .u8 0), (.int .u8 0)])), ⟨none, 81, (.store (some 6) (.t 10) (.t 40)), none, [], (some [11])⟩]) (.seq (.reg false [] [(rO 11 (.mov (.c (.int .i64 0))))]) (.block 4 (.loop (.seq (.seq (.reg false [] [(rO 41 (.mov (.t 11))), (rO 42 (.faddr 1 (.t 3))), (rO 43 (.load none (.t 42))), (rO 44 (.cmp .lss (.t 41) (.t 43)))]) (.cond (.t 44) .skip (.exit 4))) (.seq (.block 5 (.ga (.put [8]) (.reg true [53, 58, 59] [(rO 47 (.mov (.t 7))), (rO 48 (.mov (.t 11))), (rO 49 (.mov (.t 7))), (rO 50 (.mov (.t 11))), ⟨(some 51), 52, (.iaddrS 1 (.t 49) (.t 50)), none, [53, 58, 59], none⟩, ⟨(some 52), 53, (.loadS (.t 51)), none, [58, 59], (some [8, 53])⟩, (rO 53 (.mov (.t 11))), (rO 54 (.iaddrA 6 1 (.t 10) (.t 53))), ⟨(some 55), 56, (.load none (.t 54)), none, [8, 53, 58, 59], none⟩, (rO 56 (.conv .i64 (.t 55))), (rO 57 (.bslice 1 [(.t 56)])), (rO 58 (.app 1 8 (.t 52) (.t 57))), (rO 59 (.iaddrS 1 (.t 47) (.t 48))), ⟨none, 81, (.store none (.t 59) (.t 58)), none, [], none⟩]))) (.reg false [] [(rO 45 (.mov (.t 11))), (rO 46 (.arith .add (.t 45) (.c (.int .i64 1)))), (rO 11 (.mov (.t 46)))])))))))) (.reg false [] [(rO 27 (.mov (.t 9))), (rO 28 (.arith .add (.t 27) (.c (.int .i64 1)))), (rO 9 (.mov (.t 28)))])))))) (.seq (.gh (.frz [8]) (.reg false [66, 67] [(rO 60 (.faddr 0 (.t 3))), (rO 61 (.load none (.t 60))), (rO 62 (.faddr 1 (.t 3))), (rO 63 (.load none (.t 62))), (rO 64 (.mov (.t 7))), (rO 65 (.call N.spec_l01Kernel [(.t 61), (.t 63), (.t 64)])), (rO 66 (.call N.spec_l01Vectors [(.t 65)])), (rO 6 (.mov (.t 66)))])) .ret)))))⟩
def ir_spec_l05Before (N : FN) : CF := ⟨2, 24, [(.tmp 4)], (.seq (.reg false [3, 4] [(rO 2 (.box (.t 0))), (rO 3 (.box (.t 1))), (rO 4 (.mov (.c (.bool false))))]) (.seq (.seq (.reg false [] [(rO 5 (.mov (.c (.int .i64 0))))]) (.block 0 (.loop (.seq (.seq (.reg false [] [(rO 6 (.mov (.t 5))), (rO 7 (.cmp .lss (.t 6) (.c (.int .i64 6))))]) (.cond (.t 7) .skip (.exit 0))) (.seq (.block 1 (.seq (.reg true [] [(rO 10 (.mov (.t 5))), (rO 11 (.iaddrA 6 1 (.t 2) (.t 10))), (rO 12 (.load none (.t 11))), (rO 13 (.mov (.t 5))), (rO 14 (.iaddrA 6 1 (.t 3) (.t 13))), (rO 15 (.load none (.t 14))), (rO 16 (.cmp .neq (.t 12) (.t 15)))]) (.cond (.t 16) (.seq (.reg true [] [(rO 17 (.mov (.t 5))), (rO 18 (.iaddrA 6 1 (.t 2) (.t 17))), (rO 19 (.load none (.t 18))), (rO 20 (.mov (.t 5))), (rO 21 (.iaddrA 6 1 (.t 3) (.t 20))), (rO 22 (.load none (.t 21))), (rO 23 (.cmp .lss (.t 19) (.t 22))), (rO 4 (.mov (.t 23)))]) .ret) .skip))) (.reg false [] [(rO 8 (.mov (.t 5))), (rO 9 (.arith .add (.t 8) (.c (.int .i64 1)))), (rO 5 (.mov (.t 9)))])))))) (.seq (.reg false [] [(rO 4 (.mov (.c (.bool false))))]) .ret)))⟩
def ir_spec_l05Primitive (N : FN) : CF := ⟨1, 130, [(.tmp 2)], (.seq (.reg false [2] [(rO 1 (.box (.t 0))), (rO 2 (.mov (.c .emp)))]) (.seq (.reg false [19, 4] [(rO 17 (.load (some 224) (.t 1))), (rO 18 (.call N.spec_l01Unit [(.t 17)])), (rO 3 (.alloc [(.int .u8 0), (.int .u8 0), (.int .u8 0), (.int .u8 0), (.int .u8 0), (.int .u8 0)])), ⟨none, 134, (.store (some 6) (.t 3) (.t 18)), none, [], none⟩]) (.seq (.ga (.dead [20]) (.ga (.ren [4]) (.reg true [21, 25] [⟨(some 19), 20, (.load (some 6) (.t 3)), none, [21, 25], none⟩, (rO 20 (.bslice 6 [(.t 19)])), ⟨(some 21), 22, (.load (some 224) (.t 1)), none, [21, 25], none⟩, (rO 22 (.faddr 0 (.t 1))), ⟨(some 23), 24, (.load none (.t 22)), none, [21, 25], none⟩, ⟨(some 24), 25, (.call N.spec_l05Space [(.t 21), (.t 23), (.c (.int .i64 1))]), none, [21], none⟩, (rO 4 (.mov (.t 20))), (rO 5 (.mov (.t 24)))]))) (.seq (.seq (.reg false [] [(rO 6 (.mov (.c (.int .i64 0))))]) (.block 0 (.loop (.seq (.seq (.reg false [] [(rO 25 (.mov (.t 6))), (rO 26 (.mov (.t 5))), (rO 27 (.len (.t 26))), (rO 28 (.cmp .lss (.t 25) (.t 27)))]) (.cond (.t 28) .skip (.exit 0))) (.seq (.block 1 (.seq (.ga (.dead [31]) (.ga (.ren [7]) (.reg false [32] [(rO 31 (.bslice 6 [])), (rO 7 (.mov (.t 31)))]))) (.seq (.seq (.reg false [] [(rO 8 (.mov (.c (.int .i64 0))))]) (.block 2 (.loop (.seq (.seq (.reg false [] [(rO 32 (.mov (.t 8))), (rO 33 (.mov (.t 4))), (rO 34 (.len (.t 33))), (rO 35 (.cmp .lss (.t 32) (.t 34)))]) (.cond (.t 35) .skip (.exit 2))) (.seq (.block 3 (.seq (.reg false [] [(rO 9 (.mov (.c (.int .i64 0))))]) (.block 4 (.loop (.seq (.seq (.reg false [] [(rO 38 (.mov (.t 9))), (rO 39 (.faddr 0 (.t 1))), (rO 40 (.load none (.t 39))), (rO 41 (.cmp .lss (.t 38) (.t 40)))]) (.cond (.t 41) .skip (.exit 4))) (.seq (.block 5 (.seq (.reg false [11] [(rO 44 (.mov (.t 4))), (rO 45 (.mov (.t 8))), (rO 46 (.iaddrS 6 (.t 44) (.t 45))), (rO 47 (.load (some 6) (.t 46))), (rO 10 (.alloc [(.int .u8 0), (.int .u8 0), (.int .u8 0), (.int .u8 0), (.int .u8 0), (.int .u8 0)])), ⟨none, 136, (.store (some 6) (.t 10) (.t 47)), none, [], none⟩]) (.seq (.seq (.reg false [] [(rO 11 (.mov (.c (.int .i64 0))))]) (.block 6 (.loop (.seq (.seq (.reg false [] [(rO 48 (.mov (.t 11))), (rO 49 (.faddr 0 (.t 1))), (rO 50 (.load none (.t 49))), (rO 51 (.cmp .lss (.t 48) (.t 50)))]) (.cond (.t 51) .skip (.exit 6))) (.seq (.block 7 (.seq (.reg false [] [(rO 54 (.mov (.t 11))), (rO 55 (.mov (.t 9))), (rO 56 (.cmp .neq (.t 54) (.t 55)))]) (.cond (.t 56) (.seq (.reg true [67, 13] [(rO 57 (.faddr 0 (.t 1))), ⟨(some 58), 59, (.load none (.t 57)), none, [67, 13], none⟩, (rO 59 (.mov (.t 5))), (rO 60 (.mov (.t 6))), ⟨(some 61), 62, (.iaddrS 6 (.t 59) (.t 60)), none, [67, 13], none⟩, ⟨(some 62), 63, (.load (some 6) (.t 61)), none, [67, 13], none⟩, ⟨(some 63), 64, (.load (some 6) (.t 3)), none, [67, 13], none⟩, (rO 64 (.mov (.t 11))), (rO 65 (.neg (.t 64))), ⟨(some 66), 67, (.call N.spec_l01Add [(.t 58), (.t 62), (.t 63), (.t 65)]), none, [13], none⟩, (rO 12 (.alloc [(.int .u8 0), (.int .u8 0), (.int .u8 0), (.int .u8 0), (.int .u8 0), (.int .u8 0)])), ⟨none, 142, (.store (some 6) (.t 12) (.t 66)), none, [], (some [13])⟩]) (.reg true [79, 80, 81] [⟨(some 67), 68, (.load (some 224) (.t 1)), none, [79, 80, 81], none⟩, ⟨(some 68), 69, (.load (some 6) (.t 10)), none, [79, 80, 81], none⟩, (rO 69 (.faddr 0 (.t 1))), ⟨(some 70), 71, (.load none (.t 69)), none, [79, 80, 81], none⟩, (rO 71 (.build [(.int .u8 0), (.int .u8 0), (.int .u8 0), (.int .u8 0), (.int .u8 0), (.int .u8 0)] [])), ⟨(some 72), 73, (.load (some 6) (.t 12)), none, [79, 80, 81], none⟩, (rO 73 (.faddr 0 (.t 1))), ⟨(some 74), 75, (.load none (.t 73)), none, [79, 80, 81], none⟩, (rO 75 (.mov (.t 9))), (rO 76 (.mov (.t 11))), (rO 77 (.arith .sub (.t 75) (.t 76))), ⟨(some 78), 79, (.call N.spec_l01Inverse [(.t 74), (.t 77)]), none, [80, 81], none⟩, ⟨(some 79), 80, (.call N.spec_l01Add [(.t 70), (.t 71), (.t 72), (.t 78)]), none, [81], none⟩, (rO 80 (.call N.spec_l01Times [(.t 67), (.t 68), (.t 79)])), ⟨none, 145, (.store (some 6) (.t 10) (.t 80)), none, [], none⟩])) .skip))) (.reg false [] [(rO 52 (.mov (.t 11))), (rO 53 (.arith .add (.t 52) (.c (.int .i64 1)))), (rO 11 (.mov (.t 53)))])))))) (.seq (.reg false [] [(rO 81 (.load (some 6) (.t 10))), (rO 82 (.build [(.int .u8 0), (.int .u8 0), (.int .u8 0), (.int .u8 0), (.int .u8 0), (.int .u8 0)] [])), (rO 83 (.eqa true [(.int .u8), (.int .u8), (.int .u8), (.int .u8), (.int .u8), (.int .u8)] (.t 81) (.t 82)))]) (.cond (.t 83) (.ga (.dead [87]) (.ga (.ren [7]) (.reg false [87, 88] [(rO 84 (.mov (.t 7))), (rO 85 (.load (some 6) (.t 10))), (rO 86 (.bslice 6 [(.t 85)])), (rO 87 (.app 6 6 (.t 84) (.t 86))), (rO 7 (.mov (.t 87)))]))) .skip))))) (.reg false [] [(rO 42 (.mov (.t 9))), (rO 43 (.arith .add (.t 42) (.c (.int .i64 1)))), (rO 9 (.mov (.t 43)))]))))))) (.reg false [] [(rO 36 (.mov (.t 8))), (rO 37 (.arith .add (.t 36) (.c (.int .i64 1)))), (rO 8 (.mov (.t 37)))])))))) (.ga (.ren [4]) (.reg false [] [(rO 88 (.mov (.t 7))), (rO 4 (.mov (.t 88)))]))))) (.reg false [] [(rO 29 (.mov (.t 6))), (rO 30 (.arith .add (.t 29) (.c (.int .i64 1)))), (rO 6 (.mov (.t 30)))])))))) (.seq (.ga (.dead [89]) (.ga (.ren [13]) (.reg false [90] [(rO 89 (.bslice 6 [])), (rO 13 (.mov (.t 89)))]))) (.seq (.seq (.reg false [] [(rO 14 (.mov (.c (.int .i64 0))))]) (.block 8 (.loop (.seq (.seq (.reg false [] [(rO 90 (.mov (.t 14))), (rO 91 (.mov (.t 4))), (rO 92 (.len (.t 91))), (rO 93 (.cmp .lss (.t 90) (.t 92)))]) (.cond (.t 93) .skip (.exit 8))) (.seq (.block 9 (.seq (.reg false [] [(rO 15 (.mov (.c (.int .i64 0))))]) (.seq (.block 10 (.loop (.seq (.seq (.reg true [110] [(rO 96 (.mov (.t 15))), (rO 97 (.mov (.t 13))), ⟨(some 98), 99, (.len (.t 97)), none, [110], none⟩, (rO 99 (.cmp .lss (.t 96) (.t 98))), (rO 100 (.mov (.t 99))), ⟨(some 101), 102, (.mov (.t 13)), (some (100, true)), [], none⟩, ⟨(some 102), 103, (.mov (.t 15)), (some (100, true)), [], none⟩, ⟨(some 103), 104, (.iaddrS 6 (.t 101) (.t 102)), (some (100, true)), [110], none⟩, ⟨(some 104), 105, (.load (some 6) (.t 103)), (some (100, true)), [110], none⟩, ⟨(some 105), 106, (.mov (.t 4)), (some (100, true)), [], none⟩, ⟨(some 106), 107, (.mov (.t 14)), (some (100, true)), [], none⟩, ⟨(some 107), 108, (.iaddrS 6 (.t 105) (.t 106)), (some (100, true)), [110], none⟩, ⟨(some 108), 109, (.load (some 6) (.t 107)), (some (100, true)), [110], none⟩, ⟨(some 109), 110, (.call N.spec_l05Before [(.t 104), (.t 108)]), (some (100, true)), [], none⟩, (rO 110 (.pick (.t 100) (.t 109) (.c (.bool false))))]) (.cond (.t 110) .skip (.exit 10))) (.block 11 (.reg false [] [(rO 111 (.mov (.t 15))), (rO 112 (.arith .add (.t 111) (.c (.int .i64 1)))), (rO 15 (.mov (.t 112)))]))))) (.seq (.ga (.dead [121]) (.ga (.ren [16]) (.reg true [118, 122] [(rO 113 (.mov (.t 4))), (rO 114 (.mov (.t 14))), ⟨(some 115), 116, (.iaddrS 6 (.t 113) (.t 114)), none, [118, 122], none⟩, ⟨(some 116), 117, (.load (some 6) (.t 115)), none, [118, 122], none⟩, (rO 117 (.bslice 6 [(.t 116)])), (rO 118 (.mov (.t 13))), (rO 119 (.mov (.t 15))), ⟨(some 120), 121, (.slc 6 (.t 118) (some (.t 119)) none), none, [118, 122], none⟩, (rO 121 (.app 6 6 (.t 117) (.t 120))), (rO 16 (.mov (.t 121)))]))) (.ga (.dead [128]) (.ga (.ren [13]) (.reg false [123, 127, 129] [(rO 122 (.bslice 6 [])), (rO 123 (.mov (.t 13))), (rO 124 (.mov (.t 15))), (rO 125 (.slc 6 (.t 123) none (some (.t 124)))), (rO 126 (.app 6 6 (.t 122) (.t 125))), (rO 127 (.mov (.t 16))), (rO 128 (.app 6 6 (.t 126) (.t 127))), (rO 13 (.mov (.t 128)))]))))))) (.reg false [] [(rO 94 (.mov (.t 14))), (rO 95 (.arith .add (.t 94) (.c (.int .i64 1)))), (rO 14 (.mov (.t 95)))])))))) (.seq (.reg false [] [(rO 129 (.mov (.t 13))), (rO 2 (.mov (.t 129)))]) .ret)))))))⟩
def ir_impl_Algebra_primitives_1 (N : FN) : CF := ⟨2, 15, [(.cell 3 (some 6))], (.seq (.reg false [3, 4] [(rO 2 (.box (.t 0))), (rO 3 (.alloc [(.int .u8 0), (.int .u8 0), (.int .u8 0), (.int .u8 0), (.int .u8 0), (.int .u8 0)]))]) (.seq (.reg true [8, 15] [⟨(some 4), 5, (.load none (.t 1)), none, [8, 15], none⟩, ⟨(some 5), 6, (.load none (.t 1)), none, [8, 15], none⟩, ⟨(some 6), 7, (.load (some 6) (.t 2)), none, [8, 15], none⟩, ⟨(some 7), 8, (.call N.impl_Algebra_frobeniusPower [(.t 5), (.t 6), (.c (.int .i64 1))]), none, [15], none⟩, ⟨(some 8), 9, (.load (some 6) (.t 2)), none, [8, 15], none⟩, ⟨(some 9), 10, (.load none (.t 1)), none, [8, 15], none⟩, (rO 10 (.nilchk (.t 9))), (rO 11 (.faddr 0 (.t 10))), ⟨(some 12), 13, (.load none (.t 11)), none, [8, 15], none⟩, (rO 13 (.arith .sub (.t 12) (.c (.int .i64 1)))), (rO 14 (.call N.impl_Algebra_add [(.t 4), (.t 7), (.t 8), (.t 13)])), ⟨none, 27, (.store (some 6) (.t 3) (.t 14)), none, [], none⟩]) .ret))⟩
def ir_impl_Algebra_shares (N : FN) : CF := ⟨3, 71, [(.tmp 6)], (.seq (.reg false [5, 6] [(rO 4 (.box (.t 1))), (rO 5 (.box (.t 2))), (rO 6 (.mov (.c .emp)))]) (.seq (.ga (.dead [11]) (.ga (.ren [7]) (.reg false [12] [(rO 11 (.bslice 6 [])), (rO 7 (.mov (.t 11)))]))) (.seq (.seq (.reg false [] [(rO 12 (.mov (.t 0))), (rO 13 (.nilchk (.t 12))), (rO 14 (.faddr 0 (.t 13))), (rO 15 (.load none (.t 14))), (rO 16 (.mov (.c (.int .i64 0))))]) (.block 0 (.loop (.seq (.reg false [] [(rO 17 (.cmp .lss (.t 16) (.t 15)))]) (.seq (.cond (.t 17) .skip (.exit 0)) (.seq (.block 1 (.seq (.reg false [] [(rO 18 (.mov (.t 16))), (rO 8 (.mov (.t 18)))]) (.seq (.reg false [10] [(rO 19 (.load (some 6) (.t 4))), (rO 9 (.alloc [(.int .u8 0), (.int .u8 0), (.int .u8 0), (.int .u8 0), (.int .u8 0), (.int .u8 0)])), ⟨none, 74, (.store (some 6) (.t 9) (.t 19)), none, [], none⟩]) (.seq (.seq (.reg false [] [(rO 20 (.mov (.t 0))), (rO 21 (.nilchk (.t 20))), (rO 22 (.faddr 0 (.t 21))), (rO 23 (.load none (.t 22))), (rO 24 (.mov (.c (.int .i64 0))))]) (.block 2 (.loop (.seq (.reg false [] [(rO 25 (.cmp .lss (.t 24) (.t 23)))]) (.seq (.cond (.t 25) .skip (.exit 2)) (.seq (.block 3 (.seq (.reg false [] [(rO 26 (.mov (.t 24))), (rO 10 (.mov (.t 26)))]) (.seq (.reg false [] [(rO 27 (.mov (.t 10))), (rO 28 (.mov (.t 8))), (rO 29 (.cmp .neq (.t 27) (.t 28)))]) (.cond (.t 29) (.seq (.reg true [36, 43, 44] [(rO 30 (.mov (.t 0))), ⟨(some 31), 32, (.load (some 6) (.t 9)), none, [36, 43, 44], none⟩, (rO 32 (.mov (.t 0))), ⟨(some 33), 34, (.load (some 6) (.t 5)), none, [36, 43, 44], none⟩, (rO 34 (.mov (.t 0))), ⟨(some 35), 36, (.call N.impl_Algebra_unit [(.t 34)]), none, [43, 44], none⟩, (rO 36 (.mov (.t 0))), (rO 37 (.nilchk (.t 36))), (rO 38 (.faddr 0 (.t 37))), ⟨(some 39), 40, (.load none (.t 38)), none, [36, 43, 44], none⟩, (rO 40 (.mov (.t 10))), (rO 41 (.arith .sub (.t 39) (.t 40))), ⟨(some 42), 43, (.call N.impl_Algebra_add [(.t 32), (.t 33), (.t 35), (.t 41)]), none, [44], none⟩, (rO 43 (.call N.impl_Algebra_times [(.t 30), (.t 31), (.t 42)])), ⟨none, 86, (.store (some 6) (.t 9) (.t 43)), none, [], none⟩]) (.reg true [55, 60, 61] [(rO 44 (.mov (.t 0))), (rO 45 (.build [(.int .u8 0), (.int .u8 0), (.int .u8 0), (.int .u8 0), (.int .u8 0), (.int .u8 0)] [])), ⟨(some 46), 47, (.load (some 6) (.t 9)), none, [55, 60, 61], none⟩, (rO 47 (.mov (.t 8))), (rO 48 (.mov (.t 10))), (rO 49 (.arith .sub (.t 47) (.t 48))), (rO 50 (.mov (.t 0))), (rO 51 (.nilchk (.t 50))), (rO 52 (.faddr 0 (.t 51))), ⟨(some 53), 54, (.load none (.t 52)), none, [55, 60, 61], none⟩, ⟨(some 54), 55, (.call N.impl_rest [(.t 49), (.t 53)]), none, [60, 61], none⟩, (rO 55 (.mov (.t 0))), (rO 56 (.nilchk (.t 55))), (rO 57 (.faddr 0 (.t 56))), ⟨(some 58), 59, (.load none (.t 57)), none, [55, 60, 61], none⟩, ⟨(some 59), 60, (.call N.impl_inverse [(.t 54), (.t 58)]), none, [61], none⟩, (rO 60 (.call N.impl_Algebra_add [(.t 44), (.t 45), (.t 46), (.t 59)])), ⟨none, 89, (.store (some 6) (.t 9) (.t 60)), none, [], none⟩])) .skip)))) (.reg false [] [(rO 61 (.arith .add (.t 24) (.c (.int .i64 1)))), (rO 24 (.mov (.t 61)))]))))))) (.seq (.reg false [] [(rO 62 (.load (some 6) (.t 9))), (rO 63 (.build [(.int .u8 0), (.int .u8 0), (.int .u8 0), (.int .u8 0), (.int .u8 0), (.int .u8 0)] [])), (rO 64 (.eqa true [(.int .u8), (.int .u8), (.int .u8), (.int .u8), (.int .u8), (.int .u8)] (.t 62) (.t 63)))]) (.cond (.t 64) (.ga (.dead [68]) (.ga (.ren [7]) (.reg false [68, 69] [(rO 65 (.mov (.t 7))), (rO 66 (.load (some 6) (.t 9))), (rO 67 (.bslice 6 [(.t 66)])), (rO 68 (.app 6 6 (.t 65) (.t 67))), (rO 7 (.mov (.t 68)))]))) .skip)))))) (.reg false [] [(rO 69 (.arith .add (.t 16) (.c (.int .i64 1)))), (rO 16 (.mov (.t 69)))]))))))) (.seq (.reg false [] [(rO 70 (.mov (.t 7))), (rO 6 (.mov (.t 70)))]) .ret))))⟩
def ir_impl_Algebra_primitives (N : FN) : CF := ⟨1, 50, [(.tmp 2)], (.seq (.reg false [2] [(rO 1 (.box (.t 0))), (rO 2 (.mov (.c .emp)))]) (.seq (.ga (.dead [12]) (.ga (.ren [3]) (.reg false [12, 13] [(rO 10 (.load none (.t 1))), (rO 11 (.call N.impl_Algebra_unit [(.t 10)])), (rO 12 (.bslice 6 [(.t 11)])), (rO 3 (.mov (.t 12)))]))) (.seq (.gh (.frz [2]) (.reg false [16, 17] [(rO 13 (.load none (.t 1))), (rO 14 (.mkfn N.impl_Algebra_primitives_1 [] [(.t 1)])), (rO 15 (.bslice 1 [(.t 14)])), (rO 16 (.call N.impl_Algebra_equations [(.t 13), (.t 15)])), (rO 4 (.mov (.t 16)))])) (.seq (.seq (.gh (.frz [17]) (.reg true [20, 25, 26] [(rO 17 (.mov (.t 4))), ⟨(some 18), 19, (.load none (.t 1)), none, [20, 25, 26], none⟩, ⟨(some 19), 20, (.call N.impl_Algebra_n [(.t 18)]), none, [25, 26], none⟩, ⟨(some 20), 21, (.load none (.t 1)), none, [20, 25, 26], none⟩, (rO 21 (.nilchk (.t 20))), (rO 22 (.faddr 0 (.t 21))), ⟨(some 23), 24, (.load none (.t 22)), none, [20, 25, 26], none⟩, ⟨(some 24), 25, (.call N.impl_kernel [(.t 17), (.t 19), (.t 23)]), none, [26], none⟩, (rO 25 (.call N.impl_vectors [(.t 24)])), (rO 26 (.len (.t 25))), (rO 27 (.mov (.c (.int .i64 0))))])) (.block 0 (.loop (.seq (.reg false [] [(rO 28 (.cmp .lss (.t 27) (.t 26)))]) (.seq (.cond (.t 28) .skip (.exit 0)) (.seq (.block 1 (.seq (.reg false [7] [(rO 29 (.iaddrS 6 (.t 25) (.t 27))), (rO 30 (.load (some 6) (.t 29))), (rO 6 (.alloc [(.int .u8 0), (.int .u8 0), (.int .u8 0), (.int .u8 0), (.int .u8 0), (.int .u8 0)])), ⟨none, 54, (.store (some 6) (.t 6) (.t 30)), none, [], none⟩]) (.seq (.ga (.dead [31]) (.ga (.ren [7]) (.reg false [32] [(rO 31 (.bslice 6 [])), (rO 7 (.mov (.t 31)))]))) (.seq (.seq (.reg false [] [(rO 32 (.mov (.t 3))), (rO 33 (.len (.t 32))), (rO 34 (.mov (.c (.int .i64 0))))]) (.block 2 (.loop (.seq (.reg false [] [(rO 35 (.cmp .lss (.t 34) (.t 33)))]) (.seq (.cond (.t 35) .skip (.exit 2)) (.seq (.block 3 (.seq (.reg false [10] [(rO 36 (.iaddrS 6 (.t 32) (.t 34))), (rO 37 (.load (some 6) (.t 36))), (rO 9 (.alloc [(.int .u8 0), (.int .u8 0), (.int .u8 0), (.int .u8 0), (.int .u8 0), (.int .u8 0)])), ⟨none, 54, (.store (some 6) (.t 9) (.t 37)), none, [], none⟩]) (.ga (.dead [43]) (.ga (.ren [7]) (.reg false [43, 44] [(rO 38 (.mov (.t 7))), (rO 39 (.load none (.t 1))), (rO 40 (.load (some 6) (.t 9))), (rO 41 (.load (some 6) (.t 6))), (rO 42 (.call N.impl_Algebra_shares [(.t 39), (.t 40), (.t 41)])), (rO 43 (.app 6 6 (.t 38) (.t 42))), (rO 7 (.mov (.t 43)))]))))) (.reg false [] [(rO 44 (.arith .add (.t 34) (.c (.int .i64 1)))), (rO 34 (.mov (.t 44)))]))))))) (.ga (.ren [3]) (.reg false [] [(rO 45 (.mov (.t 7))), (rO 3 (.mov (.t 45)))])))))) (.reg false [] [(rO 46 (.arith .add (.t 27) (.c (.int .i64 1)))), (rO 27 (.mov (.t 46)))]))))))) (.seq (.reg false [49] [(rO 47 (.mov (.t 3))), (rO 48 (.callM N.slices_SortFunc_Limpl_Vector_impl_Vector (.t 47) [(.f N.impl_Algebra_primitives_2)]))]) (.seq (.reg false [] [(rO 49 (.mov (.t 3))), (rO 2 (.mov (.t 49)))]) .ret))))))⟩
def ir_impl_Algebra_primitives_2 (N : FN) : CF := ⟨2, 8, [(.tmp 4)], (.seq (.reg false [3, 4] [(rO 2 (.box (.t 0))), (rO 3 (.box (.t 1))), (rO 4 (.mov (.c (.int .i64 0))))]) (.seq (.gh (.frz [3, 4]) (.reg true [8] [(rO 5 (.slcA 6 1 (.t 2) none none)), (rO 6 (.slcA 6 1 (.t 3) none none)), (rO 7 (.call N.bytes_Compare [(.t 5), (.t 6)])), (rO 4 (.mov (.t 7)))])) .ret))⟩
def ir_bytes_Compare (N : FN) : CF := ⟨2, 8, [(.tmp 4)], (.seq (.reg false [] [(rO 4 (.mov (.c (.int .i64 0))))]) (.seq (.reg false [8] [(rO 5 (.mov (.t 0))), (rO 6 (.mov (.t 1))), (rO 7 (.call N.internal_bytealg_Compare [(.t 5), (.t 6)])), (rO 4 (.mov (.t 7)))]) .ret))⟩
def ir_slices_SortFunc_Limpl_Vector_impl_Vector (N : FN) : CF := ⟨2, 14, [], (.seq (.reg false [] [(rO 5 (.mov (.t 0))), (rO 6 (.len (.t 5))), (rO 4 (.mov (.t 6)))]) (.reg false [12, 14] [(rO 7 (.mov (.t 0))), (rO 8 (.mov (.t 4))), (rO 9 (.mov (.t 4))), (rO 10 (.conv .u64 (.t 9))), (rO 11 (.call N.math_bits_Len [(.t 10)])), (rO 12 (.mov (.t 1))), (rO 13 (.callM N.slices_pdqsortCmpFunc_impl_Vector (.t 7) [(.c (.int .i64 0)), (.t 8), (.t 11), (.t 12)]))]))⟩
def ir_slices_pdqsortCmpFunc_impl_Vector (N : FN) : CF := ⟨5, 148, [], (.seq (.reg false [] [(rO 10 (.mov (.c (.bool true))))]) (.seq (.reg false [] [(rO 11 (.mov (.c (.bool true))))]) (.block 0 (.loop (.block 1 (.seq (.reg false [] [(rO 21 (.mov (.t 2))), (rO 22 (.mov (.t 1))), (rO 23 (.arith .sub (.t 21) (.t 22))), (rO 12 (.mov (.t 23)))]) (.seq (.seq (.reg false [] [(rO 24 (.mov (.t 12))), (rO 25 (.cmp .leq (.t 24) (.c (.int .i64 12))))]) (.cond (.t 25) (.seq (.reg false [31] [(rO 26 (.mov (.t 0))), (rO 27 (.mov (.t 1))), (rO 28 (.mov (.t 2))), (rO 29 (.mov (.t 4))), (rO 30 (.callM N.slices_insertionSortCmpFunc_impl_Vector (.t 26) [(.t 27), (.t 28), (.t 29)]))]) .ret) .skip)) (.seq (.seq (.reg false [] [(rO 31 (.mov (.t 3))), (rO 32 (.cmp .eql (.t 31) (.c (.int .i64 0))))]) (.cond (.t 32) (.seq (.reg false [38] [(rO 33 (.mov (.t 0))), (rO 34 (.mov (.t 1))), (rO 35 (.mov (.t 2))), (rO 36 (.mov (.t 4))), (rO 37 (.call N.slices_heapSortCmpFunc_impl_Vector [(.t 33), (.t 34), (.t 35), (.t 36)]))]) .ret) .skip)) (.seq (.seq (.reg false [] [(rO 38 (.mov (.t 10))), (rO 39 (.not (.t 38)))]) (.cond (.t 39) (.seq (.reg false [45] [(rO 40 (.mov (.t 0))), (rO 41 (.mov (.t 1))), (rO 42 (.mov (.t 2))), (rO 43 (.mov (.t 4))), (rO 44 (.call N.slices_breakPatternsCmpFunc_impl_Vector [(.t 40), (.t 41), (.t 42), (.t 43)]))]) (.reg false [] [(rO 45 (.mov (.t 3))), (rO 46 (.arith .sub (.t 45) (.c (.int .i64 1)))), (rO 3 (.mov (.t 46)))])) .skip)) (.seq (.reg false [53] [(rO 48 (.mov (.t 0))), (rO 49 (.mov (.t 1))), (rO 50 (.mov (.t 2))), (rO 51 (.mov (.t 4))), (rO 52 (.call N.slices_choosePivotCmpFunc_impl_Vector [(.t 48), (.t 49), (.t 50), (.t 51)])), (rO 47 (.mov (.t 52))), (rO 53 (.extract (.t 47) 0)), (rO 54 (.extract (.t 47) 1)), (rO 13 (.mov (.t 53))), (rO 14 (.mov (.t 54)))]) (.seq (.seq (.reg false [] [(rO 55 (.mov (.t 14))), (rO 56 (.cmp .eql (.t 55) (.c (.int .i64 2))))]) (.cond (.t 56) (.seq (.reg false [62] [(rO 57 (.mov (.t 0))), (rO 58 (.mov (.t 1))), (rO 59 (.mov (.t 2))), (rO 60 (.mov (.t 4))), (rO 61 (.call N.slices_reverseRangeCmpFunc_impl_Vector [(.t 57), (.t 58), (.t 59), (.t 60)]))]) (.seq (.reg false [] [(rO 62 (.mov (.t 2))), (rO 63 (.arith .sub (.t 62) (.c (.int .i64 1)))), (rO 64 (.mov (.t 13))), (rO 65 (.mov (.t 1))), (rO 66 (.arith .sub (.t 64) (.t 65))), (rO 67 (.arith .sub (.t 63) (.t 66))), (rO 13 (.mov (.t 67)))]) (.reg false [] [(rO 14 (.mov (.c (.int .i64 1))))]))) .skip)) (.seq (.seq (.reg false [] [(rO 68 (.mov (.t 10))), (rO 69 (.mov (.t 68))), ⟨(some 70), 71, (.mov (.t 11)), (some (69, true)), [], none⟩, (rO 71 (.pick (.t 69) (.t 70) (.c (.bool false)))), (rO 72 (.mov (.t 71))), ⟨(some 73), 74, (.mov (.t 14)), (some (72, true)), [], none⟩, ⟨(some 74), 75, (.cmp .eql (.t 73) (.c (.int .i64 1))), (some (72, true)), [], none⟩, (rO 75 (.pick (.t 72) (.t 74) (.c (.bool false))))]) (.cond (.t 75) (.seq (.reg false [81] [(rO 76 (.mov (.t 0))), (rO 77 (.mov (.t 1))), (rO 78 (.mov (.t 2))), (rO 79 (.mov (.t 4))), (rO 80 (.call N.slices_partialInsertionSortCmpFunc_impl_Vector [(.t 76), (.t 77), (.t 78), (.t 79)]))]) (.cond (.t 80) .ret .skip)) .skip)) (.seq (.seq (.reg true [95] [(rO 81 (.mov (.t 1))), (rO 82 (.cmp .gtr (.t 81) (.c (.int .i64 0)))), (rO 83 (.mov (.t 82))), ⟨(some 84), 85, (.mov (.t 4)), (some (83, true)), [], none⟩, ⟨(some 85), 86, (.mov (.t 0)), (some (83, true)), [], none⟩, ⟨(some 86), 87, (.mov (.t 1)), (some (83, true)), [], none⟩, ⟨(some 87), 88, (.arith .sub (.t 86) (.c (.int .i64 1))), (some (83, true)), [], none⟩, ⟨(some 88), 89, (.iaddrS 6 (.t 85) (.t 87)), (some (83, true)), [95], none⟩, ⟨(some 89), 90, (.load (some 6) (.t 88)), (some (83, true)), [95], none⟩, ⟨(some 90), 91, (.mov (.t 0)), (some (83, true)), [], none⟩, ⟨(some 91), 92, (.mov (.t 13)), (some (83, true)), [], none⟩, ⟨(some 92), 93, (.iaddrS 6 (.t 90) (.t 91)), (some (83, true)), [95], none⟩, ⟨(some 93), 94, (.load (some 6) (.t 92)), (some (83, true)), [95], none⟩, ⟨(some 94), 95, (.callV (.t 84) [(.t 89), (.t 93)]), (some (83, true)), [], none⟩, ⟨(some 95), 96, (.cmp .lss (.t 94) (.c (.int .i64 0))), (some (83, true)), [], none⟩, ⟨(some 96), 97, (.not (.t 95)), (some (83, true)), [], none⟩, (rO 97 (.pick (.t 83) (.t 96) (.c (.bool false))))]) (.cond (.t 97) (.seq (.reg false [104] [(rO 98 (.mov (.t 0))), (rO 99 (.mov (.t 1))), (rO 100 (.mov (.t 2))), (rO 101 (.mov (.t 13))), (rO 102 (.mov (.t 4))), (rO 103 (.call N.slices_partitionEqualCmpFunc_impl_Vector [(.t 98), (.t 99), (.t 100), (.t 101), (.t 102)])), (rO 15 (.mov (.t 103)))]) (.seq (.reg false [] [(rO 104 (.mov (.t 15))), (rO 1 (.mov (.t 104)))]) (.exit 1))) .skip)) (.seq (.reg false [112] [(rO 106 (.mov (.t 0))), (rO 107 (.mov (.t 1))), (rO 108 (.mov (.t 2))), (rO 109 (.mov (.t 13))), (rO 110 (.mov (.t 4))), (rO 111 (.call N.slices_partitionCmpFunc_impl_Vector [(.t 106), (.t 107), (.t 108), (.t 109), (.t 110)])), (rO 105 (.mov (.t 111))), (rO 112 (.extract (.t 105) 0)), (rO 113 (.extract (.t 105) 1)), (rO 16 (.mov (.t 112))), (rO 17 (.mov (.t 113)))]) (.seq (.reg false [] [(rO 114 (.mov (.t 17))), (rO 11 (.mov (.t 114)))]) (.seq (.reg false [] [(rO 115 (.mov (.t 16))), (rO 116 (.mov (.t 1))), (rO 117 (.arith .sub (.t 115) (.t 116))), (rO 118 (.mov (.t 2))), (rO 119 (.mov (.t 16))), (rO 120 (.arith .sub (.t 118) (.t 119))), (rO 18 (.mov (.t 117))), (rO 19 (.mov (.t 120)))]) (.seq (.reg false [] [(rO 121 (.mov (.t 12))), (rO 122 (.arith .quo (.t 121) (.c (.int .i64 8)))), (rO 20 (.mov (.t 122)))]) (.seq (.reg false [] [(rO 123 (.mov (.t 18))), (rO 124 (.mov (.t 19))), (rO 125 (.cmp .lss (.t 123) (.t 124)))]) (.cond (.t 125) (.seq (.reg false [] [(rO 126 (.mov (.t 18))), (rO 127 (.mov (.t 20))), (rO 128 (.cmp .geq (.t 126) (.t 127))), (rO 10 (.mov (.t 128)))]) (.seq (.reg false [135] [(rO 129 (.mov (.t 0))), (rO 130 (.mov (.t 1))), (rO 131 (.mov (.t 16))), (rO 132 (.mov (.t 3))), (rO 133 (.mov (.t 4))), (rO 134 (.call N.slices_pdqsortCmpFunc_impl_Vector [(.t 129), (.t 130), (.t 131), (.t 132), (.t 133)]))]) (.reg false [] [(rO 135 (.mov (.t 16))), (rO 136 (.arith .add (.t 135) (.c (.int .i64 1)))), (rO 1 (.mov (.t 136)))]))) (.seq (.reg false [] [(rO 137 (.mov (.t 19))), (rO 138 (.mov (.t 20))), (rO 139 (.cmp .geq (.t 137) (.t 138))), (rO 10 (.mov (.t 139)))]) (.seq (.reg false [147] [(rO 140 (.mov (.t 0))), (rO 141 (.mov (.t 16))), (rO 142 (.arith .add (.t 141) (.c (.int .i64 1)))), (rO 143 (.mov (.t 2))), (rO 144 (.mov (.t 3))), (rO 145 (.mov (.t 4))), (rO 146 (.call N.slices_pdqsortCmpFunc_impl_Vector [(.t 140), (.t 142), (.t 143), (.t 144), (.t 145)]))]) (.reg false [] [(rO 147 (.mov (.t 16))), (rO 2 (.mov (.t 147)))]))))))))))))))))))))))⟩
def ir_slices_insertionSortCmpFunc_impl_Vector (N : FN) : CF := ⟨4, 53, [], (.seq (.reg false [] [(rO 10 (.mov (.t 1))), (rO 11 (.arith .add (.t 10) (.c (.int .i64 1)))), (rO 8 (.mov (.t 11)))]) (.block 0 (.loop (.seq (.seq (.reg false [] [(rO 12 (.mov (.t 8))), (rO 13 (.mov (.t 2))), (rO 14 (.cmp .lss (.t 12) (.t 13)))]) (.cond (.t 14) .skip (.exit 0))) (.seq (.block 1 (.seq (.reg false [] [(rO 17 (.mov (.t 8))), (rO 9 (.mov (.t 17)))]) (.block 2 (.loop (.seq (.seq (.reg true [33] [(rO 18 (.mov (.t 9))), (rO 19 (.mov (.t 1))), (rO 20 (.cmp .gtr (.t 18) (.t 19))), (rO 21 (.mov (.t 20))), ⟨(some 22), 23, (.mov (.t 3)), (some (21, true)), [], none⟩, ⟨(some 23), 24, (.mov (.t 0)), (some (21, true)), [], none⟩, ⟨(some 24), 25, (.mov (.t 9)), (some (21, true)), [], none⟩, ⟨(some 25), 26, (.iaddrS 6 (.t 23) (.t 24)), (some (21, true)), [33], none⟩, ⟨(some 26), 27, (.load (some 6) (.t 25)), (some (21, true)), [33], none⟩, ⟨(some 27), 28, (.mov (.t 0)), (some (21, true)), [], none⟩, ⟨(some 28), 29, (.mov (.t 9)), (some (21, true)), [], none⟩, ⟨(some 29), 30, (.arith .sub (.t 28) (.c (.int .i64 1))), (some (21, true)), [], none⟩, ⟨(some 30), 31, (.iaddrS 6 (.t 27) (.t 29)), (some (21, true)), [33], none⟩, ⟨(some 31), 32, (.load (some 6) (.t 30)), (some (21, true)), [33], none⟩, ⟨(some 32), 33, (.callV (.t 22) [(.t 26), (.t 31)]), (some (21, true)), [], none⟩, ⟨(some 33), 34, (.cmp .lss (.t 32) (.c (.int .i64 0))), (some (21, true)), [], none⟩, (rO 34 (.pick (.t 21) (.t 33) (.c (.bool false))))]) (.cond (.t 34) .skip (.exit 2))) (.seq (.block 3 (.reg true [] [(rO 37 (.mov (.t 0))), (rO 38 (.mov (.t 9))), (rO 39 (.mov (.t 0))), (rO 40 (.mov (.t 9))), (rO 41 (.arith .sub (.t 40) (.c (.int .i64 1)))), (rO 42 (.mov (.t 0))), (rO 43 (.mov (.t 9))), (rO 44 (.arith .sub (.t 43) (.c (.int .i64 1)))), (rO 45 (.iaddrS 6 (.t 42) (.t 44))), (rO 46 (.load (some 6) (.t 45))), (rO 47 (.mov (.t 0))), (rO 48 (.mov (.t 9))), (rO 49 (.iaddrS 6 (.t 47) (.t 48))), (rO 50 (.load (some 6) (.t 49))), (rO 51 (.iaddrS 6 (.t 37) (.t 38))), ⟨none, 69, (.store (some 6) (.t 51) (.t 46)), none, [], none⟩, (rO 52 (.iaddrS 6 (.t 39) (.t 41))), ⟨none, 71, (.store (some 6) (.t 52) (.t 50)), none, [], none⟩])) (.reg false [] [(rO 35 (.mov (.t 9))), (rO 36 (.arith .sub (.t 35) (.c (.int .i64 1)))), (rO 9 (.mov (.t 36)))]))))))) (.reg false [] [(rO 15 (.mov (.t 8))), (rO 16 (.arith .add (.t 15) (.c (.int .i64 1)))), (rO 8 (.mov (.t 16)))]))))))⟩
def ir_math_bits_Len (N : FN) : CF := ⟨1, 8, [(.tmp 2)], (.seq (.reg false [] [(rO 2 (.mov (.c (.int .i64 0))))]) (.seq (.cond (.c (.bool false)) (.seq (.reg false [6] [(rO 3 (.mov (.t 0))), (rO 4 (.conv .u32 (.t 3))), (rO 5 (.call N.math_bits_Len32 [(.t 4)])), (rO 2 (.mov (.t 5)))]) .ret) .skip) (.seq (.reg false [8] [(rO 6 (.mov (.t 0))), (rO 7 (.call N.math_bits_Len64 [(.t 6)])), (rO 2 (.mov (.t 7)))]) .ret)))⟩
def ir_math_bits_Len64 (N : FN) : CF := ⟨1, 25, [(.tmp 2)], (.seq (.reg false [] [(rO 2 (.mov (.c (.int .i64 0))))]) (.seq (.seq (.reg false [] [(rO 3 (.mov (.t 0))), (rO 4 (.cmp .geq (.t 3) (.c (.int .u64 4294967296))))]) (.cond (.t 4) (.seq (.reg false [] [(rO 5 (.mov (.t 0))), (rO 6 (.arith .shr (.t 5) (.c (.int .u64 32)))), (rO 0 (.mov (.t 6)))]) (.reg false [] [(rO 2 (.mov (.c (.int .i64 32))))])) .skip)) (.seq (.seq (.reg false [] [(rO 7 (.mov (.t 0))), (rO 8 (.cmp .geq (.t 7) (.c (.int .u64 65536))))]) (.cond (.t 8) (.seq (.reg false [] [(rO 9 (.mov (.t 0))), (rO 10 (.arith .shr (.t 9) (.c (.int .u64 16)))), (rO 0 (.mov (.t 10)))]) (.reg false [] [(rO 11 (.mov (.t 2))), (rO 12 (.arith .add (.t 11) (.c (.int .i64 16)))), (rO 2 (.mov (.t 12)))])) .skip)) (.seq (.seq (.reg false [] [(rO 13 (.mov (.t 0))), (rO 14 (.cmp .geq (.t 13) (.c (.int .u64 256))))]) (.cond (.t 14) (.seq (.reg false [] [(rO 15 (.mov (.t 0))), (rO 16 (.arith .shr (.t 15) (.c (.int .u64 8)))), (rO 0 (.mov (.t 16)))]) (.reg false [] [(rO 17 (.mov (.t 2))), (rO 18 (.arith .add (.t 17) (.c (.int .i64 8)))), (rO 2 (.mov (.t 18)))])) .skip)) (.seq (.reg false [] [(rO 19 (.mov (.t 2))), (rO 20 (.mov (.t 0))), (rO 21 (.conv .u8 (.t 20))), (rO 22 (.idxS (.c (.str (.mk #[0, 1, 2, 2, 3, 3, 3, 3, 4, 4, 4, 4, 4, 4, 4, 4, 5, 5, 5, 5, 5, 5, 5, 5, 5, 5, 5, 5, 5, 5, 5, 5, 6, 6, 6, 6, 6, 6, 6, 6, 6, 6, 6, 6, 6, 6, 6, 6, 6, 6, 6, 6, 6, 6, 6, 6, 6, 6, 6, 6, 6, 6, 6, 6, 7, 7, 7, 7, 7, 7, 7, 7, 7, 7, 7, 7, 7, 7, 7, 7, 7, 7, 7, 7, 7, 7, 7, 7, 7, 7, 7, 7, 7, 7, 7, 7, 7, 7, 7, 7, 7, 7, 7, 7, 7, 7, 7, 7, 7, 7, 7, 7, 7, 7, 7, 7, 7, 7, 7, 7, 7, 7, 7, 7, 7, 7, 7, 7, 8, 8, 8, 8, 8, 8, 8, 8, 8, 8, 8, 8, 8, 8, 8, 8, 8, 8, 8, 8, 8, 8, 8, 8, 8, 8, 8, 8, 8, 8, 8, 8, 8, 8, 8, 8, 8, 8, 8, 8, 8, 8, 8, 8, 8, 8, 8, 8, 8, 8, 8, 8, 8, 8, 8, 8, 8, 8, 8, 8, 8, 8, 8, 8, 8, 8, 8, 8, 8, 8, 8, 8, 8, 8, 8, 8, 8, 8, 8, 8, 8, 8, 8, 8, 8, 8, 8, 8, 8, 8, 8, 8, 8, 8, 8, 8, 8, 8, 8, 8, 8, 8, 8, 8, 8, 8, 8, 8, 8, 8, 8, 8, 8, 8, 8, 8, 8, 8, 8, 8, 8, 8, 8, 8, 8, 8, 8, 8]))) (.t 21))), (rO 23 (.conv .i64 (.t 22))), (rO 24 (.arith .add (.t 19) (.t 23))), (rO 2 (.mov (.t 24)))]) .ret)))))⟩
end Go.X
namespace Go.X
open Go Go.RowKit
theorem row_inj {n : Nat} {f g : Row} (h : row n f = row n g) {c : Nat} (hc : c < n) : f c = g c := by
  have h1 := get_row (f := f) hc
  rw [h, get_row hc] at h1
  simp at h1
  exact h1.symm
theorem rowsL_inj {n : Nat} {K M : List Row} (h : rowsL n K = rowsL n M) : K.length = M.length ∧ ∀ i, i < K.length → ∀ c, c < n → K.getD i Z c = M.getD i Z c := by
  have hl : K.length = M.length := by have := congrArg List.length h; rwa [rowsL_len, rowsL_len] at this
  refine ⟨hl, fun i hi c hc => ?_⟩
  have h1 := get_rows (m := n) hi
  rw [h, get_rows (by omega)] at h1
  simp at h1
  exact (row_inj h1 hc).symm
theorem find_cg {l : List Nat} {p q : Nat → Bool} (h : ∀ i ∈ l, p i = q i) : l.find? p = l.find? q := by
  induction l with
  | nil => rfl
  | cons x t ih => rw [List.find?_cons, List.find?_cons, h x (List.mem_cons_self ..), ih fun i hi => h i (List.mem_cons_of_mem _ hi)]
theorem any_cg {l : List Nat} {p q : Nat → Bool} (h : ∀ i ∈ l, p i = q i) : l.any p = l.any q := by
  induction l with
  | nil => rfl
  | cons x t ih => rw [List.any_cons, List.any_cons, h x (List.mem_cons_self ..), ih fun i hi => h i (List.mem_cons_of_mem _ hi)]
theorem free_ext {p : Int} {K M : List Row} {ld ld' : Nat → Nat} {n : Nat} (hl : K.length = M.length) (hc : ∀ i, i < K.length → ∀ c, c < n → K.getD i Z c = M.getD i Z c) (hd : ∀ i, i < K.length → ld i = ld' i) : ∀ c, c ≤ n → freeL p K ld c = freeL p M ld' c
  | 0, _ => rfl
  | c + 1, h => by
    have ih := free_ext (p := p) hl hc hd c (by omega)
    have hany : ∀ j, (List.range K.length).find? (fun i => ld i == j) = (List.range K.length).find? (fun i => ld' i == j) := fun j => by
      exact find_cg fun i hi => by rw [hd i (List.mem_range.1 hi)]
    have e1 : isLd ld K.length c = isLd ld' M.length c := by
      unfold isLd; rw [← hl]
      exact any_cg fun i hi => by rw [hd i (List.mem_range.1 hi)]
    have e2 : kvQ p K ld c K.length = kvQ p M ld' c M.length := funext fun j => by
      unfold kvQ
      rw [← hl, ← hany j]
      split
      · rfl
      · split
        · rename_i i hi
          rw [hc i (List.mem_range.1 (List.mem_of_find?_eq_some hi)) c (by omega)]
        · rfl
    unfold freeL
    rw [ih, e1, e2]
theorem ker_same {p : Int} {n : Nat} {L : List Row} (hp : p ∈ primes) (hL : RwL p L) : rowsL n (iKerF p n L) = rowsL n (sKerF p n L) := by
  obtain ⟨hl, hc⟩ := rowsL_inj (red_ech (m := n) hp hL hL fun _ => Iff.rfl)
  have hd : ∀ i, i < (redF p n L).length → ldK n (redF p n L) i = ldK n (echF p n L) i := fun i hi => by
    unfold ldK ldN leadF
    refine congrArg Int.toNat ?_
    have : ∀ f g : Row, (∀ c, c < n → f c = g c) → idxF (fun i => f i != 0) n = idxF (fun i => g i != 0) n := fun f g h => by
      rcases idxF_cases (fun i => g i != 0) n with ⟨e, h2⟩ | ⟨q, hq, e, h2, h3⟩
      · rw [e]; exact idxF_none fun j hj => by have := h2 j hj; rw [← h j hj] at this; exact this
      · rw [e]; exact idxF_some hq (by have := h2; rw [← h q hq] at this; exact this) fun j hj => by have := h3 j hj; rw [← h j (by omega)] at this; exact this
    exact this _ _ (hc i hi)
  unfold iKerF sKerF
  rw [free_ext (p := p) hl hc hd n (Nat.le_refl n)]
  exact red_ech hp (free_rw (prime_bd hp).1 n) (free_rw (prime_bd hp).1 n) fun _ => Iff.rfl
end Go.X
namespace Go.X
open Go Go.RowKit
structure CA (a : Alg) : Prop where
  ok : AlgOk a
  as : AssocP a
  cm : sCommP a
  un : (findF a).isSome = true
def InA (a : Alg) (v : Nat → Int) : Prop := Rw a.p v ∧ ∀ i, a.n.toNat ≤ i → v i = 0
def vadd (p : Int) (v w : Nat → Int) : Nat → Int := fun i => (v i + w i) % p
def vsc (p c : Int) (v : Nat → Int) : Nat → Int := fun i => c * v i % p
theorem vadd_rw {p : Int} {v w : Nat → Int} (hp : 1 ≤ p) : Rw p (vadd p v w) := fun _ => mod_bd _ hp
theorem vsc_rw {p c : Int} {v : Nat → Int} (hp : 1 ≤ p) : Rw p (vsc p c v) := fun _ => mod_bd _ hp
theorem eq_mod {p : Int} {v w : Nat → Int} (hv : Rw p v) (hw : Rw p w) (h : ∀ i, v i % p = w i % p) : v = w := funext fun i => by
  have := h i
  rwa [rw_mod hv, rw_mod hw] at this
section
variable {a : Alg} (h : CA a)
theorem CA.p1 (h : CA a) : 1 ≤ a.p := by have := prime_bd h.ok.p; omega
theorem CA.p2 (h : CA a) : 2 ≤ a.p := (prime_bd h.ok.p).1
theorem in_mul (h : CA a) (v w : Nat → Int) : InA a (timesV a v w) := ⟨times_rw h.p1 v w, fun i hi => times_ge (by omega)⟩
theorem in_add (h : CA a) {v w : Nat → Int} (hv : InA a v) (hw : InA a w) : InA a (vadd a.p v w) := ⟨vadd_rw h.p1, fun i hi => by unfold vadd; rw [hv.2 i hi, hw.2 i hi]; rfl⟩
theorem in_sc (h : CA a) {c : Int} {v : Nat → Int} (hv : InA a v) : InA a (vsc a.p c v) := ⟨vsc_rw h.p1, fun i hi => by unfold vsc; rw [hv.2 i hi, Int.mul_zero]; rfl⟩
theorem in_one (h : CA a) : InA a (sUnit a) := ⟨(unit_facts h.ok h.un).2.2.1, (unit_facts h.ok h.un).2.2.2⟩
theorem in_Z (h : CA a) : InA a Z := ⟨Z_rw h.p1, fun _ _ => rfl⟩
theorem in_bas (h : CA a) {i : Nat} (hi : i < a.n.toNat) : InA a (basV i) := ⟨fun j => by have := h.p2; unfold basV; split <;> omega, fun j hj => by unfold basV; rw [if_neg (by omega)]⟩
theorem LinF.add {p : Int} {n : Nat} {F : (Nat → Int) → Int} (hF : LinF p n F) (u v : Nat → Int) : F (vadd p u v) % p = (F u + F v) % p := by
  rw [hF, cg_add (hF u) (hF v), ← sumN_add]
  refine sumN_mod fun i _ => ?_
  rw [← Int.add_mul]
  exact cg_mul (cg_mod p _) rfl
theorem LinF.sc {p : Int} {n : Nat} {F : (Nat → Int) → Int} (hF : LinF p n F) (c : Int) (u : Nat → Int) : F (vsc p c u) % p = (c * F u) % p := by
  rw [hF, cg_mul rfl (hF u), ← sumN_mul]
  refine sumN_mod fun i _ => ?_
  rw [← Int.mul_assoc]
  exact cg_mul (cg_mod p _) rfl
theorem mul_comm' (h : CA a) (v w : Nat → Int) : timesV a v w = timesV a w v := by
  have hn := h.ok.n
  refine eq_mod (times_rw h.p1 _ _) (times_rw h.p1 _ _) fun q => ?_
  refine LinF.ext (F := fun v => timesV a v w q) (G := fun v => timesV a w v q) (lin_l q) (lin_r q) (fun i hi => ?_) v
  refine LinF.ext (F := fun w => timesV a (basV i) w q) (G := fun w => timesV a w (basV i) q) (lin_r q) (lin_l q) (fun j hj => ?_) w
  show timesV a (basV i) (basV j) q % a.p = timesV a (basV j) (basV i) q % a.p
  rw [bas_times2 h.ok hi hj, bas_times2 h.ok hj hi]
  by_cases hq : q < 6
  · rcases Nat.lt_trichotomy i j with c | c | c
    · rw [h.cm j (by omega) i c q hq]
    · rw [c]
    · rw [h.cm i (by omega) j c q hq]
  · rw [h.ok.z i j q (by omega), h.ok.z j i q (by omega)]
theorem mul_assoc' (h : CA a) (u v w : Nat → Int) : timesV a (timesV a u v) w = timesV a u (timesV a v w) := times_assoc h.ok h.as u v w
theorem mul_left_comm' (h : CA a) (u v w : Nat → Int) : timesV a u (timesV a v w) = timesV a v (timesV a u w) := by
  rw [← mul_assoc' h, mul_comm' h u v, mul_assoc' h]
theorem mul_one' (h : CA a) {v : Nat → Int} (hv : InA a v) : timesV a v (sUnit a) = v := times_ur h.p1 (unit_facts h.ok h.un).2.1 hv.1 hv.2
theorem one_mul' (h : CA a) {v : Nat → Int} (hv : InA a v) : timesV a (sUnit a) v = v := by rw [mul_comm' h, mul_one' h hv]
theorem mul_add' (h : CA a) (u v w : Nat → Int) : timesV a u (vadd a.p v w) = vadd a.p (timesV a u v) (timesV a u w) :=
  eq_mod (times_rw h.p1 _ _) (vadd_rw h.p1) fun q => by
    rw [LinF.add (F := fun v => timesV a u v q) (lin_r q)]; exact (cg_mod _ _).symm
theorem add_mul' (h : CA a) (u v w : Nat → Int) : timesV a (vadd a.p u v) w = vadd a.p (timesV a u w) (timesV a v w) := by
  rw [mul_comm' h, mul_add' h, mul_comm' h w u, mul_comm' h w v]
theorem mul_sc' (h : CA a) (c : Int) (u v : Nat → Int) : timesV a u (vsc a.p c v) = vsc a.p c (timesV a u v) :=
  eq_mod (times_rw h.p1 _ _) (vsc_rw h.p1) fun q => by
    rw [LinF.sc (F := fun v => timesV a u v q) (lin_r q)]; exact (cg_mod _ _).symm
theorem sc_mul' (h : CA a) (c : Int) (u v : Nat → Int) : timesV a (vsc a.p c u) v = vsc a.p c (timesV a u v) := by
  rw [mul_comm' h, mul_sc' h, mul_comm' h]
theorem mul_Z (h : CA a) (u : Nat → Int) : timesV a u Z = Z := by
  have e : Z = vsc a.p 0 Z := funext fun i => by unfold vsc Z; simp
  rw [e, mul_sc' h]
  funext i; unfold vsc; simp
theorem Z_mul (h : CA a) (u : Nat → Int) : timesV a Z u = Z := by rw [mul_comm' h, mul_Z h]
theorem vadd_Z {p : Int} {v : Nat → Int} (hv : Rw p v) : vadd p v Z = v := funext fun i => by unfold vadd Z; rw [Int.add_zero]; exact rw_mod hv i
theorem Z_vadd {p : Int} {v : Nat → Int} (hv : Rw p v) : vadd p Z v = v := funext fun i => by unfold vadd Z; rw [Int.zero_add]; exact rw_mod hv i
theorem vsc_0 {p : Int} {v : Nat → Int} : vsc p 0 v = Z := funext fun i => by unfold vsc Z; simp
theorem vsc_1 {p : Int} {v : Nat → Int} (hv : Rw p v) : vsc p 1 v = v := funext fun i => by unfold vsc; rw [Int.one_mul]; exact rw_mod hv i
theorem vsc_Z {p c : Int} : vsc p c Z = Z := funext fun i => by unfold vsc Z; simp
theorem vsc_vsc {p c d : Int} {v : Nat → Int} : vsc p c (vsc p d v) = vsc p (c * d) v := funext fun i => by
  unfold vsc; rw [cg_mul rfl (cg_mod p _), Int.mul_assoc]
theorem vsc_mod {p c : Int} {v : Nat → Int} : vsc p (c % p) v = vsc p c v := funext fun i => cg_mul (cg_mod p c) rfl
theorem vsc_cg {p c d : Int} {v : Nat → Int} (e : c % p = d % p) : vsc p c v = vsc p d v := funext fun _ => cg_mul e rfl
theorem vsc_add {p c d : Int} {v : Nat → Int} : vadd p (vsc p c v) (vsc p d v) = vsc p (c + d) v := funext fun i => by
  show (c * v i % p + d * v i % p) % p = (c + d) * v i % p
  rw [cg_add (cg_mod p (c * v i)) (cg_mod p (d * v i)), Int.add_mul]
theorem vsc_vadd {p c : Int} {v w : Nat → Int} : vsc p c (vadd p v w) = vadd p (vsc p c v) (vsc p c w) := funext fun i => by
  show c * ((v i + w i) % p) % p = (c * v i % p + c * w i % p) % p
  rw [cg_mul rfl (cg_mod p _), cg_add (cg_mod p (c * v i)) (cg_mod p (c * w i)), Int.mul_add]
theorem vadd_comm (p : Int) (v w : Nat → Int) : vadd p v w = vadd p w v := funext fun i => by unfold vadd; rw [Int.add_comm]
theorem vadd_assoc (p : Int) (u v w : Nat → Int) : vadd p (vadd p u v) w = vadd p u (vadd p v w) := funext fun i => by
  show ((u i + v i) % p + w i) % p = (u i + (v i + w i) % p) % p
  rw [cg_add (cg_mod p _) rfl, cg_add (c := (v i + w i) % p) rfl (cg_mod p _), Int.add_assoc]
theorem vadd_vadd (p : Int) (u v w x : Nat → Int) : vadd p (vadd p u v) (vadd p w x) = vadd p (vadd p u w) (vadd p v x) := by
  rw [vadd_assoc, vadd_assoc, ← vadd_assoc p v w x, vadd_comm p v w, vadd_assoc p w v x]
abbrev pw (a : Alg) (v : Nat → Int) (k : Nat) : Nat → Int := foldV a (sUnit a) v k
theorem in_pw (h : CA a) (v : Nat → Int) : ∀ k, InA a (pw a v k)
  | 0 => in_one h
  | _ + 1 => in_mul h _ _
theorem pw_succ (v : Nat → Int) (k : Nat) : pw a v (k + 1) = timesV a (pw a v k) v := rfl
theorem pw_succ' (h : CA a) (v : Nat → Int) (k : Nat) : pw a v (k + 1) = timesV a v (pw a v k) := by rw [pw_succ, mul_comm' h]
theorem pw_one (h : CA a) {v : Nat → Int} (hv : InA a v) : pw a v 1 = v := one_mul' h hv
theorem pw_add (h : CA a) {v : Nat → Int} (m : Nat) : ∀ k, pw a v (m + k) = timesV a (pw a v m) (pw a v k)
  | 0 => (mul_one' h (in_pw h v m)).symm
  | k + 1 => by rw [← Nat.add_assoc, pw_succ, pw_add h m k, mul_assoc' h]; rfl
theorem pw_mul (h : CA a) {v : Nat → Int} (m : Nat) : ∀ k, pw a v (m * k) = pw a (pw a v m) k
  | 0 => rfl
  | k + 1 => by rw [Nat.mul_succ, pw_add h, pw_mul h m k]; rfl
theorem pw_sc (h : CA a) (c : Int) {v : Nat → Int} : ∀ k, pw a (vsc a.p c v) k = vsc a.p (c ^ k) (pw a v k)
  | 0 => by rw [Int.pow_zero]; exact (vsc_1 (in_one h).1).symm
  | k + 1 => by rw [pw_succ, pw_sc h c k, sc_mul' h, mul_sc' h, vsc_vsc, Int.pow_succ]; rfl
def ev2 (a : Alg) (x y : Nat → Int) : Nat → List Int → Nat → Int
  | 0, l => vsc a.p (l.headD 0) (sUnit a)
  | n + 1, l => vadd a.p (vsc a.p (l.headD 0) (pw a y (n + 1))) (timesV a x (ev2 a x y n l.tail))
theorem ev2_cons {x y : Nat → Int} {n : Nat} {c : Int} {l : List Int} : ev2 a x y (n + 1) (c :: l) = vadd a.p (vsc a.p c (pw a y (n + 1))) (timesV a x (ev2 a x y n l)) := rfl
theorem ev2_x (h : CA a) {x y : Nat → Int} {n : Nat} {l : List Int} : timesV a x (ev2 a x y n l) = ev2 a x y (n + 1) (0 :: l) := by
  show _ = vadd a.p (vsc a.p 0 _) (timesV a x (ev2 a x y n l))
  rw [vsc_0, Z_vadd (times_rw h.p1 _ _)]
theorem ev2_y (h : CA a) {x y : Nat → Int} (hy : InA a y) : ∀ {n : Nat} {l : List Int}, l.length = n + 1 → timesV a y (ev2 a x y n l) = ev2 a x y (n + 1) (l ++ [0])
  | 0, l, hl => by
    match l, hl with
    | [c], _ =>
      show timesV a y (vsc a.p c (sUnit a)) = vadd a.p (vsc a.p c (pw a y 1)) (timesV a x (vsc a.p 0 (sUnit a)))
      rw [mul_sc' h, mul_one' h hy, vsc_0, mul_Z h, vadd_Z (vsc_rw h.p1), pw_one h hy]
  | n + 1, l, hl => by
    match l, hl with
    | c :: t, hl =>
      have ih := ev2_y h hy (x := x) (n := n) (l := t) (by simpa using hl)
      have e := pw_succ' h y (n + 1)
      rw [List.cons_append, ev2_cons, ev2_cons, mul_add' h, mul_sc' h, mul_left_comm' h, ih, e]
def addZ : List Int → List Int → List Int
  | c :: l, d :: m => (c + d) :: addZ l m
  | _, _ => []
theorem addZ_len : ∀ {l m : List Int}, l.length = m.length → (addZ l m).length = l.length
  | [], [], _ => rfl
  | c :: l, d :: m, h => by simp [addZ, addZ_len (l := l) (m := m) (by simpa using h)]
theorem ev2_add (h : CA a) {x y : Nat → Int} : ∀ {n : Nat} {l m : List Int}, l.length = n + 1 → m.length = n + 1 → vadd a.p (ev2 a x y n l) (ev2 a x y n m) = ev2 a x y n (addZ l m)
  | 0, l, m, hl, hm => by
    match l, m, hl, hm with
    | [c], [d], _, _ => exact vsc_add
  | n + 1, l, m, hl, hm => by
    match l, m, hl, hm with
    | c :: l, d :: m, hl, hm =>
      show vadd a.p (vadd a.p (vsc a.p c _) (timesV a x (ev2 a x y n l))) (vadd a.p (vsc a.p d _) (timesV a x (ev2 a x y n m))) = vadd a.p (vsc a.p (c + d) _) (timesV a x (ev2 a x y n (addZ l m)))
      rw [vadd_vadd, vsc_add, ← mul_add' h, ev2_add h (l := l) (m := m) (by simpa using hl) (by simpa using hm)]
theorem ev2_mod {x y : Nat → Int} : ∀ {n : Nat} {l : List Int}, ev2 a x y n (l.map (· % a.p)) = ev2 a x y n l
  | 0, [] => rfl
  | 0, c :: l => vsc_mod
  | n + 1, [] => rfl
  | n + 1, c :: l => by
    show vadd a.p (vsc a.p (c % a.p) _) (timesV a x (ev2 a x y n (l.map (· % a.p)))) = vadd a.p (vsc a.p c _) (timesV a x (ev2 a x y n l))
    rw [vsc_mod, ev2_mod]
def pasc (p : Int) : Nat → List Int
  | 0 => [1]
  | n + 1 => (addZ (0 :: pasc p n) (pasc p n ++ [0])).map (· % p)
theorem pasc_len (p : Int) : ∀ n, (pasc p n).length = n + 1
  | 0 => rfl
  | n + 1 => by
    unfold pasc
    rw [List.length_map, addZ_len (by simp), List.length_cons, pasc_len p n]
theorem pw_binom (h : CA a) {x y : Nat → Int} (hx : InA a x) (hy : InA a y) : ∀ n, pw a (vadd a.p x y) n = ev2 a x y n (pasc a.p n)
  | 0 => (vsc_1 (in_one h).1).symm
  | n + 1 => by
    rw [pw_succ' h, pw_binom h hx hy n, add_mul' h, ev2_x h, ev2_y h hy (pasc_len a.p n), ev2_add h (by simp [pasc_len]) (by simp [pasc_len])]
    exact ev2_mod.symm
theorem ev2_top (h : CA a) {x y : Nat → Int} : ∀ n, ev2 a x y n (List.replicate n 0 ++ [1]) = pw a x n
  | 0 => vsc_1 (in_one h).1
  | n + 1 => by
    have e := pw_succ' h x n
    rw [List.replicate_succ, List.cons_append, ev2_cons, vsc_0, Z_vadd (times_rw h.p1 _ _), ev2_top h n, e]
theorem pasc_prime : ∀ p ∈ primes, pasc p p.toNat = 1 :: (List.replicate (p.toNat - 1) 0 ++ [1]) := by decide +kernel
theorem frob_add (h : CA a) {x y : Nat → Int} (hx : InA a x) (hy : InA a y) : pw a (vadd a.p x y) a.p.toNat = vadd a.p (pw a x a.p.toNat) (pw a y a.p.toNat) := by
  rw [pw_binom h hx hy, pasc_prime _ h.ok.p]
  obtain ⟨k, hk⟩ : ∃ k, a.p.toNat = k + 1 := ⟨a.p.toNat - 1, by have := h.p2; omega⟩
  have e := pw_succ' h x k
  rw [hk, ev2_cons, Nat.add_sub_cancel, ev2_top h, vsc_1 (in_pw h y _).1, ← e, vadd_comm]
theorem pow_cg {p c : Int} : ∀ k : Nat, c ^ k % p = (c % p) ^ k % p
  | 0 => by simp
  | k + 1 => by rw [Int.pow_succ, Int.pow_succ]; exact cg_mul (pow_cg k) (cg_mod p c).symm
theorem fermat_tab : ∀ p ∈ primes, ∀ c ∈ (List.range 13).map Int.ofNat, c < p → c ^ p.toNat % p = c % p := by decide +kernel
theorem fermat {p : Int} (hp : p ∈ primes) (c : Int) : c ^ p.toNat % p = c % p := by
  have hp2 := prime_bd hp
  have hb := mod_bd c (p := p) (by omega)
  rw [pow_cg, fermat_tab p hp (c % p) (by rw [List.mem_map]; exact ⟨(c % p).toNat, by simp; omega, by show ((c % p).toNat : Int) = _; omega⟩) hb.2, cg_mod]
theorem frob_sc (h : CA a) (c : Int) {x : Nat → Int} : pw a (vsc a.p c x) a.p.toNat = vsc a.p c (pw a x a.p.toNat) := by
  rw [pw_sc h]; exact vsc_cg (fermat h.ok.p c)
theorem pw_Z (h : CA a) {k : Nat} : pw a Z (k + 1) = Z := by rw [pw_succ, mul_Z h]
end
end Go.X
namespace Go.X
open Go Go.RowKit
end Go.X
namespace Go.X
open Go Go.RowKit
end Go.X
