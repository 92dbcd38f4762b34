/- FnExactRegularClasses: called with whatever arguments of its types, the law returns true, and the arguments read as before. No condition. -/
import Derived.Test.YtiefibobgdbcdaaRows
import Derived.Test.YtiefibobgdbcdaaX1
import Derived.Test.YtiefibobgdbcdaaX2
import Derived.Test.YtiefibobgdbcdaaX3
import Derived.Test.YtiefibobgdbcdaaX4
import Derived.Test.YtiefibobgdbcdaaX5
import Derived.Test.YtiefibobgdbcdaaM1
import Derived.Test.YtiefibobgdbcdaaK1
import Derived.Test.YtiefibobgdbcdaaK2
import Derived.Test.YtiefibobgdbcdaaK3
import Derived.Test.YtiefibobgdbcdaaK4
import Derived.Test.YtiefibobgdbcdaaK5
import Derived.Test.YtiefibobgdbcdaaK6
import Derived.Test.YtiefibobgdbcdaaK7
import Derived.Test.YtiefibobgdbcdaaK8
import Derived.Test.YtiefibobgdbcdaaK9
import Derived.Test.YtiefibobgdbcdaaK10
import Derived.Test.YtiefibobgdbcdaaK11
import Derived.Test.YtiefibobgdbcdaaK12
import Derived.Test.YtiefibobgdbcdaaK13
import Derived.Test.YtiefibobgdbcdaaK14
import Derived.Test.YtiefibobgdbcdaaK15
import Derived.Test.YtiefibobgdbcdaaK16
import Derived.Test.YtiefibobgdbcdaaK17
import Derived.Test.YtiefibobgdbcdaaW1
import Derived.Test.YtiefibobgdbcdaaW2
import Derived.Test.YtiefibobgdbcdaaW3
import Derived.Test.YtiefibobgdbcdaaW4
import Derived.Test.YtiefibobgdbcdaaW5
import Derived.Test.YtiefibobgdbcdaaW6
import Derived.Test.YtiefibobgdbcdaaW7
import Derived.Test.YtiefibobgdbcdaaW8
import Derived.Test.YtiefibobgdbcdaaW9
import Derived.Test.YtiefibobgdbcdaaW10
import Derived.Test.YtiefibobgdbcdaaW11
import Derived.Test.YtiefibobgdbcdaaW12
import Derived.Test.YtiefibobgdbcdaaW13
import Derived.Test.YtiefibobgdbcdaaW14
import Derived.Test.YtiefibobgdbcdaaW15
import Derived.Test.YtiefibobgdbcdaaW16
import Derived.Test.YtiefibobgdbcdaaW17
import Derived.Test.YtiefibobgdbcdaaW18
import Derived.ProofKit
set_option linter.all false
namespace Go.Proofs.Ytiefibobgdbcdaa
open Go Go.X Go.ChangeShapes Go.WideShapes Go.RowKit
def nums : FN := ⟨fun i => [0, 0, 0, 0, 0, 0, 0, 38, 31, 0, 0, 0, 0, 0, 0, 0, 0, 0, 0, 0, 0, 0, 0, 0, 0, 0, 0, 0, 0, 0, 27, 17, 0, 0, 0, 0, 0, 0, 0, 0, 0, 0, 0, 71, 62, 44, 49, 0, 0, 0, 0, 0, 0, 0, 0, 63, 0, 0, 0, 0, 0, 0, 64, 0, 0, 0, 0, 0, 0, 0, 0, 0, 0, 0, 0, 0, 0, 0, 0, 0, 0, 0, 0, 0, 0, 0, 0, 0, 0, 0, 0, 0, 0, 0, 0, 0, 0, 0, 0, 0, 0, 0, 0, 0, 0, 0, 0, 0, 0, 0, 0, 0, 0, 0, 0, 0, 0, 0, 0, 0, 0, 0, 0, 0, 0, 0, 0, 0, 0, 0, 0, 0, 0, 0, 0, 0, 0, 0, 0, 0, 0, 0, 0, 0, 0, 0, 0, 0, 0, 0, 0, 0, 0, 0, 0, 0, 0, 0, 0, 0, 42, 0, 0, 0, 0, 0, 0, 0, 0, 0, 59, 60, 0, 0, 0, 0, 0, 0, 0, 0, 0, 0, 0, 0, 0, 0, 0, 0, 0, 0, 0, 0, 0, 0, 0, 0, 0, 0, 0, 0, 9, 12, 13, 0, 0, 0, 0, 0, 0, 0, 0, 47, 0, 0, 0, 0, 0, 0, 0, 0, 0, 0, 0, 0, 0, 0, 0, 0, 43, 61, 21, 22, 34, 37, 29, 35, 36, 20, 41, 50, 51, 52, 53, 54, 55, 56, 57, 58, 70, 39, 30, 25, 26, 16, 0, 0, 0, 0, 0, 0, 0, 0, 0, 6, 0, 0, 0, 0, 0, 0, 0, 0, 0, 0, 0, 0, 0, 0, 0, 0, 0, 0, 0, 0, 0, 14, 4, 18, 7, 10, 11, 15, 23, 24, 19, 28, 32, 33, 40, 46, 45, 48, 5, 8, 3].getD i 0⟩
theorem is_0 : isFn Try.prog nums.laws_szInt64S (ir_laws_szInt64S nums) = true := by decide +kernel
theorem is_1 : isFn Try.prog nums.laws_szInt64SS (ir_laws_szInt64SS nums) = true := by decide +kernel
theorem is_2 : isFn Try.prog nums.laws_toByteA6 (ir_laws_toByteA6 nums) = true := by decide +kernel
theorem is_3 : isFn Try.prog nums.laws_toByteA6A6 (ir_laws_toByteA6A6 nums) = true := by decide +kernel
theorem is_4 : isFn Try.prog nums.laws_toGroup (ir_laws_toGroup nums) = true := by decide +kernel
theorem is_5 : isFn Try.prog nums.laws_toInt64S (ir_laws_toInt64S nums) = true := by decide +kernel
theorem is_6 : isFn Try.prog nums.laws_toInt64SS (ir_laws_toInt64SS nums) = true := by decide +kernel
theorem is_7 : isFn Try.prog nums.spec_l01In (ir_spec_l01In nums) = true := by decide +kernel
theorem is_8 : isFn Try.prog nums.spec_l06Is (ir_spec_l06Is nums) = true := by decide +kernel
theorem is_9 : isFn Try.prog nums.spec_l01Prime (ir_spec_l01Prime nums) = true := by decide +kernel
theorem is_10 : isFn Try.prog nums.spec_l06Code (ir_spec_l06Code nums) = true := by decide +kernel
theorem is_11 : isFn Try.prog nums.spec_l06Table (ir_spec_l06Table nums) = true := by decide +kernel
theorem is_12 : isFn Try.prog nums.spec_l06Cocycle (ir_spec_l06Cocycle nums) = true := by decide +kernel
theorem is_13 : isFn Try.prog nums.spec_l06Twist (ir_spec_l06Twist nums) = true := by decide +kernel
theorem is_14 : isFn Try.prog nums.spec_l06Inverse (ir_spec_l06Inverse nums) = true := by decide +kernel
theorem is_15 : isFn Try.prog nums.spec_l06Times (ir_spec_l06Times nums) = true := by decide +kernel
theorem is_16 : isFn Try.prog nums.spec_l06Classes (ir_spec_l06Classes nums) = true := by decide +kernel
theorem is_17 : isFn Try.prog nums.spec_RegularClasses (ir_spec_RegularClasses nums) = true := by decide +kernel
theorem is_18 : isFn Try.prog nums.impl_in (ir_impl_in nums) = true := by decide +kernel
theorem is_19 : isFn Try.prog nums.impl_Group_n (ir_impl_Group_n nums) = true := by decide +kernel
theorem is_20 : isFn Try.prog nums.impl_Group_entriesOk (ir_impl_Group_entriesOk nums) = true := by decide +kernel
theorem is_21 : isFn Try.prog nums.impl_Group_times (ir_impl_Group_times nums) = true := by decide +kernel
theorem is_22 : isFn Try.prog nums.impl_Group_inverse (ir_impl_Group_inverse nums) = true := by decide +kernel
theorem is_23 : isFn Try.prog nums.impl_IsGroup (ir_impl_IsGroup nums) = true := by decide +kernel
theorem is_24 : isFn Try.prog nums.slices_Index_Lint64_int64 (ir_slices_Index_Lint64_int64 nums) = true := by decide +kernel
theorem is_25 : isFn Try.prog nums.slices_Contains_Lint64_int64 (ir_slices_Contains_Lint64_int64 nums) = true := by decide +kernel
theorem is_26 : isFn Try.prog nums.impl_isPrime (ir_impl_isPrime nums) = true := by decide +kernel
theorem is_27 : isFn Try.prog nums.impl_primed (ir_impl_primed nums) = true := by decide +kernel
theorem is_28 : isFn Try.prog nums.impl_squareOk_1_1 (ir_impl_squareOk_1_1 nums) = true := by decide +kernel
theorem is_29 : isFn Try.prog nums.slices_IndexFunc_Lint64_int64 (ir_slices_IndexFunc_Lint64_int64 nums) = true := by decide +kernel
theorem is_30 : isFn Try.prog nums.slices_ContainsFunc_Lint64_int64 (ir_slices_ContainsFunc_Lint64_int64 nums) = true := by decide +kernel
theorem is_31 : isFn Try.prog nums.impl_squareOk_1 (ir_impl_squareOk_1 nums) = true := by decide +kernel
theorem is_32 : isFn Try.prog nums.slices_IndexFunc_LLint64_Lint64 (ir_slices_IndexFunc_LLint64_Lint64 nums) = true := by decide +kernel
theorem is_33 : isFn Try.prog nums.slices_ContainsFunc_LLint64_Lint64 (ir_slices_ContainsFunc_LLint64_Lint64 nums) = true := by decide +kernel
theorem is_34 : isFn Try.prog nums.impl_squareOk (ir_impl_squareOk nums) = true := by decide +kernel
theorem is_35 : isFn Try.prog nums.impl_tabled (ir_impl_tabled nums) = true := by decide +kernel
theorem is_36 : isFn Try.prog nums.impl_Group_cocycle (ir_impl_Group_cocycle nums) = true := by decide +kernel
theorem is_37 : isFn Try.prog nums.impl_IsCocycle (ir_impl_IsCocycle nums) = true := by decide +kernel
theorem is_38 : isFn Try.prog nums.impl_twisting (ir_impl_twisting nums) = true := by decide +kernel
theorem is_39 : isFn Try.prog nums.cmp_isNaN_int64 (ir_cmp_isNaN_int64 nums) = true := by decide +kernel
theorem is_40 : isFn Try.prog nums.cmp_Less_int64 (ir_cmp_Less_int64 nums) = true := by decide +kernel
theorem is_41 : isFn Try.prog nums.slices_insertionSortOrdered_int64 (ir_slices_insertionSortOrdered_int64 nums) = true := by decide +kernel
theorem is_42 : isFn Try.prog nums.slices_pdqsortOrdered_int64 (ir_slices_pdqsortOrdered_int64 nums) = true := by decide +kernel
theorem is_43 : isFn Try.prog nums.math_bits_Len64 (ir_math_bits_Len64 nums) = true := by decide +kernel
theorem is_44 : isFn Try.prog nums.math_bits_Len (ir_math_bits_Len nums) = true := by decide +kernel
theorem is_45 : isFn Try.prog nums.slices_Sort_Lint64_int64 (ir_slices_Sort_Lint64_int64 nums) = true := by decide +kernel
theorem is_46 : isFn Try.prog nums.slices_Compact_Lint64_int64 (ir_slices_Compact_Lint64_int64 nums) = true := by decide +kernel
theorem is_47 : isFn Try.prog nums.impl_Group_classOf (ir_impl_Group_classOf nums) = true := by decide +kernel
theorem is_48 : isFn Try.prog nums.impl_Group_classes (ir_impl_Group_classes nums) = true := by decide +kernel
theorem is_49 : isFn Try.prog nums.impl_RegularClasses (ir_impl_RegularClasses nums) = true := by decide +kernel
theorem is_50 : isFn Try.prog nums.laws_eqInt64S (ir_laws_eqInt64S nums) = true := by decide +kernel
theorem is_51 : isFn Try.prog nums.laws_eqInt64SS (ir_laws_eqInt64SS nums) = true := by decide +kernel
theorem is_52 : isFn Try.prog nums.laws_markInt64S (ir_laws_markInt64S nums) = true := by decide +kernel
theorem is_53 : isFn Try.prog nums.laws_markInt64SS (ir_laws_markInt64SS nums) = true := by decide +kernel
theorem is_54 : isFn Try.prog nums.laws_heldInt64S (ir_laws_heldInt64S nums) = true := by decide +kernel
theorem is_55 : isFn Try.prog nums.laws_FnExactRegularClasses (ir_laws_FnExactRegularClasses nums) = true := by decide +kernel
theorem k_0 : C_sz1 Try.prog nums := c_sz1 is_0
theorem k_1 : C_szSS Try.prog nums := c_szSS k_0 is_1
theorem k_2 : C_id Try.prog nums.laws_toByteA6 6 := c_toByteA6 is_2
theorem k_3 : C_id Try.prog nums.laws_toByteA6A6 36 := c_toByteA6A6 k_2 is_3
theorem k_4 : C_toGroup Try.prog nums := c_toGroup k_3 is_4
theorem k_5 : C_to1 Try.prog nums := c_to1 is_5
theorem k_6 : C_toSS Try.prog nums := c_toSS k_5 is_6
theorem k_7 : C_sIn Try.prog nums := c_sIn is_7
theorem k_8 : C_sIsG Try.prog nums := c_sIsG k_7 is_8
theorem k_9 : C_sPrime Try.prog nums := c_sPrime is_9
theorem k_10 : C_sCodeG Try.prog nums := c_sCodeG k_8 k_9 is_10
theorem k_11 : C_sTabG Try.prog nums := c_sTabG k_10 k_7 is_11
theorem k_12 : C_sCoc Try.prog nums := c_sCoc is_12
theorem k_13 : C_sTwist Try.prog nums := c_sTwist k_11 k_12 is_13
theorem k_14 : C_sInvG Try.prog nums := c_sInvG is_14
theorem k_15 : C_sTimesG Try.prog nums := c_sTimesG is_15
theorem k_16 : C_sClasses Try.prog nums := c_sClasses k_14 k_15 is_16
theorem k_17 : C_sReg Try.prog nums := c_sReg k_13 k_16 is_17
theorem k_18 : C_in Try.prog nums := c_in is_18
theorem k_19 : C_gN Try.prog nums := c_gN is_19
theorem k_20 : C_gEntries Try.prog nums := c_gEntries k_19 is_20
theorem k_21 : C_gTimes Try.prog nums := c_gTimes is_21
theorem k_22 : C_gInverse Try.prog nums := c_gInverse k_19 k_21 is_22
theorem k_23 : C_IsGroup Try.prog nums := c_IsGroup k_18 k_20 k_19 k_21 k_22 is_23
theorem k_24 : C_Index Try.prog nums := c_Index is_24
theorem k_25 : C_Contains Try.prog nums := c_Contains k_24 is_25
theorem k_26 : C_isPrime Try.prog nums := c_isPrime k_25 is_26
theorem k_27 : C_primed Try.prog nums := c_primed k_23 k_26 is_27
theorem k_28 : C_sq11 Try.prog nums := c_sq11 k_18 is_28
theorem k_29 : C_IdxIntC Try.prog nums := c_IdxIntC is_29
theorem k_30 : C_CFIntC Try.prog nums := c_CFIntC k_29 is_30
theorem k_31 : C_sq1 Try.prog nums := c_sq1 k_28 k_30 is_31
theorem k_32 : C_IdxTb Try.prog nums := c_IdxTb is_32
theorem k_33 : C_CFTb Try.prog nums := c_CFTb k_32 is_33
theorem k_34 : C_square Try.prog nums := c_square k_31 k_33 is_34
theorem k_35 : C_tabled Try.prog nums := c_tabled k_27 k_19 k_34 is_35
theorem k_36 : C_coc Try.prog nums := c_coc k_19 k_21 is_36
theorem k_37 : C_IsCoc Try.prog nums := c_IsCoc k_35 k_36 is_37
theorem k_38 : C_twisting Try.prog nums := c_twisting k_37 is_38
theorem k_39 : C_nan Try.prog nums := c_nan is_39
theorem k_40 : C_less Try.prog nums := c_less k_39 is_40
theorem k_41 : C_insI Try.prog nums := c_insI k_40 is_41
theorem k_42 : C_pdqI Try.prog nums := c_pdqI k_41 is_42
theorem k_43 : C_Len64 Try.prog nums := c_Len64 is_43
theorem k_44 : C_Len Try.prog nums := c_Len k_43 is_44
theorem k_45 : C_SortI Try.prog nums := c_SortI k_42 k_44 is_45
theorem k_46 : C_CompI Try.prog nums := c_CompI is_46
theorem k_47 : C_classOf Try.prog nums := c_classOf k_19 k_21 k_22 k_45 k_46 is_47
theorem k_48 : C_classes Try.prog nums := c_classes k_19 k_47 is_48
theorem k_49 : C_Reg Try.prog nums := c_Reg k_38 k_48 k_19 k_21 is_49
theorem k_50 : C_eqIS Try.prog nums := c_eqIS is_50
theorem k_51 : C_eqSS Try.prog nums := c_eqSS k_50 is_51
theorem k_52 : C_markIS Try.prog nums := c_markIS is_52
theorem k_53 : C_markSS Try.prog nums := c_markSS k_52 is_53
theorem k_54 : C_heldIS Try.prog nums := c_heldIS is_54
theorem k_55 : L_RegularClasses Try.prog nums := l_RegularClasses k_1 k_4 k_6 k_17 k_49 k_50 k_51 k_53 k_52 k_54 is_55
end Go.Proofs.Ytiefibobgdbcdaa
