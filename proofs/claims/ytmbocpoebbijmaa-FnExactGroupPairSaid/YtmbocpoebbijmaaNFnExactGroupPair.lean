/- FnExactGroupPair: called with whatever arguments of its types, the law returns true, and the arguments read as before. No condition. -/
import Derived.Test.YtmbocpoebbijmaaRows
import Derived.Test.YtmbocpoebbijmaaX1
import Derived.Test.YtmbocpoebbijmaaX2
import Derived.Test.YtmbocpoebbijmaaX3
import Derived.Test.YtmbocpoebbijmaaX4
import Derived.Test.YtmbocpoebbijmaaX5
import Derived.Test.YtmbocpoebbijmaaM1
import Derived.Test.YtmbocpoebbijmaaK1
import Derived.Test.YtmbocpoebbijmaaK2
import Derived.Test.YtmbocpoebbijmaaK3
import Derived.Test.YtmbocpoebbijmaaK4
import Derived.Test.YtmbocpoebbijmaaK5
import Derived.Test.YtmbocpoebbijmaaK6
import Derived.Test.YtmbocpoebbijmaaK7
import Derived.Test.YtmbocpoebbijmaaK8
import Derived.Test.YtmbocpoebbijmaaK9
import Derived.Test.YtmbocpoebbijmaaK10
import Derived.Test.YtmbocpoebbijmaaK11
import Derived.Test.YtmbocpoebbijmaaK12
import Derived.Test.YtmbocpoebbijmaaK13
import Derived.Test.YtmbocpoebbijmaaK14
import Derived.Test.YtmbocpoebbijmaaK15
import Derived.Test.YtmbocpoebbijmaaK16
import Derived.Test.YtmbocpoebbijmaaK17
import Derived.Test.YtmbocpoebbijmaaW1
import Derived.Test.YtmbocpoebbijmaaW2
import Derived.Test.YtmbocpoebbijmaaW3
import Derived.Test.YtmbocpoebbijmaaW4
import Derived.Test.YtmbocpoebbijmaaW5
import Derived.Test.YtmbocpoebbijmaaW6
import Derived.Test.YtmbocpoebbijmaaW7
import Derived.Test.YtmbocpoebbijmaaW8
import Derived.Test.YtmbocpoebbijmaaW9
import Derived.Test.YtmbocpoebbijmaaW10
import Derived.Test.YtmbocpoebbijmaaW11
import Derived.Test.YtmbocpoebbijmaaW12
import Derived.Test.YtmbocpoebbijmaaW13
import Derived.Test.YtmbocpoebbijmaaW14
import Derived.ProofKit
set_option linter.all false
namespace Go.Proofs.Ytmbocpoebbijmaa
open Go Go.X Go.ChangeShapes Go.WideShapes Go.RowKit
def nums : FN := ⟨fun i => [0, 54, 0, 0, 0, 0, 0, 36, 53, 0, 39, 0, 0, 0, 0, 0, 0, 0, 0, 0, 0, 0, 0, 0, 0, 0, 0, 0, 0, 0, 40, 20, 0, 0, 0, 0, 0, 0, 0, 0, 0, 0, 0, 64, 58, 42, 55, 0, 0, 0, 0, 0, 44, 24, 0, 0, 0, 0, 0, 0, 0, 0, 0, 0, 0, 0, 0, 0, 0, 0, 0, 0, 0, 0, 0, 0, 0, 0, 0, 0, 0, 0, 0, 0, 0, 0, 0, 0, 0, 0, 47, 0, 0, 0, 0, 0, 0, 0, 0, 0, 0, 0, 0, 0, 0, 0, 0, 0, 0, 0, 0, 0, 0, 0, 0, 0, 0, 0, 0, 0, 0, 0, 0, 0, 0, 0, 0, 0, 0, 0, 0, 0, 0, 0, 0, 0, 0, 0, 0, 0, 0, 0, 0, 0, 0, 0, 0, 0, 0, 0, 0, 0, 0, 0, 0, 0, 0, 0, 0, 0, 66, 0, 0, 0, 0, 0, 0, 0, 0, 0, 78, 79, 0, 0, 0, 0, 0, 0, 0, 0, 0, 0, 0, 0, 0, 0, 0, 0, 0, 0, 0, 0, 0, 0, 0, 0, 0, 0, 0, 0, 0, 0, 0, 0, 0, 0, 0, 0, 0, 0, 0, 0, 0, 0, 0, 0, 0, 0, 0, 0, 0, 0, 0, 0, 0, 0, 0, 0, 41, 56, 33, 34, 57, 35, 45, 59, 60, 25, 65, 69, 70, 71, 72, 73, 74, 75, 76, 77, 89, 21, 18, 50, 51, 30, 43, 23, 22, 38, 37, 7, 5, 19, 3, 6, 8, 26, 27, 46, 61, 67].getD i 0⟩
theorem is_0 : isFn Try.prog nums.laws_toByteA6 (ir_laws_toByteA6 nums) = true := by decide +kernel
theorem is_1 : isFn Try.prog nums.laws_toByteA6A6 (ir_laws_toByteA6A6 nums) = true := by decide +kernel
theorem is_2 : isFn Try.prog nums.laws_toGroup (ir_laws_toGroup nums) = true := by decide +kernel
theorem is_3 : isFn Try.prog nums.spec_l01In (ir_spec_l01In nums) = true := by decide +kernel
theorem is_4 : isFn Try.prog nums.spec_l06Is (ir_spec_l06Is nums) = true := by decide +kernel
theorem is_5 : isFn Try.prog nums.spec_l01Prime (ir_spec_l01Prime nums) = true := by decide +kernel
theorem is_6 : isFn Try.prog nums.spec_l06Code (ir_spec_l06Code nums) = true := by decide +kernel
theorem is_7 : isFn Try.prog nums.spec_l06Algebra (ir_spec_l06Algebra nums) = true := by decide +kernel
theorem is_8 : isFn Try.prog nums.spec_l06Inverse (ir_spec_l06Inverse nums) = true := by decide +kernel
theorem is_9 : isFn Try.prog nums.spec_l06Times (ir_spec_l06Times nums) = true := by decide +kernel
theorem is_10 : isFn Try.prog nums.spec_l06Classes (ir_spec_l06Classes nums) = true := by decide +kernel
theorem is_11 : isFn Try.prog nums.spec_l06ClassAlgebra (ir_spec_l06ClassAlgebra nums) = true := by decide +kernel
theorem is_12 : isFn Try.prog nums.spec_l01Mod (ir_spec_l01Mod nums) = true := by decide +kernel
theorem is_13 : isFn Try.prog nums.spec_l01Inverse (ir_spec_l01Inverse nums) = true := by decide +kernel
theorem is_14 : isFn Try.prog nums.spec_l10Group (ir_spec_l10Group nums) = true := by decide +kernel
theorem is_15 : isFn Try.prog nums.spec_GroupPair (ir_spec_GroupPair nums) = true := by decide +kernel
theorem is_16 : isFn Try.prog nums.impl_in (ir_impl_in nums) = true := by decide +kernel
theorem is_17 : isFn Try.prog nums.impl_Group_n (ir_impl_Group_n nums) = true := by decide +kernel
theorem is_18 : isFn Try.prog nums.impl_Group_entriesOk (ir_impl_Group_entriesOk nums) = true := by decide +kernel
theorem is_19 : isFn Try.prog nums.impl_Group_times (ir_impl_Group_times nums) = true := by decide +kernel
theorem is_20 : isFn Try.prog nums.impl_Group_inverse (ir_impl_Group_inverse nums) = true := by decide +kernel
theorem is_21 : isFn Try.prog nums.impl_IsGroup (ir_impl_IsGroup nums) = true := by decide +kernel
theorem is_22 : isFn Try.prog nums.slices_Index_Lint64_int64 (ir_slices_Index_Lint64_int64 nums) = true := by decide +kernel
theorem is_23 : isFn Try.prog nums.slices_Contains_Lint64_int64 (ir_slices_Contains_Lint64_int64 nums) = true := by decide +kernel
theorem is_24 : isFn Try.prog nums.impl_isPrime (ir_impl_isPrime nums) = true := by decide +kernel
theorem is_25 : isFn Try.prog nums.impl_primed (ir_impl_primed nums) = true := by decide +kernel
theorem is_26 : isFn Try.prog nums.impl_built (ir_impl_built nums) = true := by decide +kernel
theorem is_27 : isFn Try.prog nums.impl_Group_algebra (ir_impl_Group_algebra nums) = true := by decide +kernel
theorem is_28 : isFn Try.prog nums.cmp_isNaN_int64 (ir_cmp_isNaN_int64 nums) = true := by decide +kernel
theorem is_29 : isFn Try.prog nums.cmp_Less_int64 (ir_cmp_Less_int64 nums) = true := by decide +kernel
theorem is_30 : isFn Try.prog nums.slices_insertionSortOrdered_int64 (ir_slices_insertionSortOrdered_int64 nums) = true := by decide +kernel
theorem is_31 : isFn Try.prog nums.slices_pdqsortOrdered_int64 (ir_slices_pdqsortOrdered_int64 nums) = true := by decide +kernel
theorem is_32 : isFn Try.prog nums.math_bits_Len64 (ir_math_bits_Len64 nums) = true := by decide +kernel
theorem is_33 : isFn Try.prog nums.math_bits_Len (ir_math_bits_Len nums) = true := by decide +kernel
theorem is_34 : isFn Try.prog nums.slices_Sort_Lint64_int64 (ir_slices_Sort_Lint64_int64 nums) = true := by decide +kernel
theorem is_35 : isFn Try.prog nums.slices_Compact_Lint64_int64 (ir_slices_Compact_Lint64_int64 nums) = true := by decide +kernel
theorem is_36 : isFn Try.prog nums.impl_Group_classOf (ir_impl_Group_classOf nums) = true := by decide +kernel
theorem is_37 : isFn Try.prog nums.impl_Group_classes (ir_impl_Group_classes nums) = true := by decide +kernel
theorem is_38 : isFn Try.prog nums.impl_Group_classAlgebra (ir_impl_Group_classAlgebra nums) = true := by decide +kernel
theorem is_39 : isFn Try.prog nums.impl_power (ir_impl_power nums) = true := by decide +kernel
theorem is_40 : isFn Try.prog nums.impl_inverse (ir_impl_inverse nums) = true := by decide +kernel
theorem is_41 : isFn Try.prog nums.impl_GroupPair (ir_impl_GroupPair nums) = true := by decide +kernel
theorem is_42 : isFn Try.prog nums.laws_eqByteA6 (ir_laws_eqByteA6 nums) = true := by decide +kernel
theorem is_43 : isFn Try.prog nums.laws_eqByteA6A6 (ir_laws_eqByteA6A6 nums) = true := by decide +kernel
theorem is_44 : isFn Try.prog nums.laws_eqByteA6A6A6 (ir_laws_eqByteA6A6A6 nums) = true := by decide +kernel
theorem is_45 : isFn Try.prog nums.laws_eqVector (ir_laws_eqVector nums) = true := by decide +kernel
theorem is_46 : isFn Try.prog nums.laws_eqAlgebra (ir_laws_eqAlgebra nums) = true := by decide +kernel
theorem is_47 : isFn Try.prog nums.laws_eqVectorA6 (ir_laws_eqVectorA6 nums) = true := by decide +kernel
theorem is_48 : isFn Try.prog nums.laws_eqPair (ir_laws_eqPair nums) = true := by decide +kernel
theorem is_49 : isFn Try.prog nums.laws_FnExactGroupPair (ir_laws_FnExactGroupPair nums) = true := by decide +kernel
theorem k_0 : C_id Try.prog nums.laws_toByteA6 6 := c_toByteA6 is_0
theorem k_1 : C_id Try.prog nums.laws_toByteA6A6 36 := c_toByteA6A6 k_0 is_1
theorem k_2 : C_toGroup Try.prog nums := c_toGroup k_1 is_2
theorem k_3 : C_sIn Try.prog nums := c_sIn is_3
theorem k_4 : C_sIsG Try.prog nums := c_sIsG k_3 is_4
theorem k_5 : C_sPrime Try.prog nums := c_sPrime is_5
theorem k_6 : C_sCodeG Try.prog nums := c_sCodeG k_4 k_5 is_6
theorem k_7 : C_sAlgG Try.prog nums := c_sAlgG is_7
theorem k_8 : C_sInvG Try.prog nums := c_sInvG is_8
theorem k_9 : C_sTimesG Try.prog nums := c_sTimesG is_9
theorem k_10 : C_sClasses Try.prog nums := c_sClasses k_8 k_9 is_10
theorem k_11 : C_sClsAlg Try.prog nums := c_sClsAlg k_10 k_9 is_11
theorem k_12 : C_sMod Try.prog nums := c_sMod is_12
theorem k_13 : C_sInverse Try.prog nums := c_sInverse k_12 is_13
theorem k_14 : C_sl10Group Try.prog nums := c_sl10Group k_7 k_11 k_10 k_13 is_14
theorem k_15 : C_sGroupPair Try.prog nums := c_sGroupPair k_6 k_14 is_15
theorem k_16 : C_in Try.prog nums := c_in is_16
theorem k_17 : C_gN Try.prog nums := c_gN is_17
theorem k_18 : C_gEntries Try.prog nums := c_gEntries k_17 is_18
theorem k_19 : C_gTimes Try.prog nums := c_gTimes is_19
theorem k_20 : C_gInverse Try.prog nums := c_gInverse k_17 k_19 is_20
theorem k_21 : C_IsGroup Try.prog nums := c_IsGroup k_16 k_18 k_17 k_19 k_20 is_21
theorem k_22 : C_Index Try.prog nums := c_Index is_22
theorem k_23 : C_Contains Try.prog nums := c_Contains k_22 is_23
theorem k_24 : C_isPrime Try.prog nums := c_isPrime k_23 is_24
theorem k_25 : C_primed Try.prog nums := c_primed k_21 k_24 is_25
theorem k_26 : C_built Try.prog nums := c_built k_19 is_26
theorem k_27 : C_gAlg Try.prog nums := c_gAlg k_17 k_26 is_27
theorem k_28 : C_nan Try.prog nums := c_nan is_28
theorem k_29 : C_less Try.prog nums := c_less k_28 is_29
theorem k_30 : C_insI Try.prog nums := c_insI k_29 is_30
theorem k_31 : C_pdqI Try.prog nums := c_pdqI k_30 is_31
theorem k_32 : C_Len64 Try.prog nums := c_Len64 is_32
theorem k_33 : C_Len Try.prog nums := c_Len k_32 is_33
theorem k_34 : C_SortI Try.prog nums := c_SortI k_31 k_33 is_34
theorem k_35 : C_CompI Try.prog nums := c_CompI is_35
theorem k_36 : C_classOf Try.prog nums := c_classOf k_17 k_19 k_20 k_34 k_35 is_36
theorem k_37 : C_classes Try.prog nums := c_classes k_17 k_36 is_37
theorem k_38 : C_gClsAlg Try.prog nums := c_gClsAlg k_37 k_19 is_38
theorem k_39 : C_power Try.prog nums := c_power is_39
theorem k_40 : C_inverse Try.prog nums := c_inverse k_39 is_40
theorem k_41 : C_GroupPair Try.prog nums := c_GroupPair k_25 k_27 k_38 k_37 k_40 is_41
theorem k_42 : C_eqSame Try.prog nums.laws_eqByteA6 6 := c_eqA6 is_42
theorem k_43 : C_eqSame Try.prog nums.laws_eqByteA6A6 36 := c_eqA66 k_42 is_43
theorem k_44 : C_eqSame Try.prog nums.laws_eqByteA6A6A6 216 := c_eqA666 k_43 is_44
theorem k_45 : C_eqVector Try.prog nums := c_eqVector' is_45
theorem k_46 : C_eqAlg Try.prog nums := c_eqAlg k_44 k_45 is_46
theorem k_47 : C_eqSame Try.prog nums.laws_eqVectorA6 36 := c_eqVA6 k_45 is_47
theorem k_48 : C_eqPair Try.prog nums := c_eqPair k_46 k_47 is_48
theorem k_49 : L_GroupPair Try.prog nums := l_GroupPair k_2 k_15 k_41 k_48 is_49
end Go.Proofs.Ytmbocpoebbijmaa
