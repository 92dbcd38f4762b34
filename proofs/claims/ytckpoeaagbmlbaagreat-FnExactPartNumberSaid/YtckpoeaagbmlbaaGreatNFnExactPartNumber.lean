/- FnExactPartNumber: called with whatever arguments of its types, the law returns true, and the arguments read as before. No condition. -/
import Derived.Test.YtckpoeaagbmlbaaGreatRows
import Derived.Test.YtckpoeaagbmlbaaGreatX1
import Derived.Test.YtckpoeaagbmlbaaGreatX2
import Derived.Test.YtckpoeaagbmlbaaGreatX3
import Derived.Test.YtckpoeaagbmlbaaGreatX4
import Derived.Test.YtckpoeaagbmlbaaGreatX5
import Derived.Test.YtckpoeaagbmlbaaGreatM1
import Derived.Test.YtckpoeaagbmlbaaGreatM2
import Derived.Test.YtckpoeaagbmlbaaGreatK1
import Derived.Test.YtckpoeaagbmlbaaGreatK2
import Derived.Test.YtckpoeaagbmlbaaGreatK3
import Derived.Test.YtckpoeaagbmlbaaGreatK4
import Derived.Test.YtckpoeaagbmlbaaGreatK5
import Derived.Test.YtckpoeaagbmlbaaGreatK6
import Derived.Test.YtckpoeaagbmlbaaGreatK7
import Derived.Test.YtckpoeaagbmlbaaGreatK8
import Derived.Test.YtckpoeaagbmlbaaGreatK9
import Derived.Test.YtckpoeaagbmlbaaGreatK10
import Derived.Test.YtckpoeaagbmlbaaGreatK11
import Derived.Test.YtckpoeaagbmlbaaGreatK12
import Derived.Test.YtckpoeaagbmlbaaGreatK13
import Derived.Test.YtckpoeaagbmlbaaGreatK14
import Derived.Test.YtckpoeaagbmlbaaGreatK15
import Derived.Test.YtckpoeaagbmlbaaGreatK16
import Derived.Test.YtckpoeaagbmlbaaGreatW1
import Derived.Test.YtckpoeaagbmlbaaGreatW2
import Derived.Test.YtckpoeaagbmlbaaGreatW3
import Derived.Test.YtckpoeaagbmlbaaGreatW4
import Derived.Test.YtckpoeaagbmlbaaGreatW5
import Derived.Test.YtckpoeaagbmlbaaGreatW6
import Derived.Test.YtckpoeaagbmlbaaGreatW7
import Derived.Test.YtckpoeaagbmlbaaGreatW8
import Derived.Test.YtckpoeaagbmlbaaGreatW9
import Derived.Test.YtckpoeaagbmlbaaGreatW10
import Derived.Test.YtckpoeaagbmlbaaGreatW11
import Derived.Test.YtckpoeaagbmlbaaGreatW12
import Derived.Test.YtckpoeaagbmlbaaGreatW13
import Derived.Test.YtckpoeaagbmlbaaGreatW14
import Derived.Test.YtckpoeaagbmlbaaGreatW15
import Derived.Test.YtckpoeaagbmlbaaGreatW16
import Derived.Test.YtckpoeaagbmlbaaGreatW17
import Derived.Test.YtckpoeaagbmlbaaGreatW18
import Derived.ProofKit
set_option linter.all false
namespace Go.Proofs.YtckpoeaagbmlbaaGreat
open Go Go.X Go.ChangeShapes Go.WideShapes Go.RowKit
def nums : FN := ⟨fun i => [109, 175, 112, 0, 181, 106, 55, 186, 50, 125, 99, 187, 133, 188, 127, 183, 126, 68, 107, 56, 70, 0, 0, 113, 0, 0, 0, 0, 0, 18, 184, 115, 57, 16, 0, 0, 122, 162, 0, 0, 118, 178, 63, 213, 189, 134, 101, 214, 190, 215, 191, 160, 180, 104, 194, 195, 196, 197, 198, 206, 199, 144, 151, 217, 204, 216, 203, 192, 137, 135, 136, 76, 102, 62, 145, 78, 0, 0, 123, 0, 211, 176, 0, 0, 0, 0, 0, 0, 0, 0, 0, 0, 0, 0, 0, 0, 0, 0, 0, 0, 64, 0, 0, 0, 0, 0, 0, 0, 0, 100, 177, 0, 0, 0, 0, 0, 0, 0, 0, 0, 105, 0, 0, 0, 0, 0, 0, 0, 0, 0, 0, 0, 0, 0, 0, 0, 0, 0, 0, 0, 0, 0, 165, 205, 202, 218, 164, 174, 201, 163, 158, 159, 85, 161, 166, 87, 167, 168, 169, 209, 208, 207, 219, 220, 221, 222, 223, 224, 225, 226, 227, 228, 0, 84, 0, 0, 0, 0, 0, 0, 0, 0, 0, 0, 0, 0, 0, 0, 0, 0, 94, 93, 0, 92, 96, 98, 95, 173, 172, 210, 0, 0, 0, 0, 0, 0, 0, 103, 179, 97, 91, 138, 171, 0, 0, 0, 0, 90, 48, 47, 0, 0, 13].getD i 0⟩
theorem is_0 : isFn Tryz.prog nums.laws_toByteA6 (ir_laws_toByteA6 nums) = true := by decide +kernel
theorem is_1 : isFn Tryz.prog nums.laws_toByteA6A6 (ir_laws_toByteA6A6 nums) = true := by decide +kernel
theorem is_2 : isFn Tryz.prog nums.laws_toByteA6A6A6 (ir_laws_toByteA6A6A6 nums) = true := by decide +kernel
theorem is_3 : isFn Tryz.prog nums.laws_toVector (ir_laws_toVector nums) = true := by decide +kernel
theorem is_4 : isFn Tryz.prog nums.laws_toAlgebra (ir_laws_toAlgebra nums) = true := by decide +kernel
theorem is_5 : isFn Tryz.prog nums.spec_l01Prime (ir_spec_l01Prime nums) = true := by decide +kernel
theorem is_6 : isFn Tryz.prog nums.spec_l01In (ir_spec_l01In nums) = true := by decide +kernel
theorem is_7 : isFn Tryz.prog nums.spec_l01Small (ir_spec_l01Small nums) = true := by decide +kernel
theorem is_8 : isFn Tryz.prog nums.spec_l01Shape (ir_spec_l01Shape nums) = true := by decide +kernel
theorem is_9 : isFn Tryz.prog nums.spec_l01Own (ir_spec_l01Own nums) = true := by decide +kernel
theorem is_10 : isFn Tryz.prog nums.spec_l01Lead (ir_spec_l01Lead nums) = true := by decide +kernel
theorem is_11 : isFn Tryz.prog nums.spec_l01Mod (ir_spec_l01Mod nums) = true := by decide +kernel
theorem is_12 : isFn Tryz.prog nums.spec_l01Less (ir_spec_l01Less nums) = true := by decide +kernel
theorem is_13 : isFn Tryz.prog nums.spec_l01Inverse (ir_spec_l01Inverse nums) = true := by decide +kernel
theorem is_14 : isFn Tryz.prog nums.spec_l01Echelon (ir_spec_l01Echelon nums) = true := by decide +kernel
theorem is_15 : isFn Tryz.prog nums.spec_l01Solve (ir_spec_l01Solve nums) = true := by decide +kernel
theorem is_16 : isFn Tryz.prog nums.spec_l01Basis (ir_spec_l01Basis nums) = true := by decide +kernel
theorem is_17 : isFn Tryz.prog nums.spec_l01Times (ir_spec_l01Times nums) = true := by decide +kernel
theorem is_18 : isFn Tryz.prog nums.spec_l01Find (ir_spec_l01Find nums) = true := by decide +kernel
theorem is_19 : isFn Tryz.prog nums.spec_l01Algebra (ir_spec_l01Algebra nums) = true := by decide +kernel
theorem is_20 : isFn Tryz.prog nums.spec_l01Vector (ir_spec_l01Vector nums) = true := by decide +kernel
theorem is_21 : isFn Tryz.prog nums.spec_l01Code (ir_spec_l01Code nums) = true := by decide +kernel
theorem is_22 : isFn Tryz.prog nums.spec_l01Commutative (ir_spec_l01Commutative nums) = true := by decide +kernel
theorem is_23 : isFn Tryz.prog nums.spec_l05Code (ir_spec_l05Code nums) = true := by decide +kernel
theorem is_24 : isFn Tryz.prog nums.spec_l01Unit (ir_spec_l01Unit nums) = true := by decide +kernel
theorem is_25 : isFn Tryz.prog nums.spec_l05Power (ir_spec_l05Power nums) = true := by decide +kernel
theorem is_26 : isFn Tryz.prog nums.spec_l01Add (ir_spec_l01Add nums) = true := by decide +kernel
theorem is_27 : isFn Tryz.prog nums.spec_l01Kernel (ir_spec_l01Kernel nums) = true := by decide +kernel
theorem is_28 : isFn Tryz.prog nums.spec_l01Vectors (ir_spec_l01Vectors nums) = true := by decide +kernel
theorem is_29 : isFn Tryz.prog nums.spec_l05Space (ir_spec_l05Space nums) = true := by decide +kernel
theorem is_30 : isFn Tryz.prog nums.spec_l05Nil (ir_spec_l05Nil nums) = true := by decide +kernel
theorem is_31 : isFn Tryz.prog nums.spec_l05Before (ir_spec_l05Before nums) = true := by decide +kernel
theorem is_32 : isFn Tryz.prog nums.spec_l05Primitive (ir_spec_l05Primitive nums) = true := by decide +kernel
theorem is_33 : isFn Tryz.prog nums.spec_l05Basis (ir_spec_l05Basis nums) = true := by decide +kernel
theorem is_34 : isFn Tryz.prog nums.spec_l05Row (ir_spec_l05Row nums) = true := by decide +kernel
theorem is_35 : isFn Tryz.prog nums.spec_l05Part (ir_spec_l05Part nums) = true := by decide +kernel
theorem is_36 : isFn Tryz.prog nums.spec_l05Sizes (ir_spec_l05Sizes nums) = true := by decide +kernel
theorem is_37 : isFn Tryz.prog nums.spec_l05Split (ir_spec_l05Split nums) = true := by decide +kernel
theorem is_38 : isFn Tryz.prog nums.spec_l01Form (ir_spec_l01Form nums) = true := by decide +kernel
theorem is_39 : isFn Tryz.prog nums.spec_l01Frobenius (ir_spec_l01Frobenius nums) = true := by decide +kernel
theorem is_40 : isFn Tryz.prog nums.spec_PartNumber (ir_spec_PartNumber nums) = true := by decide +kernel
theorem is_41 : isFn Tryz.prog nums.slices_Index_Lint64_int64 (ir_slices_Index_Lint64_int64 nums) = true := by decide +kernel
theorem is_42 : isFn Tryz.prog nums.slices_Contains_Lint64_int64 (ir_slices_Contains_Lint64_int64 nums) = true := by decide +kernel
theorem is_43 : isFn Tryz.prog nums.impl_isPrime (ir_impl_isPrime nums) = true := by decide +kernel
theorem is_44 : isFn Tryz.prog nums.impl_in (ir_impl_in nums) = true := by decide +kernel
theorem is_45 : isFn Tryz.prog nums.impl_isVector (ir_impl_isVector nums) = true := by decide +kernel
theorem is_46 : isFn Tryz.prog nums.impl_Algebra_n (ir_impl_Algebra_n nums) = true := by decide +kernel
theorem is_47 : isFn Tryz.prog nums.impl_Algebra_tableOk (ir_impl_Algebra_tableOk nums) = true := by decide +kernel
theorem is_48 : isFn Tryz.prog nums.impl_basis (ir_impl_basis nums) = true := by decide +kernel
theorem is_49 : isFn Tryz.prog nums.impl_Algebra_times (ir_impl_Algebra_times nums) = true := by decide +kernel
theorem is_50 : isFn Tryz.prog nums.impl_Algebra_associative (ir_impl_Algebra_associative nums) = true := by decide +kernel
theorem is_51 : isFn Tryz.prog nums.impl_Algebra_behind (ir_impl_Algebra_behind nums) = true := by decide +kernel
theorem is_52 : isFn Tryz.prog nums.impl_Algebra_ahead (ir_impl_Algebra_ahead nums) = true := by decide +kernel
theorem is_53 : isFn Tryz.prog nums.impl_Algebra_behind_1 (ir_impl_Algebra_behind_1 nums) = true := by decide +kernel
theorem is_54 : isFn Tryz.prog nums.impl_Algebra_ahead_1 (ir_impl_Algebra_ahead_1 nums) = true := by decide +kernel
theorem is_55 : isFn Tryz.prog nums.impl_Algebra_equations (ir_impl_Algebra_equations nums) = true := by decide +kernel
theorem is_56 : isFn Tryz.prog nums.slices_Clone_LLint64_Lint64 (ir_slices_Clone_LLint64_Lint64 nums) = true := by decide +kernel
theorem is_57 : isFn Tryz.prog nums.slices_Delete_LLint64_Lint64 (ir_slices_Delete_LLint64_Lint64 nums) = true := by decide +kernel
theorem is_58 : isFn Tryz.prog nums.slices_IndexFunc_LLint64_Lint64 (ir_slices_IndexFunc_LLint64_Lint64 nums) = true := by decide +kernel
theorem is_59 : isFn Tryz.prog nums.impl_reduce_1 (ir_impl_reduce_1 nums) = true := by decide +kernel
theorem is_60 : isFn Tryz.prog nums.impl_power (ir_impl_power nums) = true := by decide +kernel
theorem is_61 : isFn Tryz.prog nums.impl_inverse (ir_impl_inverse nums) = true := by decide +kernel
theorem is_62 : isFn Tryz.prog nums.impl_scaled (ir_impl_scaled nums) = true := by decide +kernel
theorem is_63 : isFn Tryz.prog nums.impl_rest (ir_impl_rest nums) = true := by decide +kernel
theorem is_64 : isFn Tryz.prog nums.impl_lessTimes (ir_impl_lessTimes nums) = true := by decide +kernel
theorem is_65 : isFn Tryz.prog nums.impl_reduce (ir_impl_reduce nums) = true := by decide +kernel
theorem is_66 : isFn Tryz.prog nums.slices_IndexFunc_Lint64_int64 (ir_slices_IndexFunc_Lint64_int64 nums) = true := by decide +kernel
theorem is_67 : isFn Tryz.prog nums.impl_leader_1 (ir_impl_leader_1 nums) = true := by decide +kernel
theorem is_68 : isFn Tryz.prog nums.impl_leader (ir_impl_leader nums) = true := by decide +kernel
theorem is_69 : isFn Tryz.prog nums.impl_solve (ir_impl_solve nums) = true := by decide +kernel
theorem is_70 : isFn Tryz.prog nums.impl_vector (ir_impl_vector nums) = true := by decide +kernel
theorem is_71 : isFn Tryz.prog nums.impl_Algebra_solved (ir_impl_Algebra_solved nums) = true := by decide +kernel
theorem is_72 : isFn Tryz.prog nums.impl_Algebra_findUnit (ir_impl_Algebra_findUnit nums) = true := by decide +kernel
theorem is_73 : isFn Tryz.prog nums.impl_IsAlgebra (ir_impl_IsAlgebra nums) = true := by decide +kernel
theorem is_74 : isFn Tryz.prog nums.slices_IndexFunc_Limpl_Vector_impl_Vector (ir_slices_IndexFunc_Limpl_Vector_impl_Vector nums) = true := by decide +kernel
theorem is_75 : isFn Tryz.prog nums.slices_ContainsFunc_Limpl_Vector_impl_Vector (ir_slices_ContainsFunc_Limpl_Vector_impl_Vector nums) = true := by decide +kernel
theorem is_76 : isFn Tryz.prog nums.impl_valid_1 (ir_impl_valid_1 nums) = true := by decide +kernel
theorem is_77 : isFn Tryz.prog nums.impl_valid (ir_impl_valid nums) = true := by decide +kernel
theorem is_78 : isFn Tryz.prog nums.impl_Algebra_commutative (ir_impl_Algebra_commutative nums) = true := by decide +kernel
theorem is_79 : isFn Tryz.prog nums.impl_Algebra_unit (ir_impl_Algebra_unit nums) = true := by decide +kernel
theorem is_80 : isFn Tryz.prog nums.impl_Algebra_power (ir_impl_Algebra_power nums) = true := by decide +kernel
theorem is_81 : isFn Tryz.prog nums.impl_Algebra_frobeniusPower (ir_impl_Algebra_frobeniusPower nums) = true := by decide +kernel
theorem is_82 : isFn Tryz.prog nums.impl_Algebra_nilradical_1 (ir_impl_Algebra_nilradical_1 nums) = true := by decide +kernel
theorem is_83 : isFn Tryz.prog nums.slices_Index_Lint_int (ir_slices_Index_Lint_int nums) = true := by decide +kernel
theorem is_84 : isFn Tryz.prog nums.slices_Contains_Lint_int (ir_slices_Contains_Lint_int nums) = true := by decide +kernel
theorem is_85 : isFn Tryz.prog nums.impl_kernel (ir_impl_kernel nums) = true := by decide +kernel
theorem is_86 : isFn Tryz.prog nums.impl_vectors (ir_impl_vectors nums) = true := by decide +kernel
theorem is_87 : isFn Tryz.prog nums.impl_Algebra_nilradical (ir_impl_Algebra_nilradical nums) = true := by decide +kernel
theorem is_88 : isFn Tryz.prog nums.impl_Algebra_add (ir_impl_Algebra_add nums) = true := by decide +kernel
theorem is_89 : isFn Tryz.prog nums.impl_Algebra_primitives_1 (ir_impl_Algebra_primitives_1 nums) = true := by decide +kernel
theorem is_90 : isFn Tryz.prog nums.impl_Algebra_shares (ir_impl_Algebra_shares nums) = true := by decide +kernel
theorem is_91 : isFn Tryz.prog nums.slices_insertionSortCmpFunc_impl_Vector (ir_slices_insertionSortCmpFunc_impl_Vector nums) = true := by decide +kernel
theorem is_92 : isFn Tryz.prog nums.slices_pdqsortCmpFunc_impl_Vector (ir_slices_pdqsortCmpFunc_impl_Vector nums) = true := by decide +kernel
theorem is_93 : isFn Tryz.prog nums.math_bits_Len64 (ir_math_bits_Len64 nums) = true := by decide +kernel
theorem is_94 : isFn Tryz.prog nums.math_bits_Len (ir_math_bits_Len nums) = true := by decide +kernel
theorem is_95 : isFn Tryz.prog nums.slices_SortFunc_Limpl_Vector_impl_Vector (ir_slices_SortFunc_Limpl_Vector_impl_Vector nums) = true := by decide +kernel
theorem is_96 : isBcmp Tryz.prog nums.internal_bytealg_Compare = true := by decide +kernel
theorem is_97 : isFn Tryz.prog nums.bytes_Compare (ir_bytes_Compare nums) = true := by decide +kernel
theorem is_98 : isFn Tryz.prog nums.impl_Algebra_primitives_2 (ir_impl_Algebra_primitives_2 nums) = true := by decide +kernel
theorem is_99 : isFn Tryz.prog nums.impl_Algebra_primitives (ir_impl_Algebra_primitives nums) = true := by decide +kernel
theorem is_100 : isFn Tryz.prog nums.impl_Algebra_all (ir_impl_Algebra_all nums) = true := by decide +kernel
theorem is_101 : isFn Tryz.prog nums.impl_Algebra_row (ir_impl_Algebra_row nums) = true := by decide +kernel
theorem is_102 : isFn Tryz.prog nums.impl_Algebra_spanned (ir_impl_Algebra_spanned nums) = true := by decide +kernel
theorem is_103 : isFn Tryz.prog nums.impl_Algebra_spread (ir_impl_Algebra_spread nums) = true := by decide +kernel
theorem is_104 : isFn Tryz.prog nums.impl_Algebra_degrees (ir_impl_Algebra_degrees nums) = true := by decide +kernel
theorem is_105 : isFn Tryz.prog nums.slices_ContainsFunc_Lint64_int64 (ir_slices_ContainsFunc_Lint64_int64 nums) = true := by decide +kernel
theorem is_106 : isFn Tryz.prog nums.impl_Algebra_split_1 (ir_impl_Algebra_split_1 nums) = true := by decide +kernel
theorem is_107 : isFn Tryz.prog nums.impl_Algebra_split (ir_impl_Algebra_split nums) = true := by decide +kernel
theorem is_108 : isFn Tryz.prog nums.impl_Algebra_form (ir_impl_Algebra_form nums) = true := by decide +kernel
theorem is_109 : isFn Tryz.prog nums.impl_Algebra_table (ir_impl_Algebra_table nums) = true := by decide +kernel
theorem is_110 : isFn Tryz.prog nums.impl_Algebra_frobenius (ir_impl_Algebra_frobenius nums) = true := by decide +kernel
theorem is_111 : isFn Tryz.prog nums.impl_PartNumber (ir_impl_PartNumber nums) = true := by decide +kernel
theorem is_112 : isFn Tryz.prog nums.laws_FnExactPartNumber (ir_laws_FnExactPartNumber nums) = true := by decide +kernel
theorem k_0 : C_id Tryz.prog nums.laws_toByteA6 6 := c_toByteA6 is_0
theorem k_1 : C_id Tryz.prog nums.laws_toByteA6A6 36 := c_toByteA6A6 k_0 is_1
theorem k_2 : C_id Tryz.prog nums.laws_toByteA6A6A6 216 := c_toByteA6A6A6 k_1 is_2
theorem k_3 : C_id Tryz.prog nums.laws_toVector 6 := c_toVector is_3
theorem k_4 : C_toAlgebra Tryz.prog nums := c_toAlgebra k_2 k_3 is_4
theorem k_5 : C_sPrime Tryz.prog nums := c_sPrime is_5
theorem k_6 : C_sIn Tryz.prog nums := c_sIn is_6
theorem k_7 : C_sSmall Tryz.prog nums := c_sSmall is_7
theorem k_8 : C_sShape Tryz.prog nums := c_sShape k_5 k_6 k_7 is_8
theorem k_9 : C_sOwn Tryz.prog nums := c_sOwn is_9
theorem k_10 : C_sLead Tryz.prog nums := c_sLead is_10
theorem k_11 : C_sMod Tryz.prog nums := c_sMod is_11
theorem k_12 : C_sLess Tryz.prog nums := c_sLess k_11 is_12
theorem k_13 : C_sLessO Tryz.prog nums := c_sLessO k_11 is_12
theorem k_14 : C_sInverse Tryz.prog nums := c_sInverse k_11 is_13
theorem k_15 : C_sEchelon Tryz.prog nums := c_sEchelon k_9 k_10 k_12 k_13 k_14 is_14
theorem k_16 : C_sSolve Tryz.prog nums := c_sSolve k_15 k_10 is_15
theorem k_17 : C_sBasis Tryz.prog nums := c_sBasis is_16
theorem k_18 : C_sTimes Tryz.prog nums := c_sTimes is_17
theorem k_19 : C_sFind Tryz.prog nums := c_sFind k_16 k_17 k_18 is_18
theorem k_20 : C_sAlgebra Tryz.prog nums := c_sAlgebra k_8 k_19 k_17 k_18 is_19
theorem k_21 : C_sVector Tryz.prog nums := c_sVector k_7 is_20
theorem k_22 : C_sCodeL Tryz.prog nums := c_sCodeL k_20 k_21 is_21
theorem k_23 : C_sCommutative Tryz.prog nums := c_sCommutative is_22
theorem k_24 : C_sCode5 Tryz.prog nums := c_sCode5 k_22 k_23 is_23
theorem k_25 : C_sUnit Tryz.prog nums := c_sUnit k_19 is_24
theorem k_26 : C_sPower5 Tryz.prog nums := c_sPower5 k_25 k_18 is_25
theorem k_27 : C_sAddK Tryz.prog nums := c_sAddK k_11 is_26
theorem k_28 : C_sKernel Tryz.prog nums := c_sKernel k_15 k_10 k_11 is_27
theorem k_29 : C_sVectors Tryz.prog nums := c_sVectors is_28
theorem k_30 : C_sSpace Tryz.prog nums := c_sSpace k_17 k_26 k_27 k_28 k_29 is_29
theorem k_31 : C_sNil Tryz.prog nums := c_sNil k_30 is_30
theorem k_32 : C_before Tryz.prog nums := c_before is_31
theorem k_33 : C_sPrims Tryz.prog nums := c_sPrims k_25 k_30 k_27 k_14 k_18 k_32 is_32
theorem k_34 : C_sBasisL Tryz.prog nums := c_sBasisL k_17 is_33
theorem k_35 : C_sRow Tryz.prog nums := c_sRow is_34
theorem k_36 : C_sPart Tryz.prog nums := c_sPart k_18 k_35 k_15 k_29 is_35
theorem k_37 : C_sSizes Tryz.prog nums := c_sSizes k_33 k_34 k_31 k_36 is_36
theorem k_38 : C_sSplit Tryz.prog nums := c_sSplit k_37 is_37
theorem k_39 : C_sForm Tryz.prog nums := c_sForm is_38
theorem k_40 : C_sFrobenius Tryz.prog nums := c_sFrobenius k_39 k_15 is_39
theorem k_41 : C_sPartNumber Tryz.prog nums := c_sPartNumber k_24 k_6 k_31 k_38 k_40 k_33 k_39 k_14 is_40
theorem k_42 : C_Index Tryz.prog nums := c_Index is_41
theorem k_43 : C_Contains Tryz.prog nums := c_Contains k_42 is_42
theorem k_44 : C_isPrime Tryz.prog nums := c_isPrime k_43 is_43
theorem k_45 : C_in Tryz.prog nums := c_in is_44
theorem k_46 : C_isVector Tryz.prog nums := c_isVector is_45
theorem k_47 : C_n Tryz.prog nums := c_n is_46
theorem k_48 : C_tableOk Tryz.prog nums := c_tableOk k_46 k_47 is_47
theorem k_49 : C_basis Tryz.prog nums := c_basis is_48
theorem k_50 : C_times Tryz.prog nums := c_times k_47 is_49
theorem k_51 : C_associative Tryz.prog nums := c_associative k_47 k_49 k_50 is_50
theorem k_52 : C_behind Tryz.prog nums := c_behind is_51
theorem k_53 : C_ahead Tryz.prog nums := c_ahead is_52
theorem k_54 : C_behind1 Tryz.prog nums := c_behind1 k_50 is_53
theorem k_55 : C_ahead1 Tryz.prog nums := c_ahead1 k_50 is_54
theorem k_56 : C_equations Tryz.prog nums := c_equations k_47 k_49 is_55
theorem k_57 : C_Clone Tryz.prog nums := c_Clone is_56
theorem k_58 : C_Delete Tryz.prog nums := c_Delete is_57
theorem k_59 : C_IdxRows Tryz.prog nums := c_IdxRows is_58
theorem k_60 : C_reduce1 Tryz.prog nums := c_reduce1 is_59
theorem k_61 : C_power Tryz.prog nums := c_power is_60
theorem k_62 : C_inverse Tryz.prog nums := c_inverse k_61 is_61
theorem k_63 : C_scaled Tryz.prog nums := c_scaled is_62
theorem k_64 : C_rest Tryz.prog nums := c_rest is_63
theorem k_65 : C_lessTimes Tryz.prog nums := c_lessTimes k_64 is_64
theorem k_66 : C_reduce Tryz.prog nums := c_reduce k_57 k_58 k_59 k_60 k_62 k_63 k_65 is_65
theorem k_67 : C_IdxInt Tryz.prog nums := c_IdxInt is_66
theorem k_68 : C_leader1 Tryz.prog nums := c_leader1 is_67
theorem k_69 : C_leader Tryz.prog nums := c_leader k_67 k_68 is_68
theorem k_70 : C_solve Tryz.prog nums := c_solve k_66 k_69 is_69
theorem k_71 : C_vector Tryz.prog nums := c_vector is_70
theorem k_72 : C_vectorE Tryz.prog nums := c_vectorE is_70
theorem k_73 : C_solved Tryz.prog nums := c_solved k_56 k_47 k_70 k_71 k_72 is_71
theorem k_74 : C_findUnit Tryz.prog nums := c_findUnit k_47 k_49 k_52 k_53 k_54 k_55 k_73 is_72
theorem k_75 : C_IsAlgebra Tryz.prog nums := c_IsAlgebra k_44 k_45 k_48 k_51 k_74 is_73
theorem k_76 : C_IdxVec Tryz.prog nums := c_IdxVec is_74
theorem k_77 : C_ContainsVec Tryz.prog nums := c_ContainsVec k_76 is_75
theorem k_78 : C_valid1 Tryz.prog nums := c_valid1 k_46 is_76
theorem k_79 : C_validL Tryz.prog nums := c_validL k_75 k_77 k_78 is_77
theorem k_80 : C_validE Tryz.prog nums := c_validE k_79
theorem k_81 : C_commutative Tryz.prog nums := c_commutative k_47 is_78
theorem k_82 : C_unit Tryz.prog nums := c_unit k_74 is_79
theorem k_83 : C_vpower Tryz.prog nums := c_vpower k_82 k_50 is_80
theorem k_84 : C_frobPow Tryz.prog nums := c_frobPow k_83 is_81
theorem k_85 : C_nil1 Tryz.prog nums := c_nil1 k_84 is_82
theorem k_86 : C_IndexI Tryz.prog nums := c_IndexI is_83
theorem k_87 : C_ContainsI Tryz.prog nums := c_ContainsI k_86 is_84
theorem k_88 : C_kernel Tryz.prog nums := c_kernel k_66 k_69 k_87 k_64 is_85
theorem k_89 : C_vectors Tryz.prog nums := c_vectors k_71 is_86
theorem k_90 : C_nil Tryz.prog nums := c_nil k_47 k_56 k_85 k_88 k_89 is_87
theorem k_91 : C_equationsC Tryz.prog nums := c_equationsC k_47 k_49 is_55
theorem k_92 : C_add Tryz.prog nums := c_add is_88
theorem k_93 : C_prims1 Tryz.prog nums := c_prims1 k_84 k_92 is_89
theorem k_94 : C_shares Tryz.prog nums := c_shares k_82 k_92 k_50 k_64 k_62 is_90
theorem k_95 : C_insSort Tryz.prog nums := c_insSort is_91
theorem k_96 : C_pdqSort Tryz.prog nums := c_pdqSort k_95 is_92
theorem k_97 : C_Len64 Tryz.prog nums := c_Len64 is_93
theorem k_98 : C_Len Tryz.prog nums := c_Len k_97 is_94
theorem k_99 : C_SortVec Tryz.prog nums := c_SortVec k_96 k_98 is_95
theorem k_100 : C_bcmp Tryz.prog nums := c_bcmp is_96
theorem k_101 : C_bytesCmp Tryz.prog nums := c_bytesCmp k_100 is_97
theorem k_102 : C_prims2 Tryz.prog nums := c_prims2 k_101 is_98
theorem k_103 : C_prims Tryz.prog nums := c_prims k_82 k_47 k_91 k_93 k_88 k_89 k_94 k_99 k_102 is_99
theorem k_104 : C_all Tryz.prog nums := c_all k_47 k_49 is_100
theorem k_105 : C_row Tryz.prog nums := c_row k_47 is_101
theorem k_106 : C_spanned Tryz.prog nums := c_spanned k_105 k_66 k_89 is_102
theorem k_107 : C_spread Tryz.prog nums := c_spread k_50 k_106 is_103
theorem k_108 : C_degrees Tryz.prog nums := c_degrees k_90 k_103 k_104 k_107 is_104
theorem k_109 : C_CFInt Tryz.prog nums := c_CFInt k_67 is_105
theorem k_110 : C_split1 Tryz.prog nums := c_split1 is_106
theorem k_111 : C_split Tryz.prog nums := c_split k_108 k_109 k_110 is_107
theorem k_112 : C_form Tryz.prog nums := c_form is_108
theorem k_113 : C_table Tryz.prog nums := c_table k_47 k_112 is_109
theorem k_114 : C_frobenius Tryz.prog nums := c_frobenius k_47 k_113 k_66 is_110
theorem k_115 : C_inverseP Tryz.prog nums := c_inverseP k_61 is_61
theorem k_116 : C_PartNumber Tryz.prog nums := c_PartNumber k_80 k_45 k_81 k_90 k_111 k_114 k_103 k_112 k_115 is_111
theorem k_117 : L_PartNumber Tryz.prog nums := l_PartNumber k_4 k_41 k_116 is_112
end Go.Proofs.YtckpoeaagbmlbaaGreat
