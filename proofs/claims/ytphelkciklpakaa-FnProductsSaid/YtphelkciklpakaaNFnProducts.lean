/- FnProducts: called with whatever arguments of its types, the law returns true, and the arguments read as before. No condition. -/
import Derived.Test.YtphelkciklpakaaRows
import Derived.Test.YtphelkciklpakaaX1
import Derived.Test.YtphelkciklpakaaX2
import Derived.Test.YtphelkciklpakaaX3
import Derived.Test.YtphelkciklpakaaX4
import Derived.Test.YtphelkciklpakaaX5
import Derived.Test.YtphelkciklpakaaM1
import Derived.Test.YtphelkciklpakaaK1
import Derived.Test.YtphelkciklpakaaK2
import Derived.Test.YtphelkciklpakaaK3
import Derived.Test.YtphelkciklpakaaK4
import Derived.Test.YtphelkciklpakaaK5
import Derived.Test.YtphelkciklpakaaK6
import Derived.Test.YtphelkciklpakaaK7
import Derived.Test.YtphelkciklpakaaK8
import Derived.Test.YtphelkciklpakaaK9
import Derived.Test.YtphelkciklpakaaK10
import Derived.Test.YtphelkciklpakaaK11
import Derived.Test.YtphelkciklpakaaK12
import Derived.Test.YtphelkciklpakaaK13
import Derived.Test.YtphelkciklpakaaK14
import Derived.Test.YtphelkciklpakaaK15
import Derived.Test.YtphelkciklpakaaK16
import Derived.Test.YtphelkciklpakaaK17
import Derived.Test.YtphelkciklpakaaK18
import Derived.Test.YtphelkciklpakaaK19
import Derived.Test.YtphelkciklpakaaK20
import Derived.Test.YtphelkciklpakaaK21
import Derived.Test.YtphelkciklpakaaW1
import Derived.Test.YtphelkciklpakaaW2
import Derived.Test.YtphelkciklpakaaW3
import Derived.Test.YtphelkciklpakaaW4
import Derived.Test.YtphelkciklpakaaW5
import Derived.Test.YtphelkciklpakaaW6
import Derived.Test.YtphelkciklpakaaW7
import Derived.Test.YtphelkciklpakaaW8
import Derived.Test.YtphelkciklpakaaW9
import Derived.Test.YtphelkciklpakaaW10
import Derived.Test.YtphelkciklpakaaW11
import Derived.Test.YtphelkciklpakaaW12
import Derived.Test.YtphelkciklpakaaW13
import Derived.Test.YtphelkciklpakaaW14
import Derived.Test.YtphelkciklpakaaW15
import Derived.Test.YtphelkciklpakaaW16
import Derived.Test.YtphelkciklpakaaW17
import Derived.Test.YtphelkciklpakaaW18
import Derived.Test.YtphelkciklpakaaW19
import Derived.Test.YtphelkciklpakaaW20
import Derived.Test.YtphelkciklpakaaW21
import Derived.Test.YtphelkciklpakaaW22
import Derived.Test.YtphelkciklpakaaW23
import Derived.ProofKit
set_option linter.all false
namespace Go.Proofs.Ytphelkciklpakaa
open Go Go.X Go.ChangeShapes Go.WideShapes Go.RowKit
def nums : FN := ⟨fun i => [65, 68, 47, 0, 72, 58, 31, 79, 44, 64, 91, 81, 89, 90, 80, 67, 66, 37, 0, 50, 0, 0, 0, 45, 0, 0, 0, 0, 0, 0, 0, 0, 0, 0, 0, 0, 57, 46, 0, 0, 60, 56, 29, 73, 59, 32, 33, 74, 61, 75, 62, 76, 102, 97, 93, 94, 95, 96, 98, 103, 99, 87, 100, 101, 88, 77, 78, 63, 36, 34, 35, 8, 0, 49, 0, 0, 0, 0, 38, 0, 71, 54, 0, 0, 0, 0, 0, 0, 0, 0, 0, 0, 0, 0, 0, 0, 0, 0, 0, 0, 39, 0, 0, 0, 0, 0, 0, 0, 0, 28, 55, 0, 0, 0, 0, 0, 0, 0, 0, 0, 30, 0, 0, 0, 0, 0, 0, 0, 0, 0, 0, 0, 0, 0, 0, 0, 0, 0, 0, 0, 0, 0, 0, 0, 0, 0, 0, 0, 0, 0, 0, 0, 0, 0, 0, 0, 0, 0, 0, 0, 0, 0, 0, 0, 0, 0, 0, 0, 0, 0, 0, 0, 0, 0, 0, 0, 0, 0, 0, 0, 0, 0, 0, 0, 0, 0, 0, 0, 0, 0, 0, 0, 0, 0, 0, 0, 0, 0, 0, 0, 0, 0, 0, 0, 0, 0, 0, 0, 0, 0, 0, 0, 0, 0, 0, 0, 0, 0, 0, 0, 0, 0, 0, 0, 0, 0, 0, 0, 0, 0, 0, 0, 0, 0, 0, 0, 0, 0, 0, 0, 0, 0, 0, 0, 0, 0, 0, 0, 0, 0, 0, 0, 0, 0, 0, 0, 0, 0, 0, 0, 0, 0, 0, 0, 0, 0, 0, 0, 0, 0, 0, 0, 0, 0, 0, 0, 0, 0, 0, 0, 0, 0, 0, 0, 0, 0, 0, 0, 0, 0, 0, 0, 0, 0, 0, 0, 0, 0, 0, 0, 0, 0, 0, 0, 0, 52, 25, 42, 43, 70, 27, 53, 26, 51, 48, 69, 82, 83, 84, 85, 86, 41, 5, 12, 15, 20, 22, 92, 4, 6, 7, 9, 10, 11, 13, 40, 14, 16, 18, 19, 21, 23, 24, 3, 17].getD i 0⟩
theorem is_0 : isFn Try.prog nums.laws_big (ir_laws_big nums) = true := by decide +kernel
theorem is_1 : isFn Try.prog nums.spec_l01From (ir_spec_l01From nums) = true := by decide +kernel
theorem is_2 : isFn Try.prog nums.spec_l01Next (ir_spec_l01Next nums) = true := by decide +kernel
theorem is_3 : isFn Try.prog nums.spec_l01Pick (ir_spec_l01Pick nums) = true := by decide +kernel
theorem is_4 : isFn Try.prog nums.spec_l01DrawPrime (ir_spec_l01DrawPrime nums) = true := by decide +kernel
theorem is_5 : isFn Try.prog nums.spec_l01DrawVector (ir_spec_l01DrawVector nums) = true := by decide +kernel
theorem is_6 : isFn Try.prog nums.spec_l01Names (ir_spec_l01Names nums) = true := by decide +kernel
theorem is_7 : isFn Try.prog nums.spec_l01Permuted (ir_spec_l01Permuted nums) = true := by decide +kernel
theorem is_8 : isFn Try.prog nums.spec_l01Named (ir_spec_l01Named nums) = true := by decide +kernel
theorem is_9 : isFn Try.prog nums.spec_l01Sum (ir_spec_l01Sum nums) = true := by decide +kernel
theorem is_10 : isFn Try.prog nums.spec_l01Tensor (ir_spec_l01Tensor nums) = true := by decide +kernel
theorem is_11 : isFn Try.prog nums.spec_l01Basis (ir_spec_l01Basis nums) = true := by decide +kernel
theorem is_12 : isFn Try.prog nums.spec_l01Mod (ir_spec_l01Mod nums) = true := by decide +kernel
theorem is_13 : isFn Try.prog nums.spec_l01Add (ir_spec_l01Add nums) = true := by decide +kernel
theorem is_14 : isFn Try.prog nums.spec_l01Times (ir_spec_l01Times nums) = true := by decide +kernel
theorem is_15 : isFn Try.prog nums.spec_l01Shear (ir_spec_l01Shear nums) = true := by decide +kernel
theorem is_16 : isFn Try.prog nums.spec_l01Own (ir_spec_l01Own nums) = true := by decide +kernel
theorem is_17 : isFn Try.prog nums.spec_l01Lead (ir_spec_l01Lead nums) = true := by decide +kernel
theorem is_18 : isFn Try.prog nums.spec_l01Less (ir_spec_l01Less nums) = true := by decide +kernel
theorem is_19 : isFn Try.prog nums.spec_l01Inverse (ir_spec_l01Inverse nums) = true := by decide +kernel
theorem is_20 : isFn Try.prog nums.spec_l01Echelon (ir_spec_l01Echelon nums) = true := by decide +kernel
theorem is_21 : isFn Try.prog nums.spec_l01Solve (ir_spec_l01Solve nums) = true := by decide +kernel
theorem is_22 : isFn Try.prog nums.spec_l01Find (ir_spec_l01Find nums) = true := by decide +kernel
theorem is_23 : isFn Try.prog nums.spec_l01Unit (ir_spec_l01Unit nums) = true := by decide +kernel
theorem is_24 : isFn Try.prog nums.spec_l01Back (ir_spec_l01Back nums) = true := by decide +kernel
theorem is_25 : isFn Try.prog nums.spec_l01Form (ir_spec_l01Form nums) = true := by decide +kernel
theorem is_26 : isFn Try.prog nums.spec_l01DrawOf (ir_spec_l01DrawOf nums) = true := by decide +kernel
theorem is_27 : isFn Try.prog nums.spec_l01Draw (ir_spec_l01Draw nums) = true := by decide +kernel
theorem is_28 : isFn Try.prog nums.spec_l01Bad (ir_spec_l01Bad nums) = true := by decide +kernel
theorem is_29 : isFn Try.prog nums.spec_l01With (ir_spec_l01With nums) = true := by decide +kernel
theorem is_30 : isFn Try.prog nums.spec_DrawMultiplyVectors (ir_spec_DrawMultiplyVectors nums) = true := by decide +kernel
theorem is_31 : isFn Try.prog nums.slices_Index_Lint64_int64 (ir_slices_Index_Lint64_int64 nums) = true := by decide +kernel
theorem is_32 : isFn Try.prog nums.slices_Contains_Lint64_int64 (ir_slices_Contains_Lint64_int64 nums) = true := by decide +kernel
theorem is_33 : isFn Try.prog nums.impl_isPrime (ir_impl_isPrime nums) = true := by decide +kernel
theorem is_34 : isFn Try.prog nums.impl_in (ir_impl_in nums) = true := by decide +kernel
theorem is_35 : isFn Try.prog nums.impl_isVector (ir_impl_isVector nums) = true := by decide +kernel
theorem is_36 : isFn Try.prog nums.impl_Algebra_n (ir_impl_Algebra_n nums) = true := by decide +kernel
theorem is_37 : isFn Try.prog nums.impl_Algebra_tableOk (ir_impl_Algebra_tableOk nums) = true := by decide +kernel
theorem is_38 : isFn Try.prog nums.impl_basis (ir_impl_basis nums) = true := by decide +kernel
theorem is_39 : isFn Try.prog nums.impl_Algebra_times (ir_impl_Algebra_times nums) = true := by decide +kernel
theorem is_40 : isFn Try.prog nums.impl_Algebra_associative (ir_impl_Algebra_associative nums) = true := by decide +kernel
theorem is_41 : isFn Try.prog nums.impl_Algebra_behind (ir_impl_Algebra_behind nums) = true := by decide +kernel
theorem is_42 : isFn Try.prog nums.impl_Algebra_ahead (ir_impl_Algebra_ahead nums) = true := by decide +kernel
theorem is_43 : isFn Try.prog nums.impl_Algebra_behind_1 (ir_impl_Algebra_behind_1 nums) = true := by decide +kernel
theorem is_44 : isFn Try.prog nums.impl_Algebra_ahead_1 (ir_impl_Algebra_ahead_1 nums) = true := by decide +kernel
theorem is_45 : isFn Try.prog nums.impl_Algebra_equations (ir_impl_Algebra_equations nums) = true := by decide +kernel
theorem is_46 : isFn Try.prog nums.slices_Clone_LLint64_Lint64 (ir_slices_Clone_LLint64_Lint64 nums) = true := by decide +kernel
theorem is_47 : isFn Try.prog nums.slices_Delete_LLint64_Lint64 (ir_slices_Delete_LLint64_Lint64 nums) = true := by decide +kernel
theorem is_48 : isFn Try.prog nums.slices_IndexFunc_LLint64_Lint64 (ir_slices_IndexFunc_LLint64_Lint64 nums) = true := by decide +kernel
theorem is_49 : isFn Try.prog nums.impl_reduce_1 (ir_impl_reduce_1 nums) = true := by decide +kernel
theorem is_50 : isFn Try.prog nums.impl_power (ir_impl_power nums) = true := by decide +kernel
theorem is_51 : isFn Try.prog nums.impl_inverse (ir_impl_inverse nums) = true := by decide +kernel
theorem is_52 : isFn Try.prog nums.impl_scaled (ir_impl_scaled nums) = true := by decide +kernel
theorem is_53 : isFn Try.prog nums.impl_rest (ir_impl_rest nums) = true := by decide +kernel
theorem is_54 : isFn Try.prog nums.impl_lessTimes (ir_impl_lessTimes nums) = true := by decide +kernel
theorem is_55 : isFn Try.prog nums.impl_reduce (ir_impl_reduce nums) = true := by decide +kernel
theorem is_56 : isFn Try.prog nums.slices_IndexFunc_Lint64_int64 (ir_slices_IndexFunc_Lint64_int64 nums) = true := by decide +kernel
theorem is_57 : isFn Try.prog nums.impl_leader_1 (ir_impl_leader_1 nums) = true := by decide +kernel
theorem is_58 : isFn Try.prog nums.impl_leader (ir_impl_leader nums) = true := by decide +kernel
theorem is_59 : isFn Try.prog nums.impl_solve (ir_impl_solve nums) = true := by decide +kernel
theorem is_60 : isFn Try.prog nums.impl_vector (ir_impl_vector nums) = true := by decide +kernel
theorem is_61 : isFn Try.prog nums.impl_Algebra_solved (ir_impl_Algebra_solved nums) = true := by decide +kernel
theorem is_62 : isFn Try.prog nums.impl_Algebra_findUnit (ir_impl_Algebra_findUnit nums) = true := by decide +kernel
theorem is_63 : isFn Try.prog nums.impl_IsAlgebra (ir_impl_IsAlgebra nums) = true := by decide +kernel
theorem is_64 : isFn Try.prog nums.slices_IndexFunc_Limpl_Vector_impl_Vector (ir_slices_IndexFunc_Limpl_Vector_impl_Vector nums) = true := by decide +kernel
theorem is_65 : isFn Try.prog nums.slices_ContainsFunc_Limpl_Vector_impl_Vector (ir_slices_ContainsFunc_Limpl_Vector_impl_Vector nums) = true := by decide +kernel
theorem is_66 : isFn Try.prog nums.impl_valid_1 (ir_impl_valid_1 nums) = true := by decide +kernel
theorem is_67 : isFn Try.prog nums.impl_valid (ir_impl_valid nums) = true := by decide +kernel
theorem is_68 : isFn Try.prog nums.impl_MultiplyVectors (ir_impl_MultiplyVectors nums) = true := by decide +kernel
theorem is_69 : isFn Try.prog nums.spec_l01Prime (ir_spec_l01Prime nums) = true := by decide +kernel
theorem is_70 : isFn Try.prog nums.spec_l01In (ir_spec_l01In nums) = true := by decide +kernel
theorem is_71 : isFn Try.prog nums.spec_l01Small (ir_spec_l01Small nums) = true := by decide +kernel
theorem is_72 : isFn Try.prog nums.spec_l01Shape (ir_spec_l01Shape nums) = true := by decide +kernel
theorem is_73 : isFn Try.prog nums.spec_l01Algebra (ir_spec_l01Algebra nums) = true := by decide +kernel
theorem is_74 : isFn Try.prog nums.spec_l01Vector (ir_spec_l01Vector nums) = true := by decide +kernel
theorem is_75 : isFn Try.prog nums.spec_l01Code (ir_spec_l01Code nums) = true := by decide +kernel
theorem is_76 : isFn Try.prog nums.spec_MultiplyVectors (ir_spec_MultiplyVectors nums) = true := by decide +kernel
theorem is_77 : isFn Try.prog nums.spec_IsAlgebra (ir_spec_IsAlgebra nums) = true := by decide +kernel
theorem is_78 : isFn Try.prog nums.impl_Algebra_unit (ir_impl_Algebra_unit nums) = true := by decide +kernel
theorem is_79 : isFn Try.prog nums.impl_UnitOf (ir_impl_UnitOf nums) = true := by decide +kernel
theorem is_80 : isFn Try.prog nums.spec_UnitOf (ir_spec_UnitOf nums) = true := by decide +kernel
theorem is_81 : isFn Try.prog nums.impl_Algebra_power (ir_impl_Algebra_power nums) = true := by decide +kernel
theorem is_82 : isFn Try.prog nums.impl_PowerVector (ir_impl_PowerVector nums) = true := by decide +kernel
theorem is_83 : isFn Try.prog nums.spec_PowerVector (ir_spec_PowerVector nums) = true := by decide +kernel
theorem is_84 : isFn Try.prog nums.spec_DrawInverseVector (ir_spec_DrawInverseVector nums) = true := by decide +kernel
theorem is_85 : isFn Try.prog nums.impl_Algebra_inverse (ir_impl_Algebra_inverse nums) = true := by decide +kernel
theorem is_86 : isFn Try.prog nums.impl_InverseVector (ir_impl_InverseVector nums) = true := by decide +kernel
theorem is_87 : isFn Try.prog nums.spec_InverseVector (ir_spec_InverseVector nums) = true := by decide +kernel
theorem is_88 : isFn Try.prog nums.spec_l01Near (ir_spec_l01Near nums) = true := by decide +kernel
theorem is_89 : isFn Try.prog nums.spec_DrawPowerVector (ir_spec_DrawPowerVector nums) = true := by decide +kernel
theorem is_90 : isFn Try.prog nums.spec_DrawAddVectors (ir_spec_DrawAddVectors nums) = true := by decide +kernel
theorem is_91 : isFn Try.prog nums.impl_Algebra_add (ir_impl_Algebra_add nums) = true := by decide +kernel
theorem is_92 : isFn Try.prog nums.impl_AddVectors (ir_impl_AddVectors nums) = true := by decide +kernel
theorem is_93 : isFn Try.prog nums.spec_AddVectors (ir_spec_AddVectors nums) = true := by decide +kernel
theorem is_94 : isFn Try.prog nums.spec_l01Spoil (ir_spec_l01Spoil nums) = true := by decide +kernel
theorem is_95 : isFn Try.prog nums.spec_DrawUnitOf (ir_spec_DrawUnitOf nums) = true := by decide +kernel
theorem is_96 : isFn Try.prog nums.spec_DrawFormOf (ir_spec_DrawFormOf nums) = true := by decide +kernel
theorem is_97 : isFn Try.prog nums.impl_Algebra_form (ir_impl_Algebra_form nums) = true := by decide +kernel
theorem is_98 : isFn Try.prog nums.impl_FormOf (ir_impl_FormOf nums) = true := by decide +kernel
theorem is_99 : isFn Try.prog nums.spec_FormOf (ir_spec_FormOf nums) = true := by decide +kernel
theorem is_100 : isFn Try.prog nums.laws_FnProducts (ir_laws_FnProducts nums) = true := by decide +kernel
theorem k_0 : C_big Try.prog nums := c_big is_0
theorem k_1 : C_from Try.prog nums := c_from is_1
theorem k_2 : C_next Try.prog nums := c_next is_2
theorem k_3 : C_pick Try.prog nums := c_pick k_2 is_3
theorem k_4 : C_drawPrime Try.prog nums := c_drawPrime k_3 is_4
theorem k_5 : C_drawVec Try.prog nums := c_drawVec k_2 is_5
theorem k_6 : C_names Try.prog nums := c_names is_6
theorem k_7 : C_perm Try.prog nums := c_perm is_7
theorem k_8 : C_named Try.prog nums := c_named k_7 is_8
theorem k_9 : C_sumA Try.prog nums := c_sumA is_9
theorem k_10 : C_tenA Try.prog nums := c_tenA is_10
theorem k_11 : C_sBasis Try.prog nums := c_sBasis is_11
theorem k_12 : C_sMod Try.prog nums := c_sMod is_12
theorem k_13 : C_sAdd Try.prog nums := c_sAdd k_12 is_13
theorem k_14 : C_sTimes Try.prog nums := c_sTimes is_14
theorem k_15 : C_sheA Try.prog nums := c_sheA k_11 k_13 k_14 k_12 is_15
theorem k_16 : C_sOwn Try.prog nums := c_sOwn is_16
theorem k_17 : C_sLead Try.prog nums := c_sLead is_17
theorem k_18 : C_sLess Try.prog nums := c_sLess k_12 is_18
theorem k_19 : C_sLessO Try.prog nums := c_sLessO k_12 is_18
theorem k_20 : C_sInverse Try.prog nums := c_sInverse k_12 is_19
theorem k_21 : C_sEchelon Try.prog nums := c_sEchelon k_16 k_17 k_18 k_19 k_20 is_20
theorem k_22 : C_sSolve Try.prog nums := c_sSolve k_21 k_17 is_21
theorem k_23 : C_sFind Try.prog nums := c_sFind k_22 k_11 k_14 is_22
theorem k_24 : C_sUnit Try.prog nums := c_sUnit k_23 is_23
theorem k_25 : C_sBack Try.prog nums := c_sBack k_22 k_24 k_11 k_14 is_24
theorem k_26 : C_sForm Try.prog nums := c_sForm is_25
theorem k_27 : C_drawOf Try.prog nums := c_drawOf k_2 k_3 k_5 k_6 k_8 k_9 k_10 k_15 k_25 k_11 k_14 k_26 is_26
theorem k_28 : C_draw Try.prog nums := c_draw k_4 k_3 k_27 is_27
theorem k_29 : C_bad Try.prog nums := c_bad k_2 k_3 is_28
theorem k_30 : C_with Try.prog nums := c_with k_2 k_28 k_5 k_29 is_29
theorem k_31 : C_DMul Try.prog nums := c_DMul k_1 k_30 k_5 is_30
theorem k_32 : C_Index Try.prog nums := c_Index is_31
theorem k_33 : C_Contains Try.prog nums := c_Contains k_32 is_32
theorem k_34 : C_isPrime Try.prog nums := c_isPrime k_33 is_33
theorem k_35 : C_in Try.prog nums := c_in is_34
theorem k_36 : C_isVector Try.prog nums := c_isVector is_35
theorem k_37 : C_n Try.prog nums := c_n is_36
theorem k_38 : C_tableOk Try.prog nums := c_tableOk k_36 k_37 is_37
theorem k_39 : C_basis Try.prog nums := c_basis is_38
theorem k_40 : C_times Try.prog nums := c_times k_37 is_39
theorem k_41 : C_associative Try.prog nums := c_associative k_37 k_39 k_40 is_40
theorem k_42 : C_behind Try.prog nums := c_behind is_41
theorem k_43 : C_ahead Try.prog nums := c_ahead is_42
theorem k_44 : C_behind1 Try.prog nums := c_behind1 k_40 is_43
theorem k_45 : C_ahead1 Try.prog nums := c_ahead1 k_40 is_44
theorem k_46 : C_equations Try.prog nums := c_equations k_37 k_39 is_45
theorem k_47 : C_Clone Try.prog nums := c_Clone is_46
theorem k_48 : C_Delete Try.prog nums := c_Delete is_47
theorem k_49 : C_IdxRows Try.prog nums := c_IdxRows is_48
theorem k_50 : C_reduce1 Try.prog nums := c_reduce1 is_49
theorem k_51 : C_power Try.prog nums := c_power is_50
theorem k_52 : C_inverse Try.prog nums := c_inverse k_51 is_51
theorem k_53 : C_scaled Try.prog nums := c_scaled is_52
theorem k_54 : C_rest Try.prog nums := c_rest is_53
theorem k_55 : C_lessTimes Try.prog nums := c_lessTimes k_54 is_54
theorem k_56 : C_reduce Try.prog nums := c_reduce k_47 k_48 k_49 k_50 k_52 k_53 k_55 is_55
theorem k_57 : C_IdxInt Try.prog nums := c_IdxInt is_56
theorem k_58 : C_leader1 Try.prog nums := c_leader1 is_57
theorem k_59 : C_leader Try.prog nums := c_leader k_57 k_58 is_58
theorem k_60 : C_solve Try.prog nums := c_solve k_56 k_59 is_59
theorem k_61 : C_vector Try.prog nums := c_vector is_60
theorem k_62 : C_vectorE Try.prog nums := c_vectorE is_60
theorem k_63 : C_solved Try.prog nums := c_solved k_46 k_37 k_60 k_61 k_62 is_61
theorem k_64 : C_findUnit Try.prog nums := c_findUnit k_37 k_39 k_42 k_43 k_44 k_45 k_63 is_62
theorem k_65 : C_IsAlgebra Try.prog nums := c_IsAlgebra k_34 k_35 k_38 k_41 k_64 is_63
theorem k_66 : C_IdxVec Try.prog nums := c_IdxVec is_64
theorem k_67 : C_ContainsVec Try.prog nums := c_ContainsVec k_66 is_65
theorem k_68 : C_valid1 Try.prog nums := c_valid1 k_36 is_66
theorem k_69 : C_validL Try.prog nums := c_validL k_65 k_67 k_68 is_67
theorem k_70 : C_Mul Try.prog nums := c_Mul k_69 k_40 is_68
theorem k_71 : C_sPrime Try.prog nums := c_sPrime is_69
theorem k_72 : C_sIn Try.prog nums := c_sIn is_70
theorem k_73 : C_sSmall Try.prog nums := c_sSmall is_71
theorem k_74 : C_sShape Try.prog nums := c_sShape k_71 k_72 k_73 is_72
theorem k_75 : C_sAlgebra Try.prog nums := c_sAlgebra k_74 k_23 k_11 k_14 is_73
theorem k_76 : C_sVector Try.prog nums := c_sVector k_73 is_74
theorem k_77 : C_sCodeL Try.prog nums := c_sCodeL k_75 k_76 is_75
theorem k_78 : C_sMul Try.prog nums := c_sMul k_77 k_14 is_76
theorem k_79 : C_sIsAlg Try.prog nums := c_sIsAlg k_75 is_77
theorem k_80 : C_validE Try.prog nums := c_validE k_69
theorem k_81 : C_unit Try.prog nums := c_unit k_64 is_78
theorem k_82 : C_UnitOf Try.prog nums := c_UnitOf k_80 k_81 is_79
theorem k_83 : C_sCodeE Try.prog nums := c_sCodeE k_77
theorem k_84 : C_sUnitOf Try.prog nums := c_sUnitOf k_83 k_24 is_80
theorem k_85 : C_vpower Try.prog nums := c_vpower k_81 k_40 is_81
theorem k_86 : C_PowerV Try.prog nums := c_PowerV k_69 k_35 k_85 is_82
theorem k_87 : C_sPowerV Try.prog nums := c_sPowerV k_77 k_72 k_24 k_14 is_83
theorem k_88 : C_DAV Try.prog nums.spec_DrawInverseVector := c_DInv k_1 k_30 is_84
theorem k_89 : C_ainv Try.prog nums := c_ainv k_81 k_42 k_43 k_44 k_45 k_63 is_85
theorem k_90 : C_Inv Try.prog nums := c_Inv k_69 k_89 is_86
theorem k_91 : C_sInv Try.prog nums := c_sInv k_77 k_25 is_87
theorem k_92 : C_near Try.prog nums := c_near k_2 k_3 is_88
theorem k_93 : C_DPow Try.prog nums := c_DPow k_1 k_30 k_92 k_3 is_89
theorem k_94 : C_DAdd Try.prog nums := c_DAdd k_1 k_30 k_5 k_92 is_90
theorem k_95 : C_add Try.prog nums := c_add is_91
theorem k_96 : C_Add Try.prog nums := c_Add k_69 k_35 k_95 is_92
theorem k_97 : C_sAddV Try.prog nums := c_sAddV k_77 k_72 k_13 is_93
theorem k_98 : C_spoil Try.prog nums := c_spoil k_28 k_29 is_94
theorem k_99 : C_DA Try.prog nums.spec_DrawUnitOf := c_DUnit k_1 k_98 is_95
theorem k_100 : C_DAV Try.prog nums.spec_DrawFormOf := c_DForm k_1 k_30 is_96
theorem k_101 : C_form Try.prog nums := c_form is_97
theorem k_102 : C_FormOf Try.prog nums := c_FormOf k_69 k_101 is_98
theorem k_103 : C_sFormOf Try.prog nums := c_sFormOf k_77 k_26 is_99
theorem k_104 : L_FnProducts Try.prog nums := l_FnProducts k_0 k_31 k_70 k_78 k_65 k_79 k_82 k_84 k_86 k_87 k_88 k_90 k_91 k_93 k_94 k_96 k_97 k_99 k_100 k_102 k_103 is_100
end Go.Proofs.Ytphelkciklpakaa
