/- FnExactBoundaryNumber: called with whatever arguments of its types, the law returns true, and the arguments read as before. No condition. -/
import Derived.Test.YtehopmcogekcoaaRows
import Derived.Test.YtehopmcogekcoaaX1
import Derived.Test.YtehopmcogekcoaaX2
import Derived.Test.YtehopmcogekcoaaX3
import Derived.Test.YtehopmcogekcoaaX4
import Derived.Test.YtehopmcogekcoaaX5
import Derived.Test.YtehopmcogekcoaaM1
import Derived.Test.YtehopmcogekcoaaM2
import Derived.Test.YtehopmcogekcoaaM3
import Derived.Test.YtehopmcogekcoaaK1
import Derived.Test.YtehopmcogekcoaaK2
import Derived.Test.YtehopmcogekcoaaK3
import Derived.Test.YtehopmcogekcoaaK4
import Derived.Test.YtehopmcogekcoaaK5
import Derived.Test.YtehopmcogekcoaaK6
import Derived.Test.YtehopmcogekcoaaW1
import Derived.Test.YtehopmcogekcoaaW2
import Derived.Test.YtehopmcogekcoaaW3
import Derived.Test.YtehopmcogekcoaaW4
import Derived.Test.YtehopmcogekcoaaW5
import Derived.Test.YtehopmcogekcoaaW6
import Derived.Test.YtehopmcogekcoaaW7
import Derived.Test.YtehopmcogekcoaaW8
import Derived.Test.YtehopmcogekcoaaW9
import Derived.Test.YtehopmcogekcoaaW10
import Derived.Test.YtehopmcogekcoaaW11
import Derived.Test.YtehopmcogekcoaaW12
import Derived.ProofKit
set_option linter.all false
namespace Go.Proofs.Ytehopmcogekcoaa
open Go Go.X Go.ChangeShapes Go.WideShapes Go.RowKit
def nums : FN := ⟨fun i => [48, 118, 73, 49, 115, 71, 63, 83, 60, 132, 87, 140, 153, 154, 133, 117, 111, 97, 98, 64, 99, 116, 100, 62, 47, 30, 72, 31, 9, 11, 88, 39, 56, 24, 32, 10, 50, 81, 101, 51, 52, 77, 67, 149, 128, 90, 112, 157, 137, 158, 138, 159, 94, 43, 143, 144, 145, 146, 147, 164, 148, 123, 183, 184, 176, 160, 161, 139, 114, 162, 163, 141, 106, 66, 121, 107, 142, 119, 70, 74, 120, 75, 76, 33, 122, 80, 78, 79, 34, 12, 13, 3, 36, 15, 35, 14, 4, 21, 20, 6, 68, 69, 113, 65, 29, 28, 61, 110, 8].getD i 0⟩
theorem is_0 : isFn Try.prog nums.laws_toByteA6 (ir_laws_toByteA6 nums) = true := by decide +kernel
theorem is_1 : isFn Try.prog nums.laws_toByteA6A6 (ir_laws_toByteA6A6 nums) = true := by decide +kernel
theorem is_2 : isFn Try.prog nums.laws_toByteA6A6A6 (ir_laws_toByteA6A6A6 nums) = true := by decide +kernel
theorem is_3 : isFn Try.prog nums.laws_toVector (ir_laws_toVector nums) = true := by decide +kernel
theorem is_4 : isFn Try.prog nums.laws_toAlgebra (ir_laws_toAlgebra nums) = true := by decide +kernel
theorem is_5 : isFn Try.prog nums.laws_toVectorA6 (ir_laws_toVectorA6 nums) = true := by decide +kernel
theorem is_6 : isFn Try.prog nums.laws_toPair (ir_laws_toPair nums) = true := by decide +kernel
theorem is_7 : isFn Try.prog nums.spec_l01Prime (ir_spec_l01Prime nums) = true := by decide +kernel
theorem is_8 : isFn Try.prog nums.spec_l01In (ir_spec_l01In nums) = true := by decide +kernel
theorem is_9 : isFn Try.prog nums.spec_l01Small (ir_spec_l01Small nums) = true := by decide +kernel
theorem is_10 : isFn Try.prog nums.spec_l01Shape (ir_spec_l01Shape nums) = true := by decide +kernel
theorem is_11 : isFn Try.prog nums.spec_l01Own (ir_spec_l01Own nums) = true := by decide +kernel
theorem is_12 : isFn Try.prog nums.spec_l01Lead (ir_spec_l01Lead nums) = true := by decide +kernel
theorem is_13 : isFn Try.prog nums.spec_l01Mod (ir_spec_l01Mod nums) = true := by decide +kernel
theorem is_14 : isFn Try.prog nums.spec_l01Less (ir_spec_l01Less nums) = true := by decide +kernel
theorem is_15 : isFn Try.prog nums.spec_l01Inverse (ir_spec_l01Inverse nums) = true := by decide +kernel
theorem is_16 : isFn Try.prog nums.spec_l01Echelon (ir_spec_l01Echelon nums) = true := by decide +kernel
theorem is_17 : isFn Try.prog nums.spec_l01Solve (ir_spec_l01Solve nums) = true := by decide +kernel
theorem is_18 : isFn Try.prog nums.spec_l01Basis (ir_spec_l01Basis nums) = true := by decide +kernel
theorem is_19 : isFn Try.prog nums.spec_l01Times (ir_spec_l01Times nums) = true := by decide +kernel
theorem is_20 : isFn Try.prog nums.spec_l01Find (ir_spec_l01Find nums) = true := by decide +kernel
theorem is_21 : isFn Try.prog nums.spec_l01Algebra (ir_spec_l01Algebra nums) = true := by decide +kernel
theorem is_22 : isFn Try.prog nums.spec_l01Commutative (ir_spec_l01Commutative nums) = true := by decide +kernel
theorem is_23 : isFn Try.prog nums.spec_l01Form (ir_spec_l01Form nums) = true := by decide +kernel
theorem is_24 : isFn Try.prog nums.spec_l01Frobenius (ir_spec_l01Frobenius nums) = true := by decide +kernel
theorem is_25 : isFn Try.prog nums.spec_l02Table (ir_spec_l02Table nums) = true := by decide +kernel
theorem is_26 : isFn Try.prog nums.spec_l10Symmetric (ir_spec_l10Symmetric nums) = true := by decide +kernel
theorem is_27 : isFn Try.prog nums.spec_l01Vector (ir_spec_l01Vector nums) = true := by decide +kernel
theorem is_28 : isFn Try.prog nums.spec_l01Add (ir_spec_l01Add nums) = true := by decide +kernel
theorem is_29 : isFn Try.prog nums.spec_l10Zip (ir_spec_l10Zip nums) = true := by decide +kernel
theorem is_30 : isFn Try.prog nums.spec_l01Unit (ir_spec_l01Unit nums) = true := by decide +kernel
theorem is_31 : isFn Try.prog nums.spec_l10Is (ir_spec_l10Is nums) = true := by decide +kernel
theorem is_32 : isFn Try.prog nums.spec_l02Copairing (ir2_spec_l02Copairing nums) = true := by decide +kernel
theorem is_33 : isFn Try.prog nums.spec_l02Handle (ir_spec_l02Handle nums) = true := by decide +kernel
theorem is_34 : isFn Try.prog nums.spec_l02Power (ir_spec_l02Power nums) = true := by decide +kernel
theorem is_35 : isFn Try.prog nums.spec_l10Unzip (ir_spec_l10Unzip nums) = true := by decide +kernel
theorem is_36 : isFn Try.prog nums.spec_BoundaryNumber (ir_spec_BoundaryNumber nums) = true := by decide +kernel
theorem is_37 : isFn Try.prog nums.slices_Index_Lint64_int64 (ir_slices_Index_Lint64_int64 nums) = true := by decide +kernel
theorem is_38 : isFn Try.prog nums.slices_Contains_Lint64_int64 (ir_slices_Contains_Lint64_int64 nums) = true := by decide +kernel
theorem is_39 : isFn Try.prog nums.impl_isPrime (ir_impl_isPrime nums) = true := by decide +kernel
theorem is_40 : isFn Try.prog nums.impl_in (ir_impl_in nums) = true := by decide +kernel
theorem is_41 : isFn Try.prog nums.impl_isVector (ir_impl_isVector nums) = true := by decide +kernel
theorem is_42 : isFn Try.prog nums.impl_Algebra_n (ir_impl_Algebra_n nums) = true := by decide +kernel
theorem is_43 : isFn Try.prog nums.impl_Algebra_tableOk (ir_impl_Algebra_tableOk nums) = true := by decide +kernel
theorem is_44 : isFn Try.prog nums.impl_basis (ir_impl_basis nums) = true := by decide +kernel
theorem is_45 : isFn Try.prog nums.impl_Algebra_times (ir_impl_Algebra_times nums) = true := by decide +kernel
theorem is_46 : isFn Try.prog nums.impl_Algebra_associative (ir_impl_Algebra_associative nums) = true := by decide +kernel
theorem is_47 : isFn Try.prog nums.impl_Algebra_behind (ir_impl_Algebra_behind nums) = true := by decide +kernel
theorem is_48 : isFn Try.prog nums.impl_Algebra_ahead (ir_impl_Algebra_ahead nums) = true := by decide +kernel
theorem is_49 : isFn Try.prog nums.impl_Algebra_behind_1 (ir_impl_Algebra_behind_1 nums) = true := by decide +kernel
theorem is_50 : isFn Try.prog nums.impl_Algebra_ahead_1 (ir_impl_Algebra_ahead_1 nums) = true := by decide +kernel
theorem is_51 : isFn Try.prog nums.impl_Algebra_equations (ir_impl_Algebra_equations nums) = true := by decide +kernel
theorem is_52 : isFn Try.prog nums.slices_Clone_LLint64_Lint64 (ir_slices_Clone_LLint64_Lint64 nums) = true := by decide +kernel
theorem is_53 : isFn Try.prog nums.slices_Delete_LLint64_Lint64 (ir_slices_Delete_LLint64_Lint64 nums) = true := by decide +kernel
theorem is_54 : isFn Try.prog nums.slices_IndexFunc_LLint64_Lint64 (ir_slices_IndexFunc_LLint64_Lint64 nums) = true := by decide +kernel
theorem is_55 : isFn Try.prog nums.impl_reduce_1 (ir_impl_reduce_1 nums) = true := by decide +kernel
theorem is_56 : isFn Try.prog nums.impl_power (ir_impl_power nums) = true := by decide +kernel
theorem is_57 : isFn Try.prog nums.impl_inverse (ir_impl_inverse nums) = true := by decide +kernel
theorem is_58 : isFn Try.prog nums.impl_scaled (ir_impl_scaled nums) = true := by decide +kernel
theorem is_59 : isFn Try.prog nums.impl_rest (ir_impl_rest nums) = true := by decide +kernel
theorem is_60 : isFn Try.prog nums.impl_lessTimes (ir_impl_lessTimes nums) = true := by decide +kernel
theorem is_61 : isFn Try.prog nums.impl_reduce (ir_impl_reduce nums) = true := by decide +kernel
theorem is_62 : isFn Try.prog nums.slices_IndexFunc_Lint64_int64 (ir_slices_IndexFunc_Lint64_int64 nums) = true := by decide +kernel
theorem is_63 : isFn Try.prog nums.impl_leader_1 (ir_impl_leader_1 nums) = true := by decide +kernel
theorem is_64 : isFn Try.prog nums.impl_leader (ir_impl_leader nums) = true := by decide +kernel
theorem is_65 : isFn Try.prog nums.impl_solve (ir_impl_solve nums) = true := by decide +kernel
theorem is_66 : isFn Try.prog nums.impl_vector (ir_impl_vector nums) = true := by decide +kernel
theorem is_67 : isFn Try.prog nums.impl_Algebra_solved (ir_impl_Algebra_solved nums) = true := by decide +kernel
theorem is_68 : isFn Try.prog nums.impl_Algebra_findUnit (ir_impl_Algebra_findUnit nums) = true := by decide +kernel
theorem is_69 : isFn Try.prog nums.impl_IsAlgebra (ir_impl_IsAlgebra nums) = true := by decide +kernel
theorem is_70 : isFn Try.prog nums.impl_Algebra_commutative (ir_impl_Algebra_commutative nums) = true := by decide +kernel
theorem is_71 : isFn Try.prog nums.impl_Algebra_form (ir_impl_Algebra_form nums) = true := by decide +kernel
theorem is_72 : isFn Try.prog nums.impl_Algebra_table (ir_impl_Algebra_table nums) = true := by decide +kernel
theorem is_73 : isFn Try.prog nums.impl_Algebra_frobenius (ir_impl_Algebra_frobenius nums) = true := by decide +kernel
theorem is_74 : isFn Try.prog nums.impl_Algebra_symmetric (ir_impl_Algebra_symmetric nums) = true := by decide +kernel
theorem is_75 : isFn Try.prog nums.impl_Pair_algebrasOk (ir_impl_Pair_algebrasOk nums) = true := by decide +kernel
theorem is_76 : isFn Try.prog nums.impl_Algebra_add (ir_impl_Algebra_add nums) = true := by decide +kernel
theorem is_77 : isFn Try.prog nums.impl_Algebra_starred (ir_impl_Algebra_starred nums) = true := by decide +kernel
theorem is_78 : isFn Try.prog nums.impl_Pair_zip (ir_impl_Pair_zip nums) = true := by decide +kernel
theorem is_79 : isFn Try.prog nums.impl_Algebra_unit (ir_impl_Algebra_unit nums) = true := by decide +kernel
theorem is_80 : isFn Try.prog nums.impl_IsPair (ir_impl_IsPair nums) = true := by decide +kernel
theorem is_81 : isFn Try.prog nums.slices_IndexFunc_Limpl_Vector_impl_Vector (ir_slices_IndexFunc_Limpl_Vector_impl_Vector nums) = true := by decide +kernel
theorem is_82 : isFn Try.prog nums.slices_ContainsFunc_Limpl_Vector_impl_Vector (ir_slices_ContainsFunc_Limpl_Vector_impl_Vector nums) = true := by decide +kernel
theorem is_83 : isFn Try.prog nums.impl_opened (ir_impl_opened nums) = true := by decide +kernel
theorem is_84 : isFn Try.prog nums.impl_isGenus (ir_impl_isGenus nums) = true := by decide +kernel
theorem is_85 : isFn Try.prog nums.impl_unitNumber (ir_impl_unitNumber nums) = true := by decide +kernel
theorem is_86 : isFn Try.prog nums.impl_Algebra_copairing (ir_impl_Algebra_copairing nums) = true := by decide +kernel
theorem is_87 : isFn Try.prog nums.impl_Algebra_paired (ir_impl_Algebra_paired nums) = true := by decide +kernel
theorem is_88 : isFn Try.prog nums.impl_Algebra_handle_1 (ir_impl_Algebra_handle_1 nums) = true := by decide +kernel
theorem is_89 : isFn Try.prog nums.impl_Algebra_handle (ir_impl_Algebra_handle nums) = true := by decide +kernel
theorem is_90 : isFn Try.prog nums.impl_Algebra_power (ir_impl_Algebra_power nums) = true := by decide +kernel
theorem is_91 : isFn Try.prog nums.impl_Pair_unzip (ir_impl_Pair_unzip nums) = true := by decide +kernel
theorem is_92 : isFn Try.prog nums.impl_BoundaryNumber (ir_impl_BoundaryNumber nums) = true := by decide +kernel
theorem is_93 : isFn Try.prog nums.laws_FnExactBoundaryNumber (ir_laws_FnExactBoundaryNumber nums) = true := by decide +kernel
theorem k_0 : C_id Try.prog nums.laws_toByteA6 6 := c_toByteA6 is_0
theorem k_1 : C_id Try.prog nums.laws_toByteA6A6 36 := c_toByteA6A6 k_0 is_1
theorem k_2 : C_id Try.prog nums.laws_toByteA6A6A6 216 := c_toByteA6A6A6 k_1 is_2
theorem k_3 : C_id Try.prog nums.laws_toVector 6 := c_toVector is_3
theorem k_4 : C_toAlgebra Try.prog nums := c_toAlgebra k_2 k_3 is_4
theorem k_5 : C_id Try.prog nums.laws_toVectorA6 36 := c_toVectorA6 k_3 is_5
theorem k_6 : C_toPair Try.prog nums := c_toPair k_4 k_5 is_6
theorem k_7 : C_sPrime Try.prog nums := c_sPrime is_7
theorem k_8 : C_sIn Try.prog nums := c_sIn is_8
theorem k_9 : C_sSmall Try.prog nums := c_sSmall is_9
theorem k_10 : C_sShape Try.prog nums := c_sShape k_7 k_8 k_9 is_10
theorem k_11 : C_sOwn Try.prog nums := c_sOwn is_11
theorem k_12 : C_sLead Try.prog nums := c_sLead is_12
theorem k_13 : C_sMod Try.prog nums := c_sMod is_13
theorem k_14 : C_sLess Try.prog nums := c_sLess k_13 is_14
theorem k_15 : C_sLessO Try.prog nums := c_sLessO k_13 is_14
theorem k_16 : C_sInverse Try.prog nums := c_sInverse k_13 is_15
theorem k_17 : C_sEchelon Try.prog nums := c_sEchelon k_11 k_12 k_14 k_15 k_16 is_16
theorem k_18 : C_sSolve Try.prog nums := c_sSolve k_17 k_12 is_17
theorem k_19 : C_sBasis Try.prog nums := c_sBasis is_18
theorem k_20 : C_sTimes Try.prog nums := c_sTimes is_19
theorem k_21 : C_sFind Try.prog nums := c_sFind k_18 k_19 k_20 is_20
theorem k_22 : C_sAlgebra Try.prog nums := c_sAlgebra k_10 k_21 k_19 k_20 is_21
theorem k_23 : C_sCommutative Try.prog nums := c_sCommutative is_22
theorem k_24 : C_sForm Try.prog nums := c_sForm is_23
theorem k_25 : C_sFrobenius Try.prog nums := c_sFrobenius k_24 k_17 is_24
theorem k_26 : C_sTable Try.prog nums := c_sTable k_19 k_20 k_24 is_25
theorem k_27 : C_sSymmetric Try.prog nums := c_sSymmetric k_26 is_26
theorem k_28 : C_sVector Try.prog nums := c_sVector k_9 is_27
theorem k_29 : C_sAdd Try.prog nums := c_sAdd k_13 is_28
theorem k_30 : C_sZip Try.prog nums := c_sZip k_29 is_29
theorem k_31 : C_sUnit Try.prog nums := c_sUnit k_21 is_30
theorem k_32 : C_sIs Try.prog nums := c_sIs k_22 k_23 k_25 k_27 k_28 k_19 k_20 k_30 k_31 is_31
theorem k_33 : C_sTableN Try.prog nums := c_sTableN k_19 k_20 k_24 is_25
theorem k_34 : C_sCop Try.prog nums := c_sCop k_33 k_18 is_32
theorem k_35 : C_sHandle Try.prog nums := c_sHandle k_34 k_29 k_19 k_20 is_33
theorem k_36 : C_sHPower Try.prog nums := c_sHPower k_31 k_35 k_20 is_34
theorem k_37 : C_sUnzip Try.prog nums := c_sUnzip k_34 k_29 k_19 k_20 k_24 is_35
theorem k_38 : C_sBoundaryNumber Try.prog nums := c_sBoundaryNumber k_32 k_8 k_36 k_31 k_37 k_20 k_24 is_36
theorem k_39 : C_Index Try.prog nums := c_Index is_37
theorem k_40 : C_Contains Try.prog nums := c_Contains k_39 is_38
theorem k_41 : C_isPrime Try.prog nums := c_isPrime k_40 is_39
theorem k_42 : C_in Try.prog nums := c_in is_40
theorem k_43 : C_isVector Try.prog nums := c_isVector is_41
theorem k_44 : C_n Try.prog nums := c_n is_42
theorem k_45 : C_tableOk Try.prog nums := c_tableOk k_43 k_44 is_43
theorem k_46 : C_basis Try.prog nums := c_basis is_44
theorem k_47 : C_times Try.prog nums := c_times k_44 is_45
theorem k_48 : C_associative Try.prog nums := c_associative k_44 k_46 k_47 is_46
theorem k_49 : C_behind Try.prog nums := c_behind is_47
theorem k_50 : C_ahead Try.prog nums := c_ahead is_48
theorem k_51 : C_behind1 Try.prog nums := c_behind1 k_47 is_49
theorem k_52 : C_ahead1 Try.prog nums := c_ahead1 k_47 is_50
theorem k_53 : C_equations Try.prog nums := c_equations k_44 k_46 is_51
theorem k_54 : C_Clone Try.prog nums := c_Clone is_52
theorem k_55 : C_Delete Try.prog nums := c_Delete is_53
theorem k_56 : C_IdxRows Try.prog nums := c_IdxRows is_54
theorem k_57 : C_reduce1 Try.prog nums := c_reduce1 is_55
theorem k_58 : C_power Try.prog nums := c_power is_56
theorem k_59 : C_inverse Try.prog nums := c_inverse k_58 is_57
theorem k_60 : C_scaled Try.prog nums := c_scaled is_58
theorem k_61 : C_rest Try.prog nums := c_rest is_59
theorem k_62 : C_lessTimes Try.prog nums := c_lessTimes k_61 is_60
theorem k_63 : C_reduce Try.prog nums := c_reduce k_54 k_55 k_56 k_57 k_59 k_60 k_62 is_61
theorem k_64 : C_IdxInt Try.prog nums := c_IdxInt is_62
theorem k_65 : C_leader1 Try.prog nums := c_leader1 is_63
theorem k_66 : C_leader Try.prog nums := c_leader k_64 k_65 is_64
theorem k_67 : C_solve Try.prog nums := c_solve k_63 k_66 is_65
theorem k_68 : C_vector Try.prog nums := c_vector is_66
theorem k_69 : C_vectorE Try.prog nums := c_vectorE is_66
theorem k_70 : C_solved Try.prog nums := c_solved k_53 k_44 k_67 k_68 k_69 is_67
theorem k_71 : C_findUnit Try.prog nums := c_findUnit k_44 k_46 k_49 k_50 k_51 k_52 k_70 is_68
theorem k_72 : C_IsAlgebra Try.prog nums := c_IsAlgebra k_41 k_42 k_45 k_48 k_71 is_69
theorem k_73 : C_commutative Try.prog nums := c_commutative k_44 is_70
theorem k_74 : C_form Try.prog nums := c_form is_71
theorem k_75 : C_table Try.prog nums := c_table k_44 k_74 is_72
theorem k_76 : C_frobenius Try.prog nums := c_frobenius k_44 k_75 k_63 is_73
theorem k_77 : C_symmetric Try.prog nums := c_symmetric k_75 is_74
theorem k_78 : C_algebrasOk Try.prog nums := c_algebrasOk k_72 k_73 k_76 k_77 is_75
theorem k_79 : C_add Try.prog nums := c_add is_76
theorem k_80 : C_starred Try.prog nums := c_starred k_79 is_77
theorem k_81 : C_zip Try.prog nums := c_zip k_80 is_78
theorem k_82 : C_unit Try.prog nums := c_unit k_71 is_79
theorem k_83 : C_IsPair Try.prog nums := c_IsPair k_78 k_43 k_44 k_46 k_47 k_81 k_82 is_80
theorem k_84 : C_IdxVec Try.prog nums := c_IdxVec is_81
theorem k_85 : C_ContainsVec Try.prog nums := c_ContainsVec k_84 is_82
theorem k_86 : C_openedE Try.prog nums := c_openedE k_83 k_85 is_83
theorem k_87 : C_isGenus Try.prog nums := c_isGenus k_42 is_84
theorem k_88 : C_tableN Try.prog nums := c_tableN k_44 k_74 is_72
theorem k_89 : C_unitNumber Try.prog nums := c_unitNumber is_85
theorem k_90 : C_copairing Try.prog nums := c_copairing k_44 k_88 k_89 k_63 is_86
theorem k_91 : C_paired1 Try.prog nums := c_paired1 k_90 k_79 is_87
theorem k_92 : C_handle1 Try.prog nums := c_handle1 is_88
theorem k_93 : C_handle Try.prog nums := c_handle k_91 k_92 is_89
theorem k_94 : C_vpower Try.prog nums := c_vpower k_82 k_47 is_90
theorem k_95 : C_unzip Try.prog nums := c_unzip k_90 k_79 k_46 k_47 k_74 is_91
theorem k_96 : C_BoundaryNumber Try.prog nums := c_BoundaryNumber k_86 k_87 k_93 k_94 k_82 k_95 k_47 k_74 is_92
theorem k_97 : L_BoundaryNumber Try.prog nums := l_BoundaryNumber k_6 k_38 k_96 is_93
end Go.Proofs.Ytehopmcogekcoaa
