/- FnExactCrossCapsOf: called with whatever arguments of its types, the law returns true, and the arguments read as before. No condition. -/
import Derived.Test.YtckpoeaagbmlbaaRows
import Derived.Test.YtckpoeaagbmlbaaX1
import Derived.Test.YtckpoeaagbmlbaaX2
import Derived.Test.YtckpoeaagbmlbaaX3
import Derived.Test.YtckpoeaagbmlbaaX4
import Derived.Test.YtckpoeaagbmlbaaX5
import Derived.Test.YtckpoeaagbmlbaaM1
import Derived.Test.YtckpoeaagbmlbaaM2
import Derived.Test.YtckpoeaagbmlbaaK1
import Derived.Test.YtckpoeaagbmlbaaK2
import Derived.Test.YtckpoeaagbmlbaaK3
import Derived.Test.YtckpoeaagbmlbaaK4
import Derived.Test.YtckpoeaagbmlbaaK5
import Derived.Test.YtckpoeaagbmlbaaK6
import Derived.Test.YtckpoeaagbmlbaaK7
import Derived.Test.YtckpoeaagbmlbaaK8
import Derived.Test.YtckpoeaagbmlbaaK9
import Derived.Test.YtckpoeaagbmlbaaW1
import Derived.Test.YtckpoeaagbmlbaaW2
import Derived.Test.YtckpoeaagbmlbaaW3
import Derived.Test.YtckpoeaagbmlbaaW4
import Derived.Test.YtckpoeaagbmlbaaW5
import Derived.Test.YtckpoeaagbmlbaaW6
import Derived.Test.YtckpoeaagbmlbaaW7
import Derived.Test.YtckpoeaagbmlbaaW8
import Derived.Test.YtckpoeaagbmlbaaW9
import Derived.Test.YtckpoeaagbmlbaaW10
import Derived.Test.YtckpoeaagbmlbaaW11
import Derived.Test.YtckpoeaagbmlbaaW12
import Derived.Test.YtckpoeaagbmlbaaW13
import Derived.ProofKit
set_option linter.all false
namespace Go.Proofs.Ytckpoeaagbmlbaa
open Go Go.X Go.ChangeShapes Go.WideShapes Go.RowKit
def nums : FN := ⟨fun i => [31, 49, 29, 0, 60, 44, 30, 88, 89, 78, 64, 62, 61, 63, 46, 48, 79, 59, 25, 45, 26, 47, 0, 0, 0, 0, 28, 0, 0, 16, 50, 33, 15, 6, 0, 0, 53, 58, 42, 0, 41, 68, 40, 94, 90, 80, 81, 95, 91, 96, 92, 97, 86, 74, 70, 71, 72, 73, 75, 87, 76, 54, 100, 101, 99, 98, 20, 93, 84, 82, 83, 65, 35, 56, 55, 36, 0, 0, 0, 0, 85, 66, 0, 0, 77, 57, 38, 0, 0, 0, 23, 0, 0, 0, 0, 0, 0, 0, 0, 0, 0, 0, 0, 0, 0, 0, 0, 0, 0, 51, 67, 52, 69, 34, 37, 17, 19, 39, 22, 0, 43, 24, 32, 27, 12, 13, 14, 0, 4, 7, 9, 0, 18, 21, 8, 5, 10, 11, 3].getD i 0⟩
theorem is_0 : isFn Try.prog nums.laws_toByteA6 (ir_laws_toByteA6 nums) = true := by decide +kernel
theorem is_1 : isFn Try.prog nums.laws_toByteA6A6 (ir_laws_toByteA6A6 nums) = true := by decide +kernel
theorem is_2 : isFn Try.prog nums.laws_toByteA6A6A6 (ir_laws_toByteA6A6A6 nums) = true := by decide +kernel
theorem is_3 : isFn Try.prog nums.laws_toVector (ir_laws_toVector nums) = true := by decide +kernel
theorem is_4 : isFn Try.prog nums.laws_toAlgebra (ir_laws_toAlgebra nums) = true := by decide +kernel
theorem is_5 : isFn Try.prog nums.laws_szVectorS (ir_laws_szVectorS nums) = true := by decide +kernel
theorem is_6 : isFn Try.prog nums.laws_toVectorS (ir_laws_toVectorS nums) = true := by decide +kernel
theorem is_7 : isFn Try.prog nums.laws_eqVector (ir_laws_eqVector nums) = true := by decide +kernel
theorem is_8 : isFn Try.prog nums.laws_eqVectorS (ir_laws_eqVectorS nums) = true := by decide +kernel
theorem is_9 : isFn Try.prog nums.spec_l01Prime (ir_spec_l01Prime nums) = true := by decide +kernel
theorem is_10 : isFn Try.prog nums.spec_l01In (ir_spec_l01In nums) = true := by decide +kernel
theorem is_11 : isFn Try.prog nums.spec_l01Small (ir_spec_l01Small nums) = true := by decide +kernel
theorem is_12 : isFn Try.prog nums.spec_l01Shape (ir_spec_l01Shape nums) = true := by decide +kernel
theorem is_13 : isFn Try.prog nums.spec_l01Own (ir_spec_l01Own nums) = true := by decide +kernel
theorem is_14 : isFn Try.prog nums.spec_l01Lead (ir_spec_l01Lead nums) = true := by decide +kernel
theorem is_15 : isFn Try.prog nums.spec_l01Mod (ir_spec_l01Mod nums) = true := by decide +kernel
theorem is_16 : isFn Try.prog nums.spec_l01Less (ir_spec_l01Less nums) = true := by decide +kernel
theorem is_17 : isFn Try.prog nums.spec_l01Inverse (ir_spec_l01Inverse nums) = true := by decide +kernel
theorem is_18 : isFn Try.prog nums.spec_l01Echelon (ir_spec_l01Echelon nums) = true := by decide +kernel
theorem is_19 : isFn Try.prog nums.spec_l01Solve (ir_spec_l01Solve nums) = true := by decide +kernel
theorem is_20 : isFn Try.prog nums.spec_l01Basis (ir_spec_l01Basis nums) = true := by decide +kernel
theorem is_21 : isFn Try.prog nums.spec_l01Times (ir_spec_l01Times nums) = true := by decide +kernel
theorem is_22 : isFn Try.prog nums.spec_l01Find (ir_spec_l01Find nums) = true := by decide +kernel
theorem is_23 : isFn Try.prog nums.spec_l01Algebra (ir_spec_l01Algebra nums) = true := by decide +kernel
theorem is_24 : isFn Try.prog nums.spec_l01Vector (ir_spec_l01Vector nums) = true := by decide +kernel
theorem is_25 : isFn Try.prog nums.spec_l01Code (ir_spec_l01Code nums) = true := by decide +kernel
theorem is_26 : isFn Try.prog nums.spec_l08List (ir_spec_l08List nums) = true := by decide +kernel
theorem is_27 : isFn Try.prog nums.spec_l01Commutative (ir_spec_l01Commutative nums) = true := by decide +kernel
theorem is_28 : isFn Try.prog nums.spec_l01Form (ir_spec_l01Form nums) = true := by decide +kernel
theorem is_29 : isFn Try.prog nums.spec_l01Frobenius (ir_spec_l01Frobenius nums) = true := by decide +kernel
theorem is_30 : isFn Try.prog nums.spec_l01Add (ir_spec_l01Add nums) = true := by decide +kernel
theorem is_31 : isFn Try.prog nums.spec_l08Apply (ir_spec_l08Apply nums) = true := by decide +kernel
theorem is_32 : isFn Try.prog nums.spec_l08Star (ir_spec_l08Star nums) = true := by decide +kernel
theorem is_33 : isFn Try.prog nums.spec_l08Code (ir_spec_l08Code nums) = true := by decide +kernel
theorem is_34 : isFn Try.prog nums.spec_l02Table (ir_spec_l02Table nums) = true := by decide +kernel
theorem is_35 : isFn Try.prog nums.spec_l02Copairing (ir2_spec_l02Copairing nums) = true := by decide +kernel
theorem is_36 : isFn Try.prog nums.spec_l08Klein (ir_spec_l08Klein nums) = true := by decide +kernel
theorem is_37 : isFn Try.prog nums.spec_l08CrossCap (ir_spec_l08CrossCap nums) = true := by decide +kernel
theorem is_38 : isFn Try.prog nums.spec_CrossCapsOf (ir_spec_CrossCapsOf nums) = true := by decide +kernel
theorem is_39 : isFn Try.prog nums.slices_Index_Lint64_int64 (ir_slices_Index_Lint64_int64 nums) = true := by decide +kernel
theorem is_40 : isFn Try.prog nums.slices_Contains_Lint64_int64 (ir_slices_Contains_Lint64_int64 nums) = true := by decide +kernel
theorem is_41 : isFn Try.prog nums.impl_isPrime (ir_impl_isPrime nums) = true := by decide +kernel
theorem is_42 : isFn Try.prog nums.impl_in (ir_impl_in nums) = true := by decide +kernel
theorem is_43 : isFn Try.prog nums.impl_isVector (ir_impl_isVector nums) = true := by decide +kernel
theorem is_44 : isFn Try.prog nums.impl_Algebra_n (ir_impl_Algebra_n nums) = true := by decide +kernel
theorem is_45 : isFn Try.prog nums.impl_Algebra_tableOk (ir_impl_Algebra_tableOk nums) = true := by decide +kernel
theorem is_46 : isFn Try.prog nums.impl_basis (ir_impl_basis nums) = true := by decide +kernel
theorem is_47 : isFn Try.prog nums.impl_Algebra_times (ir_impl_Algebra_times nums) = true := by decide +kernel
theorem is_48 : isFn Try.prog nums.impl_Algebra_associative (ir_impl_Algebra_associative nums) = true := by decide +kernel
theorem is_49 : isFn Try.prog nums.impl_Algebra_behind (ir_impl_Algebra_behind nums) = true := by decide +kernel
theorem is_50 : isFn Try.prog nums.impl_Algebra_ahead (ir_impl_Algebra_ahead nums) = true := by decide +kernel
theorem is_51 : isFn Try.prog nums.impl_Algebra_behind_1 (ir_impl_Algebra_behind_1 nums) = true := by decide +kernel
theorem is_52 : isFn Try.prog nums.impl_Algebra_ahead_1 (ir_impl_Algebra_ahead_1 nums) = true := by decide +kernel
theorem is_53 : isFn Try.prog nums.impl_Algebra_equations (ir_impl_Algebra_equations nums) = true := by decide +kernel
theorem is_54 : isFn Try.prog nums.slices_Clone_LLint64_Lint64 (ir_slices_Clone_LLint64_Lint64 nums) = true := by decide +kernel
theorem is_55 : isFn Try.prog nums.slices_Delete_LLint64_Lint64 (ir_slices_Delete_LLint64_Lint64 nums) = true := by decide +kernel
theorem is_56 : isFn Try.prog nums.slices_IndexFunc_LLint64_Lint64 (ir_slices_IndexFunc_LLint64_Lint64 nums) = true := by decide +kernel
theorem is_57 : isFn Try.prog nums.impl_reduce_1 (ir_impl_reduce_1 nums) = true := by decide +kernel
theorem is_58 : isFn Try.prog nums.impl_power (ir_impl_power nums) = true := by decide +kernel
theorem is_59 : isFn Try.prog nums.impl_inverse (ir_impl_inverse nums) = true := by decide +kernel
theorem is_60 : isFn Try.prog nums.impl_scaled (ir_impl_scaled nums) = true := by decide +kernel
theorem is_61 : isFn Try.prog nums.impl_rest (ir_impl_rest nums) = true := by decide +kernel
theorem is_62 : isFn Try.prog nums.impl_lessTimes (ir_impl_lessTimes nums) = true := by decide +kernel
theorem is_63 : isFn Try.prog nums.impl_reduce (ir_impl_reduce nums) = true := by decide +kernel
theorem is_64 : isFn Try.prog nums.slices_IndexFunc_Lint64_int64 (ir_slices_IndexFunc_Lint64_int64 nums) = true := by decide +kernel
theorem is_65 : isFn Try.prog nums.impl_leader_1 (ir_impl_leader_1 nums) = true := by decide +kernel
theorem is_66 : isFn Try.prog nums.impl_leader (ir_impl_leader nums) = true := by decide +kernel
theorem is_67 : isFn Try.prog nums.impl_solve (ir_impl_solve nums) = true := by decide +kernel
theorem is_68 : isFn Try.prog nums.impl_vector (ir_impl_vector nums) = true := by decide +kernel
theorem is_69 : isFn Try.prog nums.impl_Algebra_solved (ir_impl_Algebra_solved nums) = true := by decide +kernel
theorem is_70 : isFn Try.prog nums.impl_Algebra_findUnit (ir_impl_Algebra_findUnit nums) = true := by decide +kernel
theorem is_71 : isFn Try.prog nums.impl_IsAlgebra (ir_impl_IsAlgebra nums) = true := by decide +kernel
theorem is_72 : isFn Try.prog nums.slices_IndexFunc_Limpl_Vector_impl_Vector (ir_slices_IndexFunc_Limpl_Vector_impl_Vector nums) = true := by decide +kernel
theorem is_73 : isFn Try.prog nums.slices_ContainsFunc_Limpl_Vector_impl_Vector (ir_slices_ContainsFunc_Limpl_Vector_impl_Vector nums) = true := by decide +kernel
theorem is_74 : isFn Try.prog nums.impl_valid_1 (ir_impl_valid_1 nums) = true := by decide +kernel
theorem is_75 : isFn Try.prog nums.impl_valid (ir_impl_valid nums) = true := by decide +kernel
theorem is_76 : isFn Try.prog nums.impl_Algebra_listOk_1 (ir_impl_Algebra_listOk_1 nums) = true := by decide +kernel
theorem is_77 : isFn Try.prog nums.impl_Algebra_listOk (ir_impl_Algebra_listOk nums) = true := by decide +kernel
theorem is_78 : isFn Try.prog nums.impl_listed (ir_impl_listed nums) = true := by decide +kernel
theorem is_79 : isFn Try.prog nums.impl_Algebra_commutative (ir_impl_Algebra_commutative nums) = true := by decide +kernel
theorem is_80 : isFn Try.prog nums.impl_Algebra_form (ir_impl_Algebra_form nums) = true := by decide +kernel
theorem is_81 : isFn Try.prog nums.impl_Algebra_table (ir_impl_Algebra_table nums) = true := by decide +kernel
theorem is_82 : isFn Try.prog nums.impl_Algebra_frobenius (ir_impl_Algebra_frobenius nums) = true := by decide +kernel
theorem is_83 : isFn Try.prog nums.impl_Algebra_add (ir_impl_Algebra_add nums) = true := by decide +kernel
theorem is_84 : isFn Try.prog nums.impl_Algebra_starred (ir_impl_Algebra_starred nums) = true := by decide +kernel
theorem is_85 : isFn Try.prog nums.impl_Algebra_isStar (ir_impl_Algebra_isStar nums) = true := by decide +kernel
theorem is_86 : isFn Try.prog nums.impl_stars (ir_impl_stars nums) = true := by decide +kernel
theorem is_87 : isFn Try.prog nums.impl_powerAll (ir_impl_powerAll nums) = true := by decide +kernel
theorem is_88 : isFn Try.prog nums.impl_unitNumber (ir_impl_unitNumber nums) = true := by decide +kernel
theorem is_89 : isFn Try.prog nums.impl_Algebra_copairing (ir_impl_Algebra_copairing nums) = true := by decide +kernel
theorem is_90 : isFn Try.prog nums.impl_Algebra_paired (ir_impl_Algebra_paired nums) = true := by decide +kernel
theorem is_91 : isFn Try.prog nums.impl_Algebra_klein_1 (ir_impl_Algebra_klein_1 nums) = true := by decide +kernel
theorem is_92 : isFn Try.prog nums.impl_Algebra_klein (ir_impl_Algebra_klein nums) = true := by decide +kernel
theorem is_93 : isFn Try.prog nums.impl_digits (ir_impl_digits nums) = true := by decide +kernel
theorem is_94 : isFn Try.prog nums.impl_Algebra_crossCap (ir_impl_Algebra_crossCap nums) = true := by decide +kernel
theorem is_95 : isFn Try.prog nums.impl_CrossCapsOf (ir_impl_CrossCapsOf nums) = true := by decide +kernel
theorem is_96 : isFn Try.prog nums.laws_markVectorS (ir_laws_markVectorS nums) = true := by decide +kernel
theorem is_97 : isFn Try.prog nums.laws_heldVectorS (ir_laws_heldVectorS nums) = true := by decide +kernel
theorem is_98 : isFn Try.prog nums.laws_FnExactCrossCapsOf (ir_laws_FnExactCrossCapsOf nums) = true := by decide +kernel
theorem k_0 : C_id Try.prog nums.laws_toByteA6 6 := c_toByteA6 is_0
theorem k_1 : C_id Try.prog nums.laws_toByteA6A6 36 := c_toByteA6A6 k_0 is_1
theorem k_2 : C_id Try.prog nums.laws_toByteA6A6A6 216 := c_toByteA6A6A6 k_1 is_2
theorem k_3 : C_id Try.prog nums.laws_toVector 6 := c_toVector is_3
theorem k_4 : C_toAlgebra Try.prog nums := c_toAlgebra k_2 k_3 is_4
theorem k_5 : C_szVS Try.prog nums := c_szVS is_5
theorem k_6 : C_toVSO Try.prog nums := c_toVSO k_3 is_6
theorem k_7 : C_eqVector Try.prog nums := c_eqVector' is_7
theorem k_8 : C_eqVS Try.prog nums := c_eqVS k_7 is_8
theorem k_9 : C_sPrime Try.prog nums := c_sPrime is_9
theorem k_10 : C_sIn Try.prog nums := c_sIn is_10
theorem k_11 : C_sSmall Try.prog nums := c_sSmall is_11
theorem k_12 : C_sShape Try.prog nums := c_sShape k_9 k_10 k_11 is_12
theorem k_13 : C_sOwn Try.prog nums := c_sOwn is_13
theorem k_14 : C_sLead Try.prog nums := c_sLead is_14
theorem k_15 : C_sMod Try.prog nums := c_sMod is_15
theorem k_16 : C_sLess Try.prog nums := c_sLess k_15 is_16
theorem k_17 : C_sLessO Try.prog nums := c_sLessO k_15 is_16
theorem k_18 : C_sInverse Try.prog nums := c_sInverse k_15 is_17
theorem k_19 : C_sEchelon Try.prog nums := c_sEchelon k_13 k_14 k_16 k_17 k_18 is_18
theorem k_20 : C_sSolve Try.prog nums := c_sSolve k_19 k_14 is_19
theorem k_21 : C_sBasis Try.prog nums := c_sBasis is_20
theorem k_22 : C_sTimes Try.prog nums := c_sTimes is_21
theorem k_23 : C_sFind Try.prog nums := c_sFind k_20 k_21 k_22 is_22
theorem k_24 : C_sAlgebra Try.prog nums := c_sAlgebra k_12 k_23 k_21 k_22 is_23
theorem k_25 : C_sVector Try.prog nums := c_sVector k_11 is_24
theorem k_26 : C_sCodeL Try.prog nums := c_sCodeL k_24 k_25 is_25
theorem k_27 : C_sList Try.prog nums := c_sList k_26 k_25 is_26
theorem k_28 : C_sCommutative Try.prog nums := c_sCommutative is_27
theorem k_29 : C_sForm Try.prog nums := c_sForm is_28
theorem k_30 : C_sFrobenius Try.prog nums := c_sFrobenius k_29 k_19 is_29
theorem k_31 : C_sAdd Try.prog nums := c_sAdd k_15 is_30
theorem k_32 : C_sApply Try.prog nums := c_sApply k_31 is_31
theorem k_33 : C_sStar Try.prog nums := c_sStar k_32 k_21 k_29 k_22 is_32
theorem k_34 : C_sStars Try.prog nums := c_sStars k_27 k_28 k_30 k_33 is_33
theorem k_35 : C_sTableN Try.prog nums := c_sTableN k_21 k_22 k_29 is_34
theorem k_36 : C_sCop Try.prog nums := c_sCop k_35 k_20 is_35
theorem k_37 : C_sKlein Try.prog nums := c_sKlein k_36 k_31 k_21 k_22 is_36
theorem k_38 : C_sCrossCap Try.prog nums := c_sCrossCap k_22 k_21 k_32 is_37
theorem k_39 : C_sCrossCapsOf Try.prog nums := c_sCrossCapsOf k_34 k_37 k_38 is_38
theorem k_40 : C_Index Try.prog nums := c_Index is_39
theorem k_41 : C_Contains Try.prog nums := c_Contains k_40 is_40
theorem k_42 : C_isPrime Try.prog nums := c_isPrime k_41 is_41
theorem k_43 : C_in Try.prog nums := c_in is_42
theorem k_44 : C_isVector Try.prog nums := c_isVector is_43
theorem k_45 : C_n Try.prog nums := c_n is_44
theorem k_46 : C_tableOk Try.prog nums := c_tableOk k_44 k_45 is_45
theorem k_47 : C_basis Try.prog nums := c_basis is_46
theorem k_48 : C_times Try.prog nums := c_times k_45 is_47
theorem k_49 : C_associative Try.prog nums := c_associative k_45 k_47 k_48 is_48
theorem k_50 : C_behind Try.prog nums := c_behind is_49
theorem k_51 : C_ahead Try.prog nums := c_ahead is_50
theorem k_52 : C_behind1 Try.prog nums := c_behind1 k_48 is_51
theorem k_53 : C_ahead1 Try.prog nums := c_ahead1 k_48 is_52
theorem k_54 : C_equations Try.prog nums := c_equations k_45 k_47 is_53
theorem k_55 : C_Clone Try.prog nums := c_Clone is_54
theorem k_56 : C_Delete Try.prog nums := c_Delete is_55
theorem k_57 : C_IdxRows Try.prog nums := c_IdxRows is_56
theorem k_58 : C_reduce1 Try.prog nums := c_reduce1 is_57
theorem k_59 : C_power Try.prog nums := c_power is_58
theorem k_60 : C_inverse Try.prog nums := c_inverse k_59 is_59
theorem k_61 : C_scaled Try.prog nums := c_scaled is_60
theorem k_62 : C_rest Try.prog nums := c_rest is_61
theorem k_63 : C_lessTimes Try.prog nums := c_lessTimes k_62 is_62
theorem k_64 : C_reduce Try.prog nums := c_reduce k_55 k_56 k_57 k_58 k_60 k_61 k_63 is_63
theorem k_65 : C_IdxInt Try.prog nums := c_IdxInt is_64
theorem k_66 : C_leader1 Try.prog nums := c_leader1 is_65
theorem k_67 : C_leader Try.prog nums := c_leader k_65 k_66 is_66
theorem k_68 : C_solve Try.prog nums := c_solve k_64 k_67 is_67
theorem k_69 : C_vector Try.prog nums := c_vector is_68
theorem k_70 : C_vectorE Try.prog nums := c_vectorE is_68
theorem k_71 : C_solved Try.prog nums := c_solved k_54 k_45 k_68 k_69 k_70 is_69
theorem k_72 : C_findUnit Try.prog nums := c_findUnit k_45 k_47 k_50 k_51 k_52 k_53 k_71 is_70
theorem k_73 : C_IsAlgebra Try.prog nums := c_IsAlgebra k_42 k_43 k_46 k_49 k_72 is_71
theorem k_74 : C_IdxVec Try.prog nums := c_IdxVec is_72
theorem k_75 : C_ContainsVec Try.prog nums := c_ContainsVec k_74 is_73
theorem k_76 : C_valid1 Try.prog nums := c_valid1 k_44 is_74
theorem k_77 : C_validL Try.prog nums := c_validL k_73 k_75 k_76 is_75
theorem k_78 : C_listOk1 Try.prog nums := c_listOk1 k_44 is_76
theorem k_79 : C_listOk Try.prog nums := c_listOk k_45 k_75 k_78 is_77
theorem k_80 : C_listed Try.prog nums := c_listed k_77 k_79 is_78
theorem k_81 : C_commutative Try.prog nums := c_commutative k_45 is_79
theorem k_82 : C_form Try.prog nums := c_form is_80
theorem k_83 : C_table Try.prog nums := c_table k_45 k_82 is_81
theorem k_84 : C_frobenius Try.prog nums := c_frobenius k_45 k_83 k_64 is_82
theorem k_85 : C_add Try.prog nums := c_add is_83
theorem k_86 : C_starredN Try.prog nums := c_starredN k_85 is_84
theorem k_87 : C_isStar Try.prog nums := c_isStar k_86 k_47 k_82 k_48 is_85
theorem k_88 : C_stars Try.prog nums := c_stars k_80 k_81 k_84 k_87 is_86
theorem k_89 : C_powerAll Try.prog nums := c_powerAll is_87
theorem k_90 : C_tableN Try.prog nums := c_tableN k_45 k_82 is_81
theorem k_91 : C_unitNumber Try.prog nums := c_unitNumber is_88
theorem k_92 : C_copairing Try.prog nums := c_copairing k_45 k_90 k_91 k_64 is_89
theorem k_93 : C_paired Try.prog nums := c_paired k_92 k_85 is_90
theorem k_94 : C_klein1 Try.prog nums := c_klein1 k_47 k_48 is_91
theorem k_95 : C_klein Try.prog nums := c_klein k_93 k_94 is_92
theorem k_96 : C_digits Try.prog nums := c_digits is_93
theorem k_97 : C_crossCap Try.prog nums := c_crossCap k_48 k_47 k_86 is_94
theorem k_98 : C_CrossCapsOf Try.prog nums := c_CrossCapsOf k_88 k_89 k_95 k_96 k_69 k_97 is_95
theorem k_99 : C_markVS Try.prog nums := c_markVS is_96
theorem k_100 : C_heldVS Try.prog nums := c_heldVS is_97
theorem k_101 : L_CrossCapsOf Try.prog nums := l_CrossCapsOf k_4 k_5 k_6 k_8 k_39 k_98 k_99 k_100 is_98
end Go.Proofs.Ytckpoeaagbmlbaa
