/- FnExactAlgebraText: called with whatever arguments of its types, the law returns true, and the arguments read as before. No condition. -/
import Derived.Test.YtiefibobgdbcdaaDoorRows
import Derived.Test.YtiefibobgdbcdaaDoorX1
import Derived.Test.YtiefibobgdbcdaaDoorX2
import Derived.Test.YtiefibobgdbcdaaDoorX3
import Derived.Test.YtiefibobgdbcdaaDoorX4
import Derived.Test.YtiefibobgdbcdaaDoorX5
import Derived.Test.YtiefibobgdbcdaaDoorM1
import Derived.Test.YtiefibobgdbcdaaDoorK1
import Derived.Test.YtiefibobgdbcdaaDoorK2
import Derived.Test.YtiefibobgdbcdaaDoorK3
import Derived.Test.YtiefibobgdbcdaaDoorK4
import Derived.Test.YtiefibobgdbcdaaDoorK5
import Derived.Test.YtiefibobgdbcdaaDoorK6
import Derived.Test.YtiefibobgdbcdaaDoorK7
import Derived.Test.YtiefibobgdbcdaaDoorK8
import Derived.Test.YtiefibobgdbcdaaDoorK9
import Derived.Test.YtiefibobgdbcdaaDoorK10
import Derived.Test.YtiefibobgdbcdaaDoorK11
import Derived.Test.YtiefibobgdbcdaaDoorK12
import Derived.Test.YtiefibobgdbcdaaDoorK13
import Derived.Test.YtiefibobgdbcdaaDoorK14
import Derived.Test.YtiefibobgdbcdaaDoorK15
import Derived.Test.YtiefibobgdbcdaaDoorW1
import Derived.Test.YtiefibobgdbcdaaDoorW2
import Derived.Test.YtiefibobgdbcdaaDoorW3
import Derived.Test.YtiefibobgdbcdaaDoorW4
import Derived.Test.YtiefibobgdbcdaaDoorW5
import Derived.Test.YtiefibobgdbcdaaDoorW6
import Derived.Test.YtiefibobgdbcdaaDoorW7
import Derived.Test.YtiefibobgdbcdaaDoorW8
import Derived.ProofKit
set_option linter.all false
namespace Go.Proofs.YtiefibobgdbcdaaDoor
open Go Go.X Go.ChangeShapes Go.WideShapes Go.RowKit
def nums : FN := ⟨fun i => [28, 79, 0, 0, 30, 14, 27, 42, 43, 26, 74, 58, 72, 73, 57, 44, 29, 13, 0, 0, 0, 0, 0, 0, 0, 0, 0, 0, 0, 10, 31, 17, 9, 5, 0, 0, 22, 0, 0, 0, 47, 21, 46, 59, 45, 32, 33, 60, 48, 61, 49, 62, 89, 84, 80, 81, 82, 83, 85, 90, 86, 75, 87, 88, 76, 63, 64, 50, 36, 34, 35, 18, 0, 0, 0, 0, 0, 0, 0, 0, 37, 19, 0, 0, 0, 0, 0, 0, 0, 0, 0, 0, 0, 0, 0, 0, 0, 0, 0, 0, 0, 0, 0, 0, 0, 0, 0, 0, 0, 11, 20, 0, 0, 0, 0, 0, 0, 0, 0, 0, 7, 0, 0, 0, 0, 0, 0, 0, 0, 0, 0, 0, 0, 0, 0, 0, 0, 0, 0, 0, 0, 0, 0, 0, 0, 0, 0, 0, 0, 0, 0, 0, 0, 0, 0, 0, 0, 0, 0, 0, 0, 0, 0, 0, 0, 0, 0, 0, 0, 0, 0, 0, 0, 0, 0, 0, 0, 0, 0, 0, 0, 0, 0, 0, 0, 0, 0, 0, 0, 0, 0, 0, 0, 0, 0, 0, 0, 0, 0, 0, 0, 0, 0, 0, 0, 0, 0, 0, 0, 0, 0, 0, 0, 0, 0, 0, 0, 0, 0, 0, 0, 0, 0, 0, 0, 0, 0, 0, 0, 0, 0, 0, 0, 0, 0, 0, 0, 0, 0, 0, 0, 0, 0, 0, 0, 0, 0, 0, 0, 0, 0, 0, 0, 0, 0, 0, 0, 0, 0, 0, 0, 0, 0, 0, 0, 0, 0, 0, 0, 0, 24, 38, 51, 52, 53, 54, 23, 12, 25, 15, 16, 8, 6, 4, 3].getD i 0⟩
theorem is_0 : isFn Tryd.prog nums.laws_toByteA6 (ir_laws_toByteA6 nums) = true := by decide +kernel
theorem is_1 : isFn Tryd.prog nums.laws_toByteA6A6 (ir_laws_toByteA6A6 nums) = true := by decide +kernel
theorem is_2 : isFn Tryd.prog nums.laws_toByteA6A6A6 (ir_laws_toByteA6A6A6 nums) = true := by decide +kernel
theorem is_3 : isFn Tryd.prog nums.laws_toVector (ir_laws_toVector nums) = true := by decide +kernel
theorem is_4 : isFn Tryd.prog nums.laws_toAlgebra (ir_laws_toAlgebra nums) = true := by decide +kernel
theorem is_5 : isFn Tryd.prog nums.spec_l01Prime (ir_spec_l01Prime nums) = true := by decide +kernel
theorem is_6 : isFn Tryd.prog nums.spec_l01In (ir_spec_l01In nums) = true := by decide +kernel
theorem is_7 : isFn Tryd.prog nums.spec_l01Small (ir_spec_l01Small nums) = true := by decide +kernel
theorem is_8 : isFn Tryd.prog nums.spec_l01Shape (ir_spec_l01Shape nums) = true := by decide +kernel
theorem is_9 : isFn Tryd.prog nums.spec_l01Own (ir_spec_l01Own nums) = true := by decide +kernel
theorem is_10 : isFn Tryd.prog nums.spec_l01Lead (ir_spec_l01Lead nums) = true := by decide +kernel
theorem is_11 : isFn Tryd.prog nums.spec_l01Mod (ir_spec_l01Mod nums) = true := by decide +kernel
theorem is_12 : isFn Tryd.prog nums.spec_l01Less (ir_spec_l01Less nums) = true := by decide +kernel
theorem is_13 : isFn Tryd.prog nums.spec_l01Inverse (ir_spec_l01Inverse nums) = true := by decide +kernel
theorem is_14 : isFn Tryd.prog nums.spec_l01Echelon (ir_spec_l01Echelon nums) = true := by decide +kernel
theorem is_15 : isFn Tryd.prog nums.spec_l01Solve (ir_spec_l01Solve nums) = true := by decide +kernel
theorem is_16 : isFn Tryd.prog nums.spec_l01Basis (ir_spec_l01Basis nums) = true := by decide +kernel
theorem is_17 : isFn Tryd.prog nums.spec_l01Times (ir_spec_l01Times nums) = true := by decide +kernel
theorem is_18 : isFn Tryd.prog nums.spec_l01Find (ir_spec_l01Find nums) = true := by decide +kernel
theorem is_19 : isFn Tryd.prog nums.spec_l01Algebra (ir_spec_l01Algebra nums) = true := by decide +kernel
theorem is_20 : isFn Tryd.prog nums.spec_l01Vector (ir_spec_l01Vector nums) = true := by decide +kernel
theorem is_21 : isFn Tryd.prog nums.spec_l01Code (ir_spec_l01Code nums) = true := by decide +kernel
theorem is_22 : isFn Tryd.prog nums.spec_l01Dec (ir_spec_l01Dec nums) = true := by decide +kernel
theorem is_23 : isFn Tryd.prog nums.spec_l01VectorText (ir_spec_l01VectorText nums) = true := by decide +kernel
theorem is_24 : isFn Tryd.prog nums.spec_l01Text (ir_spec_l01Text nums) = true := by decide +kernel
theorem is_25 : isFn Tryd.prog nums.spec_AlgebraText (ir_spec_AlgebraText nums) = true := by decide +kernel
theorem is_26 : isFn Tryd.prog nums.slices_Index_Lint64_int64 (ir_slices_Index_Lint64_int64 nums) = true := by decide +kernel
theorem is_27 : isFn Tryd.prog nums.slices_Contains_Lint64_int64 (ir_slices_Contains_Lint64_int64 nums) = true := by decide +kernel
theorem is_28 : isFn Tryd.prog nums.impl_isPrime (ir_impl_isPrime nums) = true := by decide +kernel
theorem is_29 : isFn Tryd.prog nums.impl_in (ir_impl_in nums) = true := by decide +kernel
theorem is_30 : isFn Tryd.prog nums.impl_isVector (ir_impl_isVector nums) = true := by decide +kernel
theorem is_31 : isFn Tryd.prog nums.impl_Algebra_n (ir_impl_Algebra_n nums) = true := by decide +kernel
theorem is_32 : isFn Tryd.prog nums.impl_Algebra_tableOk (ir_impl_Algebra_tableOk nums) = true := by decide +kernel
theorem is_33 : isFn Tryd.prog nums.impl_basis (ir_impl_basis nums) = true := by decide +kernel
theorem is_34 : isFn Tryd.prog nums.impl_Algebra_times (ir_impl_Algebra_times nums) = true := by decide +kernel
theorem is_35 : isFn Tryd.prog nums.impl_Algebra_associative (ir_impl_Algebra_associative nums) = true := by decide +kernel
theorem is_36 : isFn Tryd.prog nums.impl_Algebra_behind (ir_impl_Algebra_behind nums) = true := by decide +kernel
theorem is_37 : isFn Tryd.prog nums.impl_Algebra_ahead (ir_impl_Algebra_ahead nums) = true := by decide +kernel
theorem is_38 : isFn Tryd.prog nums.impl_Algebra_behind_1 (ir_impl_Algebra_behind_1 nums) = true := by decide +kernel
theorem is_39 : isFn Tryd.prog nums.impl_Algebra_ahead_1 (ir_impl_Algebra_ahead_1 nums) = true := by decide +kernel
theorem is_40 : isFn Tryd.prog nums.impl_Algebra_equations (ir_impl_Algebra_equations nums) = true := by decide +kernel
theorem is_41 : isFn Tryd.prog nums.slices_Clone_LLint64_Lint64 (ir_slices_Clone_LLint64_Lint64 nums) = true := by decide +kernel
theorem is_42 : isFn Tryd.prog nums.slices_Delete_LLint64_Lint64 (ir_slices_Delete_LLint64_Lint64 nums) = true := by decide +kernel
theorem is_43 : isFn Tryd.prog nums.slices_IndexFunc_LLint64_Lint64 (ir_slices_IndexFunc_LLint64_Lint64 nums) = true := by decide +kernel
theorem is_44 : isFn Tryd.prog nums.impl_reduce_1 (ir_impl_reduce_1 nums) = true := by decide +kernel
theorem is_45 : isFn Tryd.prog nums.impl_power (ir_impl_power nums) = true := by decide +kernel
theorem is_46 : isFn Tryd.prog nums.impl_inverse (ir_impl_inverse nums) = true := by decide +kernel
theorem is_47 : isFn Tryd.prog nums.impl_scaled (ir_impl_scaled nums) = true := by decide +kernel
theorem is_48 : isFn Tryd.prog nums.impl_rest (ir_impl_rest nums) = true := by decide +kernel
theorem is_49 : isFn Tryd.prog nums.impl_lessTimes (ir_impl_lessTimes nums) = true := by decide +kernel
theorem is_50 : isFn Tryd.prog nums.impl_reduce (ir_impl_reduce nums) = true := by decide +kernel
theorem is_51 : isFn Tryd.prog nums.slices_IndexFunc_Lint64_int64 (ir_slices_IndexFunc_Lint64_int64 nums) = true := by decide +kernel
theorem is_52 : isFn Tryd.prog nums.impl_leader_1 (ir_impl_leader_1 nums) = true := by decide +kernel
theorem is_53 : isFn Tryd.prog nums.impl_leader (ir_impl_leader nums) = true := by decide +kernel
theorem is_54 : isFn Tryd.prog nums.impl_solve (ir_impl_solve nums) = true := by decide +kernel
theorem is_55 : isFn Tryd.prog nums.impl_vector (ir_impl_vector nums) = true := by decide +kernel
theorem is_56 : isFn Tryd.prog nums.impl_Algebra_solved (ir_impl_Algebra_solved nums) = true := by decide +kernel
theorem is_57 : isFn Tryd.prog nums.impl_Algebra_findUnit (ir_impl_Algebra_findUnit nums) = true := by decide +kernel
theorem is_58 : isFn Tryd.prog nums.impl_IsAlgebra (ir_impl_IsAlgebra nums) = true := by decide +kernel
theorem is_59 : isFn Tryd.prog nums.slices_IndexFunc_Limpl_Vector_impl_Vector (ir_slices_IndexFunc_Limpl_Vector_impl_Vector nums) = true := by decide +kernel
theorem is_60 : isFn Tryd.prog nums.slices_ContainsFunc_Limpl_Vector_impl_Vector (ir_slices_ContainsFunc_Limpl_Vector_impl_Vector nums) = true := by decide +kernel
theorem is_61 : isFn Tryd.prog nums.impl_valid_1 (ir_impl_valid_1 nums) = true := by decide +kernel
theorem is_62 : isFn Tryd.prog nums.impl_valid (ir_impl_valid nums) = true := by decide +kernel
theorem is_63 : isFn Tryd.prog nums.impl_vectorText (ir_impl_vectorText nums) = true := by decide +kernel
theorem is_64 : isFn Tryd.prog nums.internal_strconv_small (ir_internal_strconv_small nums) = true := by decide +kernel
theorem is_65 : isFn Tryd.prog nums.internal_strconv_FormatInt (ir_internal_strconv_FormatInt nums) = true := by decide +kernel
theorem is_66 : isFn Tryd.prog nums.strconv_FormatInt (ir_strconv_FormatInt nums) = true := by decide +kernel
theorem is_67 : isFn Tryd.prog nums.impl_Algebra_text (ir_impl_Algebra_text nums) = true := by decide +kernel
theorem is_68 : isFn Tryd.prog nums.impl_AlgebraText (ir_impl_AlgebraText nums) = true := by decide +kernel
theorem is_69 : isFn Tryd.prog nums.laws_FnExactAlgebraText (ir_laws_FnExactAlgebraText nums) = true := by decide +kernel
def joinRen : Go.Shelf.Ren := ⟨fun | 156 => 25 | 165 => 39 | 166 => 40 | 169 => 41 | 240 => 55 | 241 => 56 | 276 => 70 | 277 => 71 | n => n, fun | 31 => 49 | 9 => 9 | 3 => 3 | 4 => 4 | 0 => 0 | 20 => 20 | 72 => 68 | 76 => 72 | 70 => 66 | 37 => 59 | 75 => 71 | 127 => 92 | 164 => 108 | 5 => 5 | 80 => 38 | n => n, fun n => n⟩
theorem joinLays : Go.Proofs.Lays.n156 Tryd.prog joinRen where
  mixed := by kernel_rfl
  f156 := Tryd.func25.trans (congrArg some (by kernel_rfl))
  f165 := Tryd.func39.trans (congrArg some (by kernel_rfl))
  f166 := Tryd.func40.trans (congrArg some (by kernel_rfl))
  f169 := Tryd.func41.trans (congrArg some (by kernel_rfl))
  f240 := Tryd.func55.trans (congrArg some (by kernel_rfl))
  f241 := Tryd.func56.trans (congrArg some (by kernel_rfl))
  f276 := Tryd.func70.trans (congrArg some (by kernel_rfl))
  f277 := Tryd.func71.trans (congrArg some (by kernel_rfl))
  t0 := Tryd.underlying0
  a0 := Tryd.isAgg0
  z0 := Tryd.sizeOf0
  v0 := Tryd.zeroValue0
  t3 := Tryd.underlying3
  a3 := Tryd.isAgg3
  z3 := Tryd.sizeOf3
  v3 := Tryd.zeroValue3
  t4 := Tryd.underlying4
  a4 := Tryd.isAgg4
  z4 := Tryd.sizeOf4
  v4 := Tryd.zeroValue4
  t9 := Tryd.underlying9
  a9 := Tryd.isAgg9
  z9 := Tryd.sizeOf9
  v9 := Tryd.zeroValue9
  t20 := Tryd.underlying20
  a20 := Tryd.isAgg20
  z20 := Tryd.sizeOf20
  v20 := Tryd.zeroValue20
  t31 := Tryd.underlying49
  a31 := Tryd.isAgg49
  z31 := Tryd.sizeOf49
  v31 := Tryd.zeroValue49
  t37 := Tryd.underlying59
  a37 := Tryd.isAgg59
  z37 := Tryd.sizeOf59
  v37 := Tryd.zeroValue59
  t70 := Tryd.underlying66
  a70 := Tryd.isAgg66
  z70 := Tryd.sizeOf66
  v70 := Tryd.zeroValue66
  t72 := Tryd.underlying68
  a72 := Tryd.isAgg68
  z72 := Tryd.sizeOf68
  v72 := Tryd.zeroValue68
  t75 := Tryd.underlying71
  a75 := Tryd.isAgg71
  z75 := Tryd.sizeOf71
  v75 := Tryd.zeroValue71
  t76 := Tryd.underlying72
  a76 := Tryd.isAgg72
  z76 := Tryd.sizeOf72
  v76 := Tryd.zeroValue72
  t127 := Tryd.underlying92
  a127 := Tryd.isAgg92
  z127 := Tryd.sizeOf92
  v127 := Tryd.zeroValue92
  t164 := Tryd.underlying108
  a164 := Tryd.isAgg108
  z164 := Tryd.sizeOf108
  v164 := Tryd.zeroValue108
theorem joinExtra : Go.Proofs.Builder.Extra Tryd.prog joinRen where
  sizeBuilder := by kernel_rfl
  liesBuilder := by kernel_rfl
  t5 := Tryd.underlying5
  a5 := Tryd.isAgg5
  z5 := Tryd.sizeOf5
  v5 := Tryd.zeroValue5
  infoByte := by kernel_rfl
  cellsByte := by kernel_rfl
  sizeByte := by kernel_rfl
  neB5 := by decide
theorem joinAt : JoinAt Tryd.prog nums.strings_Join := ⟨joinRen, joinLays, joinExtra, by kernel_rfl⟩
theorem k_0 : C_id Tryd.prog nums.laws_toByteA6 6 := c_toByteA6 is_0
theorem k_1 : C_id Tryd.prog nums.laws_toByteA6A6 36 := c_toByteA6A6 k_0 is_1
theorem k_2 : C_id Tryd.prog nums.laws_toByteA6A6A6 216 := c_toByteA6A6A6 k_1 is_2
theorem k_3 : C_id Tryd.prog nums.laws_toVector 6 := c_toVector is_3
theorem k_4 : C_toAlgebra Tryd.prog nums := c_toAlgebra k_2 k_3 is_4
theorem k_5 : C_sPrime Tryd.prog nums := c_sPrime is_5
theorem k_6 : C_sIn Tryd.prog nums := c_sIn is_6
theorem k_7 : C_sSmall Tryd.prog nums := c_sSmall is_7
theorem k_8 : C_sShape Tryd.prog nums := c_sShape k_5 k_6 k_7 is_8
theorem k_9 : C_sOwn Tryd.prog nums := c_sOwn is_9
theorem k_10 : C_sLead Tryd.prog nums := c_sLead is_10
theorem k_11 : C_sMod Tryd.prog nums := c_sMod is_11
theorem k_12 : C_sLess Tryd.prog nums := c_sLess k_11 is_12
theorem k_13 : C_sLessO Tryd.prog nums := c_sLessO k_11 is_12
theorem k_14 : C_sInverse Tryd.prog nums := c_sInverse k_11 is_13
theorem k_15 : C_sEchelon Tryd.prog nums := c_sEchelon k_9 k_10 k_12 k_13 k_14 is_14
theorem k_16 : C_sSolve Tryd.prog nums := c_sSolve k_15 k_10 is_15
theorem k_17 : C_sBasis Tryd.prog nums := c_sBasis is_16
theorem k_18 : C_sTimes Tryd.prog nums := c_sTimes is_17
theorem k_19 : C_sFind Tryd.prog nums := c_sFind k_16 k_17 k_18 is_18
theorem k_20 : C_sAlgebra Tryd.prog nums := c_sAlgebra k_8 k_19 k_17 k_18 is_19
theorem k_21 : C_sVector Tryd.prog nums := c_sVector k_7 is_20
theorem k_22 : C_sCodeL Tryd.prog nums := c_sCodeL k_20 k_21 is_21
theorem k_23 : C_sCodeE Tryd.prog nums := c_sCodeE k_22
theorem k_24 : C_sDec1 Tryd.prog nums := c_sDec1 is_22
theorem k_25 : C_sDec Tryd.prog nums := c_sDec k_24 is_22
theorem k_26 : C_sVText Tryd.prog nums := c_sVText is_23
theorem k_27 : C_sText Tryd.prog nums := c_sText k_25 k_26 is_24
theorem k_28 : C_sAlgText Tryd.prog nums := c_sAlgText k_23 k_27 is_25
theorem k_29 : C_Index Tryd.prog nums := c_Index is_26
theorem k_30 : C_Contains Tryd.prog nums := c_Contains k_29 is_27
theorem k_31 : C_isPrime Tryd.prog nums := c_isPrime k_30 is_28
theorem k_32 : C_in Tryd.prog nums := c_in is_29
theorem k_33 : C_isVector Tryd.prog nums := c_isVector is_30
theorem k_34 : C_n Tryd.prog nums := c_n is_31
theorem k_35 : C_tableOk Tryd.prog nums := c_tableOk k_33 k_34 is_32
theorem k_36 : C_basis Tryd.prog nums := c_basis is_33
theorem k_37 : C_times Tryd.prog nums := c_times k_34 is_34
theorem k_38 : C_associative Tryd.prog nums := c_associative k_34 k_36 k_37 is_35
theorem k_39 : C_behind Tryd.prog nums := c_behind is_36
theorem k_40 : C_ahead Tryd.prog nums := c_ahead is_37
theorem k_41 : C_behind1 Tryd.prog nums := c_behind1 k_37 is_38
theorem k_42 : C_ahead1 Tryd.prog nums := c_ahead1 k_37 is_39
theorem k_43 : C_equations Tryd.prog nums := c_equations k_34 k_36 is_40
theorem k_44 : C_Clone Tryd.prog nums := c_Clone is_41
theorem k_45 : C_Delete Tryd.prog nums := c_Delete is_42
theorem k_46 : C_IdxRows Tryd.prog nums := c_IdxRows is_43
theorem k_47 : C_reduce1 Tryd.prog nums := c_reduce1 is_44
theorem k_48 : C_power Tryd.prog nums := c_power is_45
theorem k_49 : C_inverse Tryd.prog nums := c_inverse k_48 is_46
theorem k_50 : C_scaled Tryd.prog nums := c_scaled is_47
theorem k_51 : C_rest Tryd.prog nums := c_rest is_48
theorem k_52 : C_lessTimes Tryd.prog nums := c_lessTimes k_51 is_49
theorem k_53 : C_reduce Tryd.prog nums := c_reduce k_44 k_45 k_46 k_47 k_49 k_50 k_52 is_50
theorem k_54 : C_IdxInt Tryd.prog nums := c_IdxInt is_51
theorem k_55 : C_leader1 Tryd.prog nums := c_leader1 is_52
theorem k_56 : C_leader Tryd.prog nums := c_leader k_54 k_55 is_53
theorem k_57 : C_solve Tryd.prog nums := c_solve k_53 k_56 is_54
theorem k_58 : C_vector Tryd.prog nums := c_vector is_55
theorem k_59 : C_vectorE Tryd.prog nums := c_vectorE is_55
theorem k_60 : C_solved Tryd.prog nums := c_solved k_43 k_34 k_57 k_58 k_59 is_56
theorem k_61 : C_findUnit Tryd.prog nums := c_findUnit k_34 k_36 k_39 k_40 k_41 k_42 k_60 is_57
theorem k_62 : C_IsAlgebra Tryd.prog nums := c_IsAlgebra k_31 k_32 k_35 k_38 k_61 is_58
theorem k_63 : C_IdxVec Tryd.prog nums := c_IdxVec is_59
theorem k_64 : C_ContainsVec Tryd.prog nums := c_ContainsVec k_63 is_60
theorem k_65 : C_valid1 Tryd.prog nums := c_valid1 k_33 is_61
theorem k_66 : C_validL Tryd.prog nums := c_validL k_62 k_64 k_65 is_62
theorem k_67 : C_validE Tryd.prog nums := c_validE k_66
theorem k_68 : C_vText Tryd.prog nums := c_vText is_63
theorem k_69 : C_small Tryd.prog nums := c_small is_64
theorem k_70 : C_iFormatInt Tryd.prog nums := c_iFormatInt k_69 is_65
theorem k_71 : C_FormatInt Tryd.prog nums := c_FormatInt k_70 is_66
theorem k_72 : C_Join Tryd.prog nums := c_Join joinAt
theorem k_73 : C_text Tryd.prog nums := c_text k_34 k_68 k_71 k_72 is_67
theorem k_74 : C_AlgText Tryd.prog nums := c_AlgText k_67 k_73 is_68
theorem k_75 : L_AlgebraText Tryd.prog nums := l_AlgebraText k_4 k_28 k_74 is_69
end Go.Proofs.YtiefibobgdbcdaaDoor
