import Derived.Test.YtckpoeaagbmlbaaGreatK4
import Derived.Test.YtckpoeaagbmlbaaGreatK2
import Derived.Test.YtckpoeaagbmlbaaGreatK3
import Derived.Test.YtckpoeaagbmlbaaGreatX5
set_option linter.all false
namespace Go.X
open Go Go.RowKit
abbrev vsD (m : Nat) (s : Nat → Nat → Int) : D := .lst 6 (arr m fun i => vecL (s i))
def AllSm (a : Alg) (m : Nat) (s : Nat → Nat → Int) : Prop := ∀ i, i < m → Small (s i) a.n a.p
def C_valid1 (P : Program) (N : FN) : Prop := ∀ {sz : Nat} {l : List (List D)} {e off : Nat} {a : Alg} {v : Nat → Int}, AlgAt l e off a → Byts v → Can P N.impl_valid_1 [vecD v, .pd sz l e off] (.val (.bool (!decide (Small v a.n a.p))))
def C_validL (P : Program) (N : FN) : Prop := ∀ {a : Alg} {q : Nat} {s : Nat → Nat → Int}, AlgIn a → q ≤ 1000 → (∀ i, Byts (s i)) → Can P N.impl_valid [algD a, vsD q s] (.val (.int .i64 (if dB (IsAlgP a ∧ AllSm a q s) = true then 0 else 1)))
def C_validE (P : Program) (N : FN) : Prop := ∀ {a : Alg}, AlgIn a → Can P N.impl_valid [algD a, .emp] (.val (.int .i64 (if dB (IsAlgP a) = true then 0 else 1)))
def C_sCodeL (P : Program) (N : FN) : Prop := ∀ {a : Alg} {q : Nat} {s : Nat → Nat → Int}, SAlgIn a → q ≤ 1000 → (∀ i, Byts (s i)) → Can P N.spec_l01Code [algD a, vsD q s] (.val (.int .i64 (if dB (sAlgP a ∧ AllSm a q s) = true then 0 else 1)))
end Go.X
namespace Go.X
open Go Go.RowKit
def FN.impl_kernel (N : FN) : FuncId := N.f 142
def FN.slices_Contains_Lint_int (N : FN) : FuncId := N.f 143
def FN.spec_l01Kernel (N : FN) : FuncId := N.f 144
def FN.slices_Index_Lint_int (N : FN) : FuncId := N.f 145
def FN.impl_vectors (N : FN) : FuncId := N.f 146
def FN.spec_l01Vectors (N : FN) : FuncId := N.f 147
def ir_impl_kernel (N : FN) : CF := ⟨3, 74, [(.tmp 6)], (.seq (.reg false [] [(rO 6 (.mov (.c .emp)))]) (.seq (.ga (.dead [19]) (.ga (.ren [8]) (.reg false [19, 20] [(rO 16 (.mov (.t 0))), (rO 17 (.mov (.t 2))), (rO 18 (.call N.impl_reduce [(.t 16), (.t 17)])), (rO 19 (.bslice 1 [])), (rO 7 (.mov (.t 18))), (rO 8 (.mov (.t 19)))]))) (.seq (.ga (.dead [20]) (.ga (.ren [9]) (.reg false [21] [(rO 20 (.bslice 1 [])), (rO 9 (.mov (.t 20)))]))) (.seq (.seq (.reg false [] [(rO 21 (.mov (.t 7))), (rO 22 (.len (.t 21))), (rO 23 (.mov (.c (.int .i64 0))))]) (.block 0 (.loop (.seq (.reg false [] [(rO 24 (.cmp .lss (.t 23) (.t 22)))]) (.seq (.cond (.t 24) .skip (.exit 0)) (.seq (.block 1 (.seq (.reg false [27] [(rO 25 (.iaddrS 1 (.t 21) (.t 23))), (rO 26 (.loadS (.t 25))), (rO 11 (.mov (.t 26)))]) (.ga (.dead [31]) (.ga (.ren [9]) (.reg false [30, 31, 32] [(rO 27 (.mov (.t 9))), (rO 28 (.mov (.t 11))), (rO 29 (.call N.impl_leader [(.t 28)])), (rO 30 (.bslice 1 [(.t 29)])), (rO 31 (.app 1 8 (.t 27) (.t 30))), (rO 9 (.mov (.t 31)))]))))) (.reg false [] [(rO 32 (.arith .add (.t 23) (.c (.int .i64 1)))), (rO 23 (.mov (.t 32)))]))))))) (.seq (.seq (.reg false [] [(rO 33 (.mov (.t 1))), (rO 34 (.mov (.c (.int .i64 0))))]) (.block 2 (.loop (.seq (.reg false [] [(rO 35 (.cmp .lss (.t 34) (.t 33)))]) (.seq (.cond (.t 35) .skip (.exit 2)) (.seq (.block 3 (.seq (.reg false [] [(rO 36 (.mov (.t 34))), (rO 12 (.mov (.t 36)))]) (.seq (.seq (.reg false [40] [(rO 37 (.mov (.t 9))), (rO 38 (.mov (.t 12))), (rO 39 (.call N.slices_Contains_Lint_int [(.t 37), (.t 38)]))]) (.cond (.t 39) (.exit 3) .skip)) (.seq (.reg false [42] [(rO 40 (.mov (.t 1))), (rO 41 (.mkrow 1 8 [(.int .i64 0)] (.t 40))), (rO 13 (.mov (.t 41)))]) (.seq (.reg false [] [(rO 42 (.mov (.t 13))), (rO 43 (.mov (.t 12))), (rO 44 (.iaddrS 1 (.t 42) (.t 43))), ⟨none, 78, (.store none (.t 44) (.c (.int .i64 1))), none, [], none⟩]) (.seq (.seq (.reg false [] [(rO 45 (.mov (.t 9))), (rO 46 (.len (.t 45))), (rO 47 (.mov (.c (.int .i64 0))))]) (.block 4 (.loop (.seq (.reg false [] [(rO 48 (.cmp .lss (.t 47) (.t 46)))]) (.seq (.cond (.t 48) .skip (.exit 4)) (.seq (.block 5 (.seq (.reg false [] [(rO 49 (.mov (.t 47))), (rO 50 (.iaddrS 1 (.t 45) (.t 47))), (rO 51 (.load none (.t 50))), (rO 14 (.mov (.t 49))), (rO 15 (.mov (.t 51)))]) (.reg false [58, 64] [(rO 52 (.mov (.t 13))), (rO 53 (.mov (.t 15))), (rO 54 (.mov (.t 7))), (rO 55 (.mov (.t 14))), (rO 56 (.iaddrS 1 (.t 54) (.t 55))), (rO 57 (.loadS (.t 56))), (rO 58 (.mov (.t 12))), (rO 59 (.iaddrS 1 (.t 57) (.t 58))), (rO 60 (.load none (.t 59))), (rO 61 (.neg (.t 60))), (rO 62 (.mov (.t 2))), (rO 63 (.call N.impl_rest [(.t 61), (.t 62)])), (rO 64 (.iaddrS 1 (.t 52) (.t 53))), ⟨none, 88, (.store none (.t 64) (.t 63)), none, [], none⟩]))) (.reg false [] [(rO 65 (.arith .add (.t 47) (.c (.int .i64 1)))), (rO 47 (.mov (.t 65)))]))))))) (.ga (.dead [69]) (.ga (.ren [8]) (.gh (.frz [42]) (.reg false [69, 70] [(rO 66 (.mov (.t 8))), (rO 67 (.mov (.t 13))), (rO 68 (.bslice 1 [(.t 67)])), (rO 69 (.app 1 24 (.t 66) (.t 68))), (rO 8 (.mov (.t 69)))])))))))))) (.reg false [] [(rO 70 (.arith .add (.t 34) (.c (.int .i64 1)))), (rO 34 (.mov (.t 70)))]))))))) (.seq (.gh (.frz [9]) (.reg false [74] [(rO 71 (.mov (.t 8))), (rO 72 (.mov (.t 2))), (rO 73 (.call N.impl_reduce [(.t 71), (.t 72)])), (rO 6 (.mov (.t 73)))])) .ret))))))⟩
def ir_spec_l01Kernel (N : FN) : CF := ⟨3, 84, [(.tmp 6)], (.seq (.reg false [] [(rO 6 (.mov (.c .emp)))]) (.seq (.ga (.dead [17]) (.ga (.ren [8]) (.reg true [17, 18, 20] [(rO 14 (.mov (.t 0))), (rO 15 (.mov (.t 2))), ⟨(some 16), 17, (.call N.spec_l01Echelon [(.t 14), (.t 15)]), none, [18, 20], none⟩, (rO 17 (.bslice 1 [])), (rO 18 (.mov (.t 1))), (rO 19 (.mkrow 1 8 [(.int .i64 0)] (.t 18))), (rO 7 (.mov (.t 16))), (rO 8 (.mov (.t 17))), (rO 9 (.mov (.t 19)))]))) (.seq (.seq (.reg false [] [(rO 10 (.mov (.c (.int .i64 0))))]) (.block 0 (.loop (.seq (.seq (.reg false [] [(rO 20 (.mov (.t 10))), (rO 21 (.mov (.t 7))), (rO 22 (.len (.t 21))), (rO 23 (.cmp .lss (.t 20) (.t 22)))]) (.cond (.t 23) .skip (.exit 0))) (.seq (.block 1 (.reg false [31, 32] [(rO 26 (.mov (.t 9))), (rO 27 (.mov (.t 7))), (rO 28 (.mov (.t 10))), (rO 29 (.iaddrS 1 (.t 27) (.t 28))), (rO 30 (.loadS (.t 29))), (rO 31 (.call N.spec_l01Lead [(.t 30)])), (rO 32 (.mov (.t 10))), (rO 33 (.arith .add (.t 32) (.c (.int .i64 1)))), (rO 34 (.iaddrS 1 (.t 26) (.t 31))), ⟨none, 94, (.store none (.t 34) (.t 33)), none, [], none⟩])) (.reg false [] [(rO 24 (.mov (.t 10))), (rO 25 (.arith .add (.t 24) (.c (.int .i64 1)))), (rO 10 (.mov (.t 25)))])))))) (.seq (.seq (.reg false [] [(rO 11 (.mov (.c (.int .i64 0))))]) (.block 2 (.loop (.seq (.seq (.reg false [] [(rO 35 (.mov (.t 11))), (rO 36 (.mov (.t 1))), (rO 37 (.cmp .lss (.t 35) (.t 36)))]) (.cond (.t 37) .skip (.exit 2))) (.seq (.block 3 (.seq (.seq (.reg false [] [(rO 40 (.mov (.t 9))), (rO 41 (.mov (.t 11))), (rO 42 (.iaddrS 1 (.t 40) (.t 41))), (rO 43 (.load none (.t 42))), (rO 44 (.cmp .gtr (.t 43) (.c (.int .i64 0))))]) (.cond (.t 44) (.exit 3) .skip)) (.seq (.reg false [47] [(rO 45 (.mov (.t 1))), (rO 46 (.mkrow 1 8 [(.int .i64 0)] (.t 45))), (rO 12 (.mov (.t 46)))]) (.seq (.reg false [] [(rO 47 (.mov (.t 12))), (rO 48 (.mov (.t 11))), (rO 49 (.iaddrS 1 (.t 47) (.t 48))), ⟨none, 88, (.store none (.t 49) (.c (.int .i64 1))), none, [], none⟩]) (.seq (.seq (.reg false [] [(rO 13 (.mov (.c (.int .i64 0))))]) (.block 4 (.loop (.seq (.seq (.reg false [] [(rO 50 (.mov (.t 13))), (rO 51 (.mov (.t 1))), (rO 52 (.cmp .lss (.t 50) (.t 51)))]) (.cond (.t 52) .skip (.exit 4))) (.seq (.block 5 (.seq (.reg false [] [(rO 55 (.mov (.t 9))), (rO 56 (.mov (.t 13))), (rO 57 (.iaddrS 1 (.t 55) (.t 56))), (rO 58 (.load none (.t 57))), (rO 59 (.cmp .gtr (.t 58) (.c (.int .i64 0))))]) (.cond (.t 59) (.reg false [71, 76] [(rO 60 (.mov (.t 12))), (rO 61 (.mov (.t 13))), (rO 62 (.mov (.t 0))), (rO 63 (.mov (.t 7))), (rO 64 (.mov (.t 9))), (rO 65 (.mov (.t 13))), (rO 66 (.iaddrS 1 (.t 64) (.t 65))), (rO 67 (.load none (.t 66))), (rO 68 (.arith .sub (.t 67) (.c (.int .i64 1)))), (rO 69 (.iaddrS 1 (.t 63) (.t 68))), (rO 70 (.loadS (.t 69))), (rO 71 (.mov (.t 11))), (rO 72 (.iaddrS 1 (.t 70) (.t 71))), (rO 73 (.load none (.t 72))), (rO 74 (.neg (.t 73))), (rO 75 (.call N.spec_l01Mod [(.t 62), (.t 74)])), (rO 76 (.iaddrS 1 (.t 60) (.t 61))), ⟨none, 102, (.store none (.t 76) (.t 75)), none, [], none⟩]) .skip))) (.reg false [] [(rO 53 (.mov (.t 13))), (rO 54 (.arith .add (.t 53) (.c (.int .i64 1)))), (rO 13 (.mov (.t 54)))])))))) (.ga (.dead [80]) (.ga (.ren [8]) (.gh (.frz [47]) (.reg false [80, 81] [(rO 77 (.mov (.t 8))), (rO 78 (.mov (.t 12))), (rO 79 (.bslice 1 [(.t 78)])), (rO 80 (.app 1 24 (.t 77) (.t 79))), (rO 8 (.mov (.t 80)))]))))))))) (.reg false [] [(rO 38 (.mov (.t 11))), (rO 39 (.arith .add (.t 38) (.c (.int .i64 1)))), (rO 11 (.mov (.t 39)))])))))) (.seq (.gh (.frz [9]) (.reg false [84] [(rO 81 (.mov (.t 0))), (rO 82 (.mov (.t 8))), (rO 83 (.call N.spec_l01Echelon [(.t 81), (.t 82)])), (rO 6 (.mov (.t 83)))])) .ret)))))⟩
def ir_slices_Contains_Lint_int (N : FN) : CF := ⟨2, 9, [(.tmp 4)], (.seq (.reg false [] [(rO 4 (.mov (.c (.bool false))))]) (.seq (.reg false [8] [(rO 5 (.mov (.t 0))), (rO 6 (.mov (.t 1))), (rO 7 (.call N.slices_Index_Lint_int [(.t 5), (.t 6)])), (rO 8 (.cmp .geq (.t 7) (.c (.int .i64 0)))), (rO 4 (.mov (.t 8)))]) .ret))⟩
def ir_slices_Index_Lint_int (N : FN) : CF := ⟨2, 19, [(.tmp 4)], (.seq (.reg false [] [(rO 4 (.mov (.c (.int .i64 0))))]) (.seq (.seq (.reg false [] [(rO 6 (.mov (.t 0))), (rO 7 (.len (.t 6))), (rO 8 (.mov (.c (.int .i64 0))))]) (.block 0 (.loop (.seq (.reg false [] [(rO 9 (.cmp .lss (.t 8) (.t 7)))]) (.seq (.cond (.t 9) .skip (.exit 0)) (.seq (.block 1 (.seq (.reg false [] [(rO 10 (.mov (.t 8))), (rO 5 (.mov (.t 10)))]) (.seq (.reg false [] [(rO 11 (.mov (.t 1))), (rO 12 (.mov (.t 0))), (rO 13 (.mov (.t 5))), (rO 14 (.iaddrS 1 (.t 12) (.t 13))), (rO 15 (.load none (.t 14))), (rO 16 (.cmp .eql (.t 11) (.t 15)))]) (.cond (.t 16) (.seq (.reg false [] [(rO 17 (.mov (.t 5))), (rO 4 (.mov (.t 17)))]) .ret) .skip)))) (.reg false [] [(rO 18 (.arith .add (.t 8) (.c (.int .i64 1)))), (rO 8 (.mov (.t 18)))]))))))) (.seq (.reg false [] [(rO 4 (.mov (.c (.int .i64 (-1)))))]) .ret)))⟩
def ir_impl_vectors (N : FN) : CF := ⟨1, 20, [(.tmp 2)], (.seq (.reg false [] [(rO 2 (.mov (.c .emp)))]) (.seq (.ga (.dead [6]) (.ga (.ren [3]) (.reg false [7] [(rO 6 (.bslice 6 [])), (rO 3 (.mov (.t 6)))]))) (.seq (.seq (.reg false [] [(rO 7 (.mov (.t 0))), (rO 8 (.len (.t 7))), (rO 9 (.mov (.c (.int .i64 0))))]) (.block 0 (.loop (.seq (.reg false [] [(rO 10 (.cmp .lss (.t 9) (.t 8)))]) (.seq (.cond (.t 10) .skip (.exit 0)) (.seq (.block 1 (.seq (.reg false [13] [(rO 11 (.iaddrS 1 (.t 7) (.t 9))), (rO 12 (.loadS (.t 11))), (rO 5 (.mov (.t 12)))]) (.ga (.dead [17]) (.ga (.ren [3]) (.reg false [16, 17, 18] [(rO 13 (.mov (.t 3))), (rO 14 (.mov (.t 5))), (rO 15 (.call N.impl_vector [(.t 14)])), (rO 16 (.bslice 6 [(.t 15)])), (rO 17 (.app 6 6 (.t 13) (.t 16))), (rO 3 (.mov (.t 17)))]))))) (.reg false [] [(rO 18 (.arith .add (.t 9) (.c (.int .i64 1)))), (rO 9 (.mov (.t 18)))]))))))) (.seq (.reg false [] [(rO 19 (.mov (.t 3))), (rO 2 (.mov (.t 19)))]) .ret))))⟩
def ir_spec_l01Vectors (N : FN) : CF := ⟨1, 39, [(.tmp 2)], (.seq (.reg false [] [(rO 2 (.mov (.c .emp)))]) (.seq (.ga (.dead [7]) (.ga (.ren [3]) (.reg false [8] [(rO 7 (.bslice 6 [])), (rO 3 (.mov (.t 7)))]))) (.seq (.seq (.reg false [] [(rO 4 (.mov (.c (.int .i64 0))))]) (.block 0 (.loop (.seq (.seq (.reg false [] [(rO 8 (.mov (.t 4))), (rO 9 (.mov (.t 0))), (rO 10 (.len (.t 9))), (rO 11 (.cmp .lss (.t 8) (.t 10)))]) (.cond (.t 11) .skip (.exit 0))) (.seq (.block 1 (.seq (.reg false [6] [(rO 14 (.build [(.int .u8 0), (.int .u8 0), (.int .u8 0), (.int .u8 0), (.int .u8 0), (.int .u8 0)] [])), (rO 5 (.alloc [(.int .u8 0), (.int .u8 0), (.int .u8 0), (.int .u8 0), (.int .u8 0), (.int .u8 0)])), ⟨none, 42, (.store (some 6) (.t 5) (.t 14)), none, [], none⟩]) (.seq (.seq (.reg false [] [(rO 6 (.mov (.c (.int .i64 0))))]) (.block 2 (.loop (.seq (.seq (.reg false [20] [(rO 15 (.mov (.t 6))), (rO 16 (.mov (.t 0))), (rO 17 (.mov (.t 4))), (rO 18 (.iaddrS 1 (.t 16) (.t 17))), (rO 19 (.loadS (.t 18))), (rO 20 (.len (.t 19))), (rO 21 (.cmp .lss (.t 15) (.t 20)))]) (.cond (.t 21) .skip (.exit 2))) (.seq (.block 3 (.reg false [29] [(rO 24 (.mov (.t 6))), (rO 25 (.mov (.t 0))), (rO 26 (.mov (.t 4))), (rO 27 (.iaddrS 1 (.t 25) (.t 26))), (rO 28 (.loadS (.t 27))), (rO 29 (.mov (.t 6))), (rO 30 (.iaddrS 1 (.t 28) (.t 29))), (rO 31 (.load none (.t 30))), (rO 32 (.conv .u8 (.t 31))), (rO 33 (.iaddrA 6 1 (.t 5) (.t 24))), ⟨none, 50, (.store none (.t 33) (.t 32)), none, [], none⟩])) (.reg false [] [(rO 22 (.mov (.t 6))), (rO 23 (.arith .add (.t 22) (.c (.int .i64 1)))), (rO 6 (.mov (.t 23)))])))))) (.ga (.dead [37]) (.ga (.ren [3]) (.reg false [37, 38] [(rO 34 (.mov (.t 3))), (rO 35 (.load (some 6) (.t 5))), (rO 36 (.bslice 6 [(.t 35)])), (rO 37 (.app 6 6 (.t 34) (.t 36))), (rO 3 (.mov (.t 37)))])))))) (.reg false [] [(rO 12 (.mov (.t 4))), (rO 13 (.arith .add (.t 12) (.c (.int .i64 1)))), (rO 4 (.mov (.t 13)))])))))) (.seq (.reg false [] [(rO 38 (.mov (.t 3))), (rO 2 (.mov (.t 38)))]) .ret))))⟩
end Go.X
namespace Go.X
open Go Go.RowKit
theorem dot_comm {n : Nat} {r v : Row} : dot n r v = dot n v r := sumN_ext fun i _ => Int.mul_comm ..
end Go.X
namespace Go.X
open Go Go.RowKit
theorem args2 {a b : Ty} {l : List D} (h : argsHave [a, b] l) : ∃ x y, l = [x, y] ∧ a.arg x ∧ b.arg y := by
  match l, h with
  | [x, y], h => exact ⟨x, y, rfl, h.1, h.2.1⟩
def AllU8 (c : Nat) (e : Ty) : Prop := ∀ ys, e.Has ys → ∃ f : Nat → Int, ys = cel .u8 c f ∧ Byts f
theorem allU8_int : AllU8 1 (.int .u8) := fun ys h => by
  obtain ⟨n, rfl, hw⟩ := h
  have := bounds_u8 hw
  exact ⟨fun _ => n, rfl, fun _ => this⟩
theorem cel_append {k : IntKind} {a b : Nat} {f g : Nat → Int} : cel k a f ++ cel k b g = cel k (a + b) fun i => if i < a then f i else g (i - a) := by
  refine arr_of (by simp [cel_len]) fun i hi => ?_
  rcases Nat.lt_or_ge i a with h | h
  · rw [List.getElem?_append_left (by rw [cel_len]; exact h), cel_get h]; simp [h]
  · rw [List.getElem?_append_right (by rw [cel_len]; exact h), cel_len, cel_get (by omega)]; simp [show ¬ i < a by omega]
theorem flat_u8 {c : Nat} : ∀ {yss : List (List D)}, (∀ ys ∈ yss, ∃ f : Nat → Int, ys = cel .u8 c f ∧ Byts f) → ∃ f : Nat → Int, yss.flatten = cel .u8 (yss.length * c) f ∧ Byts f
  | [], _ => ⟨fun _ => 0, by simp [cel, arr], fun _ => by show (0:Int) ≤ 0 ∧ (0:Int) ≤ 255; omega⟩
  | y :: r, h => by
    obtain ⟨f, rfl, hf⟩ := h y (List.mem_cons_self ..)
    obtain ⟨g, h2, hg⟩ := flat_u8 fun ys hy => h ys (List.mem_cons_of_mem _ hy)
    refine ⟨fun i => if i < c then f i else g (i - c), ?_, fun i => ?_⟩
    · rw [List.flatten_cons, h2, cel_append, List.length_cons, Nat.succ_mul, Nat.add_comm]
    · dsimp only; split
      · exact hf _
      · exact hg _
theorem allU8_arr {c n : Nat} {e : Ty} (h : AllU8 c e) : AllU8 (n * c) (.arr n e) := fun ys hy => by
  obtain ⟨yss, rfl, rfl, hy⟩ := hy
  exact flat_u8 fun ys hm => h ys (hy ys hm)
def tyVec : Ty := .arr 6 (.int .u8)
def tyTab : Ty := .arr 6 (.arr 6 (.arr 6 (.int .u8)))
def tyAlg : Ty := .st [.int .i64, .int .i64, tyTab, tyVec]
def I64 (x : Int) : Prop := -9223372036854775808 ≤ x ∧ x ≤ 9223372036854775807
theorem arg_i64 {d : D} (h : (Ty.int .i64).arg d) : ∃ n, d = .int .i64 n ∧ I64 n := by
  obtain ⟨n, h, hw⟩ := h
  simp only [List.cons.injEq, and_true] at h
  exact ⟨n, h, bounds_i64 hw⟩
theorem has_alg {xs : List D} (h : tyAlg.Has xs) : ∃ a : Alg, xs = algL a ∧ AlgIn a ∧ I64 a.p ∧ I64 a.n := by
  obtain ⟨_, _, rfl, ⟨p, rfl, hp⟩, _, _, rfl, ⟨n, rfl, hn⟩, _, _, rfl, hT, _, _, rfl, hF, rfl⟩ := h
  obtain ⟨T, rfl, bT⟩ := allU8_arr (n := 6) (allU8_arr (n := 6) (allU8_arr (n := 6) allU8_int)) _ hT
  obtain ⟨F, rfl, bF⟩ := allU8_arr (n := 6) allU8_int _ hF
  let a : Alg := ⟨p, n, fun i j k => if i < 6 ∧ j < 6 ∧ k < 6 then T (i * 36 + j * 6 + k) else 0, fun i => if i < 6 then F i else 0⟩
  have aT : ∀ i j k, i < 6 → j < 6 → k < 6 → a.T i j k = T (i * 36 + j * 6 + k) := fun i j k hi hj hk => if_pos ⟨hi, hj, hk⟩
  have aF : ∀ i, i < 6 → a.f i = F i := fun i hi => if_pos hi
  have bB : AlgB a := by
    refine ⟨fun i j k => ?_, fun i => ?_⟩
    · show 0 ≤ (if _ then _ else (0 : Int)) ∧ (if _ then _ else (0 : Int)) ≤ 255
      split
      · exact bT _
      · omega
    · show 0 ≤ (if _ then _ else (0 : Int)) ∧ (if _ then _ else (0 : Int)) ≤ 255
      split
      · exact bF _
      · omega
  refine ⟨a, ?_, ⟨bB, fun hp hn hT => ?_⟩, bounds_i64 hp, bounds_i64 hn⟩
  · refine arr_of (by simp [cel_len]) fun q hq => ?_
    unfold algF
    by_cases c0 : q = 0
    · subst c0; rfl
    by_cases c1 : q = 1
    · subst c1; rfl
    rw [if_neg c0, if_neg c1]
    rw [List.getElem?_append_right (by simp; omega), List.getElem?_append_right (by simp; omega)]
    simp only [List.length_cons, List.length_nil]
    by_cases c2 : q < 218
    · rw [List.getElem?_append_left (by rw [cel_len]; omega), cel_get (by omega), if_pos c2]
      have e : a.T ((q - 2) / 36) ((q - 2) / 6 % 6) ((q - 2) % 6) = T (q - 2) := by
        rw [aT _ _ _ (by omega) (by omega) (by omega)]; congr 1; omega
      rw [e, Nat.sub_sub]
    · rw [List.getElem?_append_right (by rw [cel_len]; omega), List.append_nil, cel_len, cel_get (by omega), if_neg c2]
      rw [aF _ (by omega)]; congr 3
  · have hp2 := prime_bd hp
    refine ⟨hp, hn, fun i j k => ⟨(bB.1 i j k).1, ?_⟩, fun i => ⟨(bB.2 i).1, ?_⟩, fun i j k h => ?_, fun i h => ?_⟩
    · by_cases c : i < 6 ∧ j < 6 ∧ k < 6
      · exact ((hT.1 i j c.1 c.2.1).1 k c.2.2).1
      · show (if i < 6 ∧ j < 6 ∧ k < 6 then _ else (0 : Int)) < _
        rw [if_neg c]; omega
    · by_cases c : i < 6
      · exact (hT.2 i c).1
      · show (if i < 6 then _ else (0 : Int)) < _
        rw [if_neg c]; omega
    · by_cases c : i < 6 ∧ j < 6 ∧ k < 6
      · rcases h with h | h | h
        · exact (hT.1 i j c.1 c.2.1).2 (.inl h) k c.2.2
        · exact (hT.1 i j c.1 c.2.1).2 (.inr h) k c.2.2
        · exact ((hT.1 i j c.1 c.2.1).1 k c.2.2).2 h
      · show (if i < 6 ∧ j < 6 ∧ k < 6 then _ else (0 : Int)) = 0
        rw [if_neg c]
    · by_cases c : i < 6
      · exact (hT.2 i c).2 h
      · show (if i < 6 then _ else (0 : Int)) = 0
        rw [if_neg c]
theorem arg_alg {d : D} (h : tyAlg.arg d) : ∃ a : Alg, d = algD a ∧ AlgIn a ∧ I64 a.p ∧ I64 a.n := by
  obtain ⟨xs, rfl, h⟩ := h
  obtain ⟨a, rfl, ha⟩ := has_alg h
  exact ⟨a, rfl, ha⟩
theorem AlgIn.s {a : Alg} (h : AlgIn a) : SAlgIn a := ⟨h.b, fun hs => by
  obtain ⟨h1, h2, h3⟩ := shape_iff.1 hs
  exact h.ok h1 h2 h3⟩
theorem PrIn.s {x : Pr} (h : PrIn x) : SPrIn x := ⟨h.c.s, h.o.s, h.z⟩
end Go.X
