import Derived.Test.YtiefibobgdbcdaaDoorW5
set_option linter.all false
namespace Go.X
open Go Go.RowKit
set_option maxRecDepth 100000
set_option maxHeartbeats 8000000
set_option linter.unusedSimpArgs false
set_option linter.unusedVariables false
variable {P : Program} {N : FN}
def algT (a : Alg) : Nat → Int := fun q => a.T (q / 36) (q / 6 % 6) (q % 6)
theorem alg_T {a : Alg} : sub2 [algL a] 0 (0 + 2) 216 = some (cel .u8 216 (algT a)) := sub2_of (fun q hq => by
  have := algF_T a (i := q / 36) (j := q / 6 % 6) (k := q % 6) (by omega) (by omega) (by omega)
  rw [show 2 + q / 36 * 36 + q / 6 % 6 * 6 + q % 6 = 2 + q by omega] at this
  have h := algAt_one a (2 + q) (by omega)
  rw [this] at h
  rw [Nat.zero_add, ← Nat.zero_add (2 + q)]
  exact h) (by omega)
theorem alg_put {a : Alg} {z : List D} (hz : z.length = 224) :
    splice (splice ((z.set 0 (.int .i64 a.p)).set 1 (.int .i64 a.n)) 2 (cel .u8 216 (algT a))) 218 (cel .u8 6 a.f) = algL a := by
  have l1 : ((z.set 0 (.int .i64 a.p)).set 1 (.int .i64 a.n)).length = 224 := by simp [hz]
  have l2 : (splice ((z.set 0 (.int .i64 a.p)).set 1 (.int .i64 a.n)) 2 (cel .u8 216 (algT a))).length = 224 := by
    rw [splice_len (by rw [cel_len]; omega)]; exact l1
  refine arr_of (by rw [splice_len (by rw [cel_len]; omega)]; exact l2) fun q hq => ?_
  rw [splice_get (by rw [cel_len]; omega), splice_get (by rw [cel_len]; omega), cel_len, cel_len]
  by_cases c1 : 218 ≤ q
  · rw [if_pos (by omega), cel_get (by omega)]
    have := algF_f a (i := q - 218) (by omega)
    rw [show 218 + (q - 218) = q by omega] at this
    rw [this]
  · rw [if_neg (by omega)]
    by_cases c2 : 2 ≤ q
    · rw [if_pos (by omega), cel_get (by omega)]
      have := algF_T a (i := (q - 2) / 36) (j := (q - 2) / 6 % 6) (k := (q - 2) % 6) (by omega) (by omega) (by omega)
      rw [show 2 + (q - 2) / 36 * 36 + (q - 2) / 6 % 6 * 6 + (q - 2) % 6 = q by omega] at this
      rw [this]; rfl
    · rw [if_neg (by omega)]
      have : q = 0 ∨ q = 1 := by omega
      rcases this with rfl | rfl
      · rw [List.getElem?_set_ne (by omega), List.getElem?_set_self (by omega)]; rfl
      · rw [List.getElem?_set_self (by simp; omega)]; rfl
def C_toAlgebra (P : Program) (N : FN) : Prop := ∀ {a : Alg}, Can P N.laws_toAlgebra [algD a] (.val (algD a))
theorem algL_len2 (a : Alg) : (algL a).length = 224 := arr_len ..
theorem sub2_one {l : List D} {n : Nat} (h : l.length = n) : sub2 [l] 0 0 n = some l := by
  simp only [sub2, List.getElem?_cons_zero, Option.bind_some, cut, Nat.zero_add, h, Nat.le_refl, if_true, List.drop_zero]
  rw [List.take_of_length_le (by omega)]
theorem splice_all {l m : List D} (h : m.length = l.length) : splice l 0 m = m := by
  unfold splice
  rw [List.take_zero, List.nil_append, h, Nat.zero_add, List.drop_length, List.append_nil]
theorem alg_rd {a : Alg} {z : List D} (hz : z.length = 224) :
    sub2 (((([z].set 0 (z.set (0 + 0) (.int .i64 a.p))).set 0 ((z.set (0 + 0) (.int .i64 a.p)).set (0 + 1) (.int .i64 a.n))).set 0 (splice ((z.set (0 + 0) (.int .i64 a.p)).set (0 + 1) (.int .i64 a.n)) (0 + 2) (cel .u8 216 (algT a)))).set 0 (splice (splice ((z.set (0 + 0) (.int .i64 a.p)).set (0 + 1) (.int .i64 a.n)) (0 + 2) (cel .u8 216 (algT a))) (0 + 218) (cel .u8 6 a.f))) 0 0 224 = some (algL a) := by
  simp only [List.set_cons_zero, Nat.zero_add]
  rw [alg_put hz]
  exact sub2_one (algL_len2 a)
theorem alg_rd2 {a : Alg} {z : List D} (hz : z.length = 224) : sub2 ([z].set 0 (splice z 0 (algL a))) 0 0 224 = some (algL a) := by
  rw [splice_all (by rw [algL_len2, hz]), List.set_cons_zero]
  exact sub2_one (algL_len2 a)
theorem alg_l1 {z : List D} {x : D} (hz : z.length = 224) : 0 + 1 < (z.set (0 + 0) x).length := by rw [List.length_set]; omega
theorem alg_l2 {z : List D} {x y : D} {g : Nat → Int} (hz : z.length = 224) : 0 + 2 + 216 ≤ ((z.set (0 + 0) x).set (0 + 1) y).length := by rw [List.length_set, List.length_set]; omega
theorem alg_l3 {z : List D} {x y : D} {g : Nat → Int} (hz : z.length = 224) : 0 + 218 + 6 ≤ (splice ((z.set (0 + 0) x).set (0 + 1) y) (0 + 2) (cel .u8 216 g)).length := by
  rw [splice_len (by rw [cel_len, List.length_set, List.length_set]; omega), List.length_set, List.length_set]; omega
def irz_laws_toAlgebra (z : List D) (N : FN) : CF := ⟨1, 19, [(.cell 2 (some 224))], (.seq (.reg false [2, 3] [(rO 1 (.box (.t 0))), (rO 2 (.alloc z))]) (.seq (.reg false [4] [(rO 3 (.alloc z))]) (.seq (.reg false [] [(rO 4 (.faddr 0 (.t 1))), (rO 5 (.load none (.t 4))), (rO 6 (.faddr 0 (.t 3))), ⟨none, 23, (.store none (.t 6) (.t 5)), none, [], none⟩]) (.seq (.reg false [] [(rO 7 (.faddr 1 (.t 1))), (rO 8 (.load none (.t 7))), (rO 9 (.faddr 1 (.t 3))), ⟨none, 23, (.store none (.t 9) (.t 8)), none, [], none⟩]) (.seq (.reg false [13] [(rO 10 (.faddr 2 (.t 1))), (rO 11 (.load (some 216) (.t 10))), (rO 12 (.call N.laws_toByteA6A6A6 [(.t 11)])), (rO 13 (.faddr 2 (.t 3))), ⟨none, 24, (.store (some 216) (.t 13) (.t 12)), none, [], none⟩]) (.seq (.reg false [17] [(rO 14 (.faddr 218 (.t 1))), (rO 15 (.load (some 6) (.t 14))), (rO 16 (.call N.laws_toVector [(.t 15)])), (rO 17 (.faddr 218 (.t 3))), ⟨none, 24, (.store (some 6) (.t 17) (.t 16)), none, [], none⟩]) (.seq (.reg false [] [(rO 18 (.load (some 224) (.t 3))), ⟨none, 21, (.store (some 224) (.t 2) (.t 18)), none, [], none⟩]) .ret)))))))⟩
theorem c_toAlgebra (hT : C_id P N.laws_toByteA6A6A6 216) (hV : C_id P N.laws_toVector 6) (hf : isFn P N.laws_toAlgebra (ir_laws_toAlgebra N) = true) : C_toAlgebra P N := by
  intro a
  have f1 := (algAt_one a).p
  have f2 := (algAt_one a).n
  have f3 := (algAt_one a).vecf
  obtain ⟨z, e, hz⟩ : ∃ z, ir_laws_toAlgebra N = irz_laws_toAlgebra z N ∧ z.length = 224 := ⟨_, rfl, rfl⟩
  rw [e] at hf
  refine can_of hf rfl rfl ?_
  (repeat' (conv => whnf)<;>first|exact True.intro|(refine if_ ?_ ?_<;>intro h<;>first|exact h.elim|(exfalso; omega)|skip)|refine vs_ ?_ (by first|exact alg_l1 hz | exact alg_l2 (g := Z) hz | exact alg_l3 hz|exact sd_)|refine dv_ ?_|exact fin_|(show ∃ _, _ ∧ _; refine ex_ ?_ (by first|with_reducible exact rfl|with_reducible exact f1|with_reducible exact f2|with_reducible exact f3|with_reducible exact alg_T|with_reducible exact alg_rd hz|with_reducible exact alg_rd2 hz|exact hT|exact hV|exact rd_))|(show ∃ _ _, _ ∧ _; refine ex2_ ?_ (by first|with_reducible exact rfl|with_reducible exact f1|with_reducible exact f2|with_reducible exact f3|with_reducible exact alg_T|with_reducible exact alg_rd hz|with_reducible exact alg_rd2 hz|exact hT|exact hV|exact rd_)))
end Go.X
