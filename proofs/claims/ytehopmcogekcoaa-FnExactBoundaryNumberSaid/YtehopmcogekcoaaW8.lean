import Derived.Test.YtehopmcogekcoaaW1
import Derived.Test.YtehopmcogekcoaaK1
set_option linter.all false
namespace Go.X
open Go Go.RowKit
set_option maxRecDepth 100000
set_option maxHeartbeats 8000000
set_option linter.unusedSimpArgs false
set_option linter.unusedVariables false
variable {P : Program} {N : FN}
def algT (a : Alg) : Nat → Int := fun q => a.T (q / 36) (q / 6 % 6) (q % 6)
theorem alg_T {a : Alg} : sub2 [algL a] 0 (0 + 2) 216 = some (cel .u8 216 (algT a)) := sub2_of (fun q hq => by
  have := algF_T a (i := q / 36) (j := q / 6 % 6) (k := q % 6) (by omega) (by omega) (by omega)
  rw [show 2 + q / 36 * 36 + q / 6 % 6 * 6 + q % 6 = 2 + q by omega] at this
  have h := algAt_one a (2 + q) (by omega)
  rw [this] at h
  rw [Nat.zero_add, ← Nat.zero_add (2 + q)]
  exact h) (by omega)
theorem alg_put {a : Alg} {z : List D} (hz : z.length = 224) :
    splice (splice ((z.set 0 (.int .i64 a.p)).set 1 (.int .i64 a.n)) 2 (cel .u8 216 (algT a))) 218 (cel .u8 6 a.f) = algL a := by
  have l1 : ((z.set 0 (.int .i64 a.p)).set 1 (.int .i64 a.n)).length = 224 := by simp [hz]
  have l2 : (splice ((z.set 0 (.int .i64 a.p)).set 1 (.int .i64 a.n)) 2 (cel .u8 216 (algT a))).length = 224 := by
    rw [splice_len (by rw [cel_len]; omega)]; exact l1
  refine arr_of (by rw [splice_len (by rw [cel_len]; omega)]; exact l2) fun q hq => ?_
  rw [splice_get (by rw [cel_len]; omega), splice_get (by rw [cel_len]; omega), cel_len, cel_len]
  by_cases c1 : 218 ≤ q
  · rw [if_pos (by omega), cel_get (by omega)]
    have := algF_f a (i := q - 218) (by omega)
    rw [show 218 + (q - 218) = q by omega] at this
    rw [this]
  · rw [if_neg (by omega)]
    by_cases c2 : 2 ≤ q
    · rw [if_pos (by omega), cel_get (by omega)]
      have := algF_T a (i := (q - 2) / 36) (j := (q - 2) / 6 % 6) (k := (q - 2) % 6) (by omega) (by omega) (by omega)
      rw [show 2 + (q - 2) / 36 * 36 + (q - 2) / 6 % 6 * 6 + (q - 2) % 6 = q by omega] at this
      rw [this]; rfl
    · rw [if_neg (by omega)]
      have : q = 0 ∨ q = 1 := by omega
      rcases this with rfl | rfl
      · rw [List.getElem?_set_ne (by omega), List.getElem?_set_self (by omega)]; rfl
      · rw [List.getElem?_set_self (by simp; omega)]; rfl
def C_toAlgebra (P : Program) (N : FN) : Prop := ∀ {a : Alg}, Can P N.laws_toAlgebra [algD a] (.val (algD a))
def pairZ (x : Pr) : Nat → Int := fun q => x.z (q / 6) (q % 6)
theorem pair_put {x : Pr} {z : List D} (hz : z.length = 484) :
    splice (splice (splice z 0 (algL x.c)) 224 (algL x.o)) 448 (cel .u8 36 (pairZ x)) = pairL x := by
  have hl : ∀ a : Alg, (algL a).length = 224 := fun a => arr_len ..
  have l1 : (splice z 0 (algL x.c)).length = 484 := by rw [splice_len (by rw [hl]; omega)]; exact hz
  have l2 : (splice (splice z 0 (algL x.c)) 224 (algL x.o)).length = 484 := by rw [splice_len (by rw [hl]; omega)]; exact l1
  refine arr_of (by rw [splice_len (by rw [cel_len]; omega)]; exact l2) fun q hq => ?_
  rw [splice_get (by rw [cel_len]; omega), splice_get (by rw [hl]; omega), splice_get (by rw [hl]; omega), cel_len, hl, hl]
  unfold pairF
  by_cases c1 : 448 ≤ q
  · rw [if_pos (by omega), cel_get (by omega), if_neg (by omega), if_neg (by omega)]; rfl
  · rw [if_neg (by omega)]
    by_cases c2 : 224 ≤ q
    · rw [if_pos (by omega), if_neg (by omega), if_pos (by omega)]
      exact arr_get (by omega)
    · rw [if_neg (by omega), if_pos (by omega), if_pos (by omega)]
      exact arr_get (by omega)
theorem algL_len2 (a : Alg) : (algL a).length = 224 := arr_len ..
theorem pairL_len (x : Pr) : (pairL x).length = 484 := arr_len ..
theorem sub2_one {l : List D} {n : Nat} (h : l.length = n) : sub2 [l] 0 0 n = some l := by
  simp only [sub2, List.getElem?_cons_zero, Option.bind_some, cut, Nat.zero_add, h, Nat.le_refl, if_true, List.drop_zero]
  rw [List.take_of_length_le (by omega)]
theorem splice_all {l m : List D} (h : m.length = l.length) : splice l 0 m = m := by
  unfold splice
  rw [List.take_zero, List.nil_append, h, Nat.zero_add, List.drop_length, List.append_nil]
theorem alg_rd {a : Alg} {z : List D} (hz : z.length = 224) :
    sub2 (((([z].set 0 (z.set (0 + 0) (.int .i64 a.p))).set 0 ((z.set (0 + 0) (.int .i64 a.p)).set (0 + 1) (.int .i64 a.n))).set 0 (splice ((z.set (0 + 0) (.int .i64 a.p)).set (0 + 1) (.int .i64 a.n)) (0 + 2) (cel .u8 216 (algT a)))).set 0 (splice (splice ((z.set (0 + 0) (.int .i64 a.p)).set (0 + 1) (.int .i64 a.n)) (0 + 2) (cel .u8 216 (algT a))) (0 + 218) (cel .u8 6 a.f))) 0 0 224 = some (algL a) := by
  simp only [List.set_cons_zero, Nat.zero_add]
  rw [alg_put hz]
  exact sub2_one (algL_len2 a)
theorem alg_rd2 {a : Alg} {z : List D} (hz : z.length = 224) : sub2 ([z].set 0 (splice z 0 (algL a))) 0 0 224 = some (algL a) := by
  rw [splice_all (by rw [algL_len2, hz]), List.set_cons_zero]
  exact sub2_one (algL_len2 a)
theorem pair_rd {x : Pr} {z : List D} (hz : z.length = 484) :
    sub2 ((([z].set 0 (splice z (0 + 0) (algL x.c))).set 0 (splice (splice z (0 + 0) (algL x.c)) (0 + 224) (algL x.o))).set 0 (splice (splice (splice z (0 + 0) (algL x.c)) (0 + 224) (algL x.o)) (0 + 448) (cel .u8 36 (pairZ x)))) 0 0 484 = some (pairL x) := by
  simp only [List.set_cons_zero, Nat.zero_add]
  rw [pair_put hz]
  exact sub2_one (pairL_len x)
theorem pair_rd2 {x : Pr} {z : List D} (hz : z.length = 484) : sub2 ([z].set 0 (splice z 0 (pairL x))) 0 0 484 = some (pairL x) := by
  rw [splice_all (by rw [pairL_len, hz]), List.set_cons_zero]
  exact sub2_one (pairL_len x)
theorem alg_l1 {z : List D} {x : D} (hz : z.length = 224) : 0 + 1 < (z.set (0 + 0) x).length := by rw [List.length_set]; omega
theorem alg_l2 {z : List D} {x y : D} {g : Nat → Int} (hz : z.length = 224) : 0 + 2 + 216 ≤ ((z.set (0 + 0) x).set (0 + 1) y).length := by rw [List.length_set, List.length_set]; omega
theorem alg_l3 {z : List D} {x y : D} {g : Nat → Int} (hz : z.length = 224) : 0 + 218 + 6 ≤ (splice ((z.set (0 + 0) x).set (0 + 1) y) (0 + 2) (cel .u8 216 g)).length := by
  rw [splice_len (by rw [cel_len, List.length_set, List.length_set]; omega), List.length_set, List.length_set]; omega
theorem pair_l1 {z : List D} {a : Alg} (hz : z.length = 484) : 0 + 224 + 224 ≤ (splice z (0 + 0) (algL a)).length := by
  rw [splice_len (by rw [algL_len2]; omega)]; omega
theorem pair_l2 {z : List D} {a b : Alg} (hz : z.length = 484) : 0 + 448 + 36 ≤ (splice (splice z (0 + 0) (algL a)) (0 + 224) (algL b)).length := by
  have h1 : (splice z (0 + 0) (algL a)).length = 484 := by rw [splice_len (by rw [algL_len2]; omega)]; exact hz
  rw [splice_len (by rw [algL_len2]; omega)]; omega
def irz_laws_toAlgebra (z : List D) (N : FN) : CF := ⟨1, 19, [(.cell 2 (some 224))], (.seq (.reg false [2, 3] [(rO 1 (.box (.t 0))), (rO 2 (.alloc z))]) (.seq (.reg false [4] [(rO 3 (.alloc z))]) (.seq (.reg false [] [(rO 4 (.faddr 0 (.t 1))), (rO 5 (.load none (.t 4))), (rO 6 (.faddr 0 (.t 3))), ⟨none, 23, (.store none (.t 6) (.t 5)), none, [], none⟩]) (.seq (.reg false [] [(rO 7 (.faddr 1 (.t 1))), (rO 8 (.load none (.t 7))), (rO 9 (.faddr 1 (.t 3))), ⟨none, 23, (.store none (.t 9) (.t 8)), none, [], none⟩]) (.seq (.reg false [13] [(rO 10 (.faddr 2 (.t 1))), (rO 11 (.load (some 216) (.t 10))), (rO 12 (.call N.laws_toByteA6A6A6 [(.t 11)])), (rO 13 (.faddr 2 (.t 3))), ⟨none, 24, (.store (some 216) (.t 13) (.t 12)), none, [], none⟩]) (.seq (.reg false [17] [(rO 14 (.faddr 218 (.t 1))), (rO 15 (.load (some 6) (.t 14))), (rO 16 (.call N.laws_toVector [(.t 15)])), (rO 17 (.faddr 218 (.t 3))), ⟨none, 24, (.store (some 6) (.t 17) (.t 16)), none, [], none⟩]) (.seq (.reg false [] [(rO 18 (.load (some 224) (.t 3))), ⟨none, 21, (.store (some 224) (.t 2) (.t 18)), none, [], none⟩]) .ret)))))))⟩
def irz_laws_toPair (z : List D) (N : FN) : CF := ⟨1, 17, [(.cell 2 (some 484))], (.seq (.reg false [2, 3] [(rO 1 (.box (.t 0))), (rO 2 (.alloc z))]) (.seq (.reg false [4] [(rO 3 (.alloc z))]) (.seq (.reg false [7] [(rO 4 (.faddr 0 (.t 1))), (rO 5 (.load (some 224) (.t 4))), (rO 6 (.call N.laws_toAlgebra [(.t 5)])), (rO 7 (.faddr 0 (.t 3))), ⟨none, 22, (.store (some 224) (.t 7) (.t 6)), none, [], none⟩]) (.seq (.reg false [11] [(rO 8 (.faddr 224 (.t 1))), (rO 9 (.load (some 224) (.t 8))), (rO 10 (.call N.laws_toAlgebra [(.t 9)])), (rO 11 (.faddr 224 (.t 3))), ⟨none, 22, (.store (some 224) (.t 11) (.t 10)), none, [], none⟩]) (.seq (.reg false [15] [(rO 12 (.faddr 448 (.t 1))), (rO 13 (.load (some 36) (.t 12))), (rO 14 (.call N.laws_toVectorA6 [(.t 13)])), (rO 15 (.faddr 448 (.t 3))), ⟨none, 22, (.store (some 36) (.t 15) (.t 14)), none, [], none⟩]) (.seq (.reg false [] [(rO 16 (.load (some 484) (.t 3))), ⟨none, 19, (.store (some 484) (.t 2) (.t 16)), none, [], none⟩]) .ret))))))⟩
theorem c_toAlgebra (hT : C_id P N.laws_toByteA6A6A6 216) (hV : C_id P N.laws_toVector 6) (hf : isFn P N.laws_toAlgebra (ir_laws_toAlgebra N) = true) : C_toAlgebra P N := by
  intro a
  have f1 := (algAt_one a).p
  have f2 := (algAt_one a).n
  have f3 := (algAt_one a).vecf
  obtain ⟨z, e, hz⟩ : ∃ z, ir_laws_toAlgebra N = irz_laws_toAlgebra z N ∧ z.length = 224 := ⟨_, rfl, rfl⟩
  rw [e] at hf
  refine can_of hf rfl rfl ?_
  (repeat' (conv => whnf) <;> first | exact True.intro | (refine if_ ?_ ?_ <;> intro h <;> first | exact h.elim | (exfalso; omega) | skip) | refine vs_ ?_ (by first | exact alg_l1 hz | exact alg_l2 (g := Z) hz | exact alg_l3 hz | exact sd_) | refine dv_ ?_ | exact fin_ | (show ∃ _, _ ∧ _; refine ex_ ?_ (by first | with_reducible exact rfl | with_reducible exact f1 | with_reducible exact f2 | with_reducible exact f3 | with_reducible exact alg_T | with_reducible exact alg_rd hz | with_reducible exact alg_rd2 hz | exact hT | exact hV | exact rd_)) | refine ex2_ ?_ (by first | with_reducible exact rfl | with_reducible exact f1 | with_reducible exact f2 | with_reducible exact f3 | with_reducible exact alg_T | with_reducible exact alg_rd hz | with_reducible exact alg_rd2 hz | exact hT | exact hV | exact rd_) | fail)
def C_toPair (P : Program) (N : FN) : Prop := ∀ {x : Pr}, Can P N.laws_toPair [pairD x] (.val (pairD x))
theorem c_toPair (hA : C_toAlgebra P N) (hV : C_id P N.laws_toVectorA6 36) (hf : isFn P N.laws_toPair (ir_laws_toPair N) = true) : C_toPair P N := by
  intro x
  have hx := pairAt_one x
  have hz' : sub2 [pairL x] 0 (0 + 448) 36 = some (cel .u8 36 (pairZ x)) := hx.zip
  have h1 := hx.c.all
  have h2 := hx.o.all
  obtain ⟨z, e, hz⟩ : ∃ z, ir_laws_toPair N = irz_laws_toPair z N ∧ z.length = 484 := ⟨_, rfl, rfl⟩
  rw [e] at hf
  refine can_of hf rfl rfl ?_
  (repeat' (conv => whnf) <;> first | exact True.intro | (refine if_ ?_ ?_ <;> intro h <;> first | exact h.elim | (exfalso; omega) | skip) | refine vs_ ?_ (by first | exact pair_l1 hz | exact pair_l2 hz | exact sd_) | refine dv_ ?_ | exact fin_ | (show ∃ _, _ ∧ _; refine ex_ ?_ (by first | with_reducible exact rfl | with_reducible exact h1 | with_reducible exact h2 | with_reducible exact hz' | exact hA | exact hV | with_reducible exact pair_rd hz | with_reducible exact pair_rd2 hz | exact rd_)) | refine ex2_ ?_ (by first | with_reducible exact rfl | with_reducible exact h1 | with_reducible exact h2 | with_reducible exact hz' | exact hA | exact hV | with_reducible exact pair_rd hz | with_reducible exact pair_rd2 hz | exact rd_) | fail)
end Go.X
namespace Go.X
open Go Go.RowKit
set_option maxRecDepth 100000
set_option maxHeartbeats 8000000
set_option linter.unusedSimpArgs false
set_option linter.unusedVariables false
variable {P : Program} {N : FN}
theorem algL_len (a : Alg) : (algL a).length = 224 := arr_len ..
theorem splA {a : Alg} {z : List D} (hz : z.length = 224) : splice z 0 (algL a) = algL a := by
  unfold splice
  rw [List.take_zero, List.nil_append, algL_len, List.drop_eq_nil_of_le (by omega), List.append_nil]
theorem c_sIs (hA : C_sAlgebra P N) (hC : C_sCommutative P N) (hF : C_sFrobenius P N) (hS : C_sSymmetric P N) (hV : C_sVector P N) (hB : C_sBasis P N) (hT : C_sTimes P N) (hZ : C_sZip P N) (hU : C_sUnit P N) (hf : isFn P N.spec_l10Is (ir_spec_l10Is N) = true) : C_sIs P N := by
  intro x hi
  have hx := pairAt_one x
  have hAc : Can P N.spec_l01Algebra [algD x.c] (.val (.bool (dB (sAlgP x.c)))) := hA hi.c.b hi.c.ok
  have hAo : Can P N.spec_l01Algebra [algD x.o] (.val (.bool (dB (sAlgP x.o)))) := hA hi.o.b hi.o.ok
  refine can_of hf rfl rfl ?_
  (repeat' (conv => whnf) <;> first | exact True.intro | (refine if_ ?_ ?_ <;> intro h <;> first | exact h.elim | (exfalso; omega) | skip) | refine vs_ ?_ | refine dv_ ?_ | exact fin_ | (show ∃ _, _ ∧ _; refine ex_ ?_ (by first | with_reducible exact rfl | exact hx.c.all | exact hx.o.all | exact rd_)) | refine ex2_ ?_ (by first | with_reducible exact rfl | exact hx.c.all | exact hx.o.all | exact rd_) | fail)
  rw [splA, splA, List.set_cons_zero, List.set_cons_zero]
  rotate_left
  · rfl
  · rfl
  by_cases g1 : sAlgP x.c
  · have g1' := can_t hAc g1
    have okc := hi.c.ok g1.1
    by_cases g2 : sAlgP x.o
    · have g2' := can_t hAo g2
      have oko := hi.o.ok g2.1
      by_cases g3 : x.c.p = x.o.p
      · have hCc : Can P N.spec_l01Commutative [algD x.c] (.val (.bool (dB (sCommP x.c)))) := by
          have := hC (a := x.c)
          rwa [show decide (∀ i : Nat, i < 6 → ∀ j : Nat, j < i → VEq (x.c.T i j) (x.c.T j i)) = dB (sCommP x.c) from by
            rw [Bool.eq_iff_iff, decide_eq_true_eq, dB_iff]; exact Iff.rfl] at this
        by_cases g4 : sCommP x.c
        · have g4' := can_t hCc g4
          have hFc := hF okc
          by_cases g5 : sFrobP x.c
          · have g5' := can_dt hFc g5
            have hFo := hF oko
            by_cases g6 : sFrobP x.o
            · have g6' := can_dt hFo g6
              have hSo := hS oko
              by_cases g7 : SymP x.o
              · have g7' := can_t hSo g7
                have hp2 := prime_bd oko.p
                have hnc := okc.n
                have hno := oko.n
                have hUc : Can P N.spec_l01Unit [algD x.c] (.val (vecD (sUnit x.c))) := hU okc
                have hUo : Can P N.spec_l01Unit [algD x.o] (.val (vecD (sUnit x.o))) := hU oko
                have uc := (sUnit_rw okc).byt (by have := prime_bd okc.p; omega)
                have hzp := hi.z
                (repeat' (conv => whnf) <;> first | exact True.intro | (refine if_ ?_ ?_ <;> intro h <;> first | exact h.elim | (exfalso; omega) | skip) | refine vs_ ?_ | refine dv_ ?_ | exact fin_ | (show ∃ _, _ ∧ _; refine ex_ ?_ (by first | with_reducible exact rfl | exact g1' | exact g2' | exact g4' | exact g5' | exact g6' | exact g7' | exact rd_)) | refine ex2_ ?_ (by first | with_reducible exact rfl | exact g1' | exact g2' | exact g4' | exact g5' | exact g6' | exact g7' | exact rd_) | fail)
                all_goals try (exact absurd g3 ‹_›)
                have ha : sAlgsP x := ⟨g1, g2, g3, g4, g5, g6, g7⟩
                conv => whnf
                refine vc_loop (α := Nat) 0 (fun i => 6 - i) (fun i => i ≤ 6 ∧ ∀ i', i' < i → sZipA x i') [] (fun i => [(5, .d (.int .i64 i))]) (fun i => []) lp_ ?_ ?_
                · (repeat' (conv => whnf) <;> first | exact True.intro | (refine if_ ?_ ?_ <;> intro h <;> first | exact h.elim | (exfalso; omega) | skip) | refine vs_ ?_ | refine dv_ ?_ | exact fin_ | (show ∃ _, _ ∧ _; refine ex_ ?_) | refine ex2_ ?_ | fail)
                · rintro i ⟨hi6, hall⟩
                  by_cases hlt : i < 6
                  · have hv := hV (a := x.o) (hzp i)
                    by_cases s1 : Small (x.z i) x.o.n x.o.p
                    · have hv1 := can_dt hv s1
                      by_cases s2 : x.c.n ≤ (i : Int)
                      · by_cases s3 : VEq (x.z i) Z
                        · (repeat' (conv => whnf) <;> first | exact True.intro | (refine if_ ?_ ?_ <;> intro h <;> first | exact h.elim | (exfalso; omega) | skip) | refine vs_ ?_ (by first | exact ⟨conf_vec _, conf_vec Z⟩ | exact sd_) | refine dv_ ?_ | exact fin_ | (show ∃ _, _ ∧ _; refine ex_ ?_ (by first | with_reducible exact rfl | exact hx.zv hlt | exact hv1 | exact eq_t s3 | exact rd_)) | refine ex2_ ?_ (by first | with_reducible exact rfl | exact hx.zv hlt | exact hv1 | exact eq_t s3 | exact rd_) | fail)
                          conv => whnf
                          refine ⟨i + 1, ⟨by omega, all_succ hall ⟨s1, fun _ => s3⟩⟩, by omega, ?_⟩
                          (repeat' (conv => whnf) <;> first | exact True.intro | (refine if_ ?_ ?_ <;> intro h <;> first | exact h.elim | (exfalso; omega) | skip) | refine vs_ ?_ | refine dv_ ?_ | exact fin_ | (show ∃ _, _ ∧ _; refine ex_ ?_) | refine ex2_ ?_ | fail)
                        · (repeat' (conv => whnf) <;> first | exact True.intro | (refine if_ ?_ ?_ <;> intro h <;> first | exact h.elim | (exfalso; omega) | skip) | refine vs_ ?_ (by first | exact ⟨conf_vec _, conf_vec Z⟩ | exact sd_) | refine dv_ ?_ | exact fin_ | (show ∃ _, _ ∧ _; refine ex_ ?_ (by first | with_reducible exact rfl | exact hx.zv hlt | exact hv1 | exact eq_f s3 | exact rd_)) | refine ex2_ ?_ (by first | with_reducible exact rfl | exact hx.zv hlt | exact hv1 | exact eq_f s3 | exact rd_) | fail)
                          all_goals (conv => whnf)
                          all_goals exact no (fun h => s3 ((h.2.1 i hlt).2 s2))
                      · (repeat' (conv => whnf) <;> first | exact True.intro | (refine if_ ?_ ?_ <;> intro h <;> first | exact h.elim | (exfalso; omega) | skip) | refine vs_ ?_ | refine dv_ ?_ | exact fin_ | (show ∃ _, _ ∧ _; refine ex_ ?_ (by first | with_reducible exact rfl | exact hx.zv hlt | exact hv1 | exact rd_)) | refine ex2_ ?_ (by first | with_reducible exact rfl | exact hx.zv hlt | exact hv1 | exact rd_) | fail)
                        conv => whnf
                        refine ⟨i + 1, ⟨by omega, all_succ hall ⟨s1, fun h => absurd h s2⟩⟩, by omega, ?_⟩
                        (repeat' (conv => whnf) <;> first | exact True.intro | (refine if_ ?_ ?_ <;> intro h <;> first | exact h.elim | (exfalso; omega) | skip) | refine vs_ ?_ | refine dv_ ?_ | exact fin_ | (show ∃ _, _ ∧ _; refine ex_ ?_) | refine ex2_ ?_ | fail)
                    · have hv1 := can_df hv s1
                      (repeat' (conv => whnf) <;> first | exact True.intro | (refine if_ ?_ ?_ <;> intro h <;> first | exact h.elim | (exfalso; omega) | skip) | refine vs_ ?_ | refine dv_ ?_ | exact fin_ | (show ∃ _, _ ∧ _; refine ex_ ?_ (by first | with_reducible exact rfl | exact hx.zv hlt | exact hv1 | exact rd_)) | refine ex2_ ?_ (by first | with_reducible exact rfl | exact hx.zv hlt | exact hv1 | exact rd_) | fail)
                      all_goals (conv => whnf)
                      all_goals exact no (fun h => s1 (h.2.1 i hlt).1)
                  · have hall6 : ∀ i', i' < 6 → sZipA x i' := fun i' h => hall i' (by omega)
                    (repeat' (conv => whnf) <;> first | exact True.intro | (refine if_ ?_ ?_ <;> intro h <;> first | exact h.elim | (exfalso; omega) | skip) | refine vs_ ?_ | refine dv_ ?_ | exact fin_ | (show ∃ _, _ ∧ _; refine ex_ ?_) | refine ex2_ ?_ | fail)
                    conv => whnf
                    refine vc_loop (α := Nat) 0 (fun i => x.c.n.toNat - i) (fun i => i ≤ x.c.n.toNat ∧ ∀ i' : Nat, i' < i → sZipB x i') [] (fun i => [(6, .d (.int .i64 i))]) (fun i => []) lp_ ?_ ?_
                    · (repeat' (conv => whnf) <;> first | exact True.intro | (refine if_ ?_ ?_ <;> intro h <;> first | exact h.elim | (exfalso; omega) | skip) | refine vs_ ?_ | refine dv_ ?_ | exact fin_ | (show ∃ _, _ ∧ _; refine ex_ ?_) | refine ex2_ ?_ | fail)
                    · rintro i ⟨hin, hallB⟩
                      by_cases hlt2 : i < x.c.n.toNat
                      · (repeat' (conv => whnf) <;> first | exact True.intro | (refine if_ ?_ ?_ <;> intro h <;> first | exact h.elim | (exfalso; omega) | skip) | refine vs_ ?_ | refine dv_ ?_ | exact fin_ | (show ∃ _, _ ∧ _; refine ex_ ?_) | refine ex2_ ?_ | fail)
                        conv => whnf
                        refine vc_loop (α := Nat) 0 (fun j => x.c.n.toNat - j) (fun j => j ≤ x.c.n.toNat ∧ ∀ j' : Nat, j' < j → VEq (zipN x.o.p x.z (x.c.T i j') x.c.n.toNat) (timesV x.o (x.z i) (x.z j'))) [] (fun j => [(6, .d (.int .i64 i)), (7, .d (.int .i64 j))]) (fun j => []) lp_ ?_ ?_
                        · (repeat' (conv => whnf) <;> first | exact True.intro | (refine if_ ?_ ?_ <;> intro h <;> first | exact h.elim | (exfalso; omega) | skip) | refine vs_ ?_ | refine dv_ ?_ | exact fin_ | (show ∃ _, _ ∧ _; refine ex_ ?_) | refine ex2_ ?_ | fail)
                        · rintro j ⟨hjn, hB1⟩
                          by_cases hlt3 : j < x.c.n.toNat
                          · have ht : Can P N.spec_l01Times [algD x.c, vecD (basV i), vecD (basV j)] (.val (vecD (x.c.T i j))) := by
                              have := hT (a := x.c) okc.b (basV_byt i) (basV_byt j) (by omega) (by omega)
                              rwa [show timesV x.c (basV i) (basV j) = x.c.T i j from funext fun k => bas_times okc (by omega) (by omega) k] at this
                            have hz := hZ (x := x) (v := x.c.T i j) (by omega) (by omega) hzp (okc.b.1 i j)
                            have ht2 := hT (a := x.o) oko.b (hzp i) (hzp j) (by omega) (by omega)
                            (repeat' (conv => whnf) <;> first | exact True.intro | (refine if_ ?_ ?_ <;> intro h <;> first | exact h.elim | (exfalso; omega) | skip) | refine vs_ ?_ (by first | exact ⟨conf_vec _, conf_vec _⟩ | exact sd_) | refine dv_ ?_ | exact fin_ | (show ∃ _, _ ∧ _; refine ex_ ?_ (by first | with_reducible exact rfl | exact hx.all | exact hB (by omega) | exact ht | exact hz | exact hx.zv (by omega) | exact ht2 | exact eq_vec | exact rd_)) | refine ex2_ ?_ (by first | with_reducible exact rfl | exact hx.all | exact hB (by omega) | exact ht | exact hz | exact hx.zv (by omega) | exact ht2 | exact eq_vec | exact rd_) | fail)
                            · conv => whnf
                              exact no (fun h => absurd ((h.2.2.1 i (by omega)).1 j (by omega)) ‹_›)
                            · conv => whnf
                              have hq : VEq (zipN x.o.p x.z (x.c.T i j) x.c.n.toNat) (timesV x.o (x.z i) (x.z j)) := by assumption
                              refine ⟨j + 1, ⟨by omega, all_succ hB1 hq⟩, by omega, ?_⟩
                              (repeat' (conv => whnf) <;> first | exact True.intro | (refine if_ ?_ ?_ <;> intro h <;> first | exact h.elim | (exfalso; omega) | skip) | refine vs_ ?_ | refine dv_ ?_ | exact fin_ | (show ∃ _, _ ∧ _; refine ex_ ?_) | refine ex2_ ?_ | fail)
                          · have hB2 : ∀ j : Nat, (j : Int) < x.c.n → VEq (zipN x.o.p x.z (x.c.T i j) x.c.n.toNat) (timesV x.o (x.z i) (x.z j)) := fun j' h => hB1 j' (by omega)
                            (repeat' (conv => whnf) <;> first | exact True.intro | (refine if_ ?_ ?_ <;> intro h <;> first | exact h.elim | (exfalso; omega) | skip) | refine vs_ ?_ | refine dv_ ?_ | exact fin_ | (show ∃ _, _ ∧ _; refine ex_ ?_) | refine ex2_ ?_ | fail)
                            conv => whnf
                            refine vc_loop (α := Nat) 0 (fun j => x.o.n.toNat - j) (fun j => j ≤ x.o.n.toNat ∧ ∀ j' : Nat, j' < j → VEq (timesV x.o (x.z i) (basV j')) (timesV x.o (basV j') (x.z i))) [] (fun j => [(6, .d (.int .i64 i)), (8, .d (.int .i64 j))]) (fun j => []) lp_ ?_ ?_
                            · (repeat' (conv => whnf) <;> first | exact True.intro | (refine if_ ?_ ?_ <;> intro h <;> first | exact h.elim | (exfalso; omega) | skip) | refine vs_ ?_ | refine dv_ ?_ | exact fin_ | (show ∃ _, _ ∧ _; refine ex_ ?_) | refine ex2_ ?_ | fail)
                            · rintro j ⟨hjn2, hB3⟩
                              by_cases hlt4 : j < x.o.n.toNat
                              · have ht1 := hT (a := x.o) oko.b (hzp i) (basV_byt j) (by omega) (by omega)
                                have ht2 := hT (a := x.o) oko.b (basV_byt j) (hzp i) (by omega) (by omega)
                                (repeat' (conv => whnf) <;> first | exact True.intro | (refine if_ ?_ ?_ <;> intro h <;> first | exact h.elim | (exfalso; omega) | skip) | refine vs_ ?_ (by first | exact ⟨conf_vec _, conf_vec _⟩ | exact sd_) | refine dv_ ?_ | exact fin_ | (show ∃ _, _ ∧ _; refine ex_ ?_ (by first | with_reducible exact rfl | exact hB (by omega) | exact hx.zv (by omega) | exact ht1 | exact ht2 | exact eq_vec | exact rd_)) | refine ex2_ ?_ (by first | with_reducible exact rfl | exact hB (by omega) | exact hx.zv (by omega) | exact ht1 | exact ht2 | exact eq_vec | exact rd_) | fail)
                                · conv => whnf
                                  exact no (fun h => absurd ((h.2.2.1 i (by omega)).2 j (by omega)) ‹_›)
                                · conv => whnf
                                  have hq : VEq (timesV x.o (x.z i) (basV j)) (timesV x.o (basV j) (x.z i)) := by assumption
                                  refine ⟨j + 1, ⟨by omega, all_succ hB3 hq⟩, by omega, ?_⟩
                                  (repeat' (conv => whnf) <;> first | exact True.intro | (refine if_ ?_ ?_ <;> intro h <;> first | exact h.elim | (exfalso; omega) | skip) | refine vs_ ?_ | refine dv_ ?_ | exact fin_ | (show ∃ _, _ ∧ _; refine ex_ ?_) | refine ex2_ ?_ | fail)
                              · have hzb : sZipB x i := ⟨hB2, fun j' h => hB3 j' (by omega)⟩
                                (repeat' (conv => whnf) <;> first | exact True.intro | (refine if_ ?_ ?_ <;> intro h <;> first | exact h.elim | (exfalso; omega) | skip) | refine vs_ ?_ | refine dv_ ?_ | exact fin_ | (show ∃ _, _ ∧ _; refine ex_ ?_) | refine ex2_ ?_ | fail)
                                conv => whnf
                                refine ⟨i + 1, ⟨by omega, all_succ hallB hzb⟩, by omega, ?_⟩
                                (repeat' (conv => whnf) <;> first | exact True.intro | (refine if_ ?_ ?_ <;> intro h <;> first | exact h.elim | (exfalso; omega) | skip) | refine vs_ ?_ | refine dv_ ?_ | exact fin_ | (show ∃ _, _ ∧ _; refine ex_ ?_) | refine ex2_ ?_ | fail)
                      · have hB4 : ∀ i : Nat, (i : Int) < x.c.n → sZipB x i := fun i' h => hallB i' (by omega)
                        have hz := hZ (x := x) (v := sUnit x.c) (by omega) (by omega) hzp uc
                        by_cases s5 : VEq (zipN x.o.p x.z (sUnit x.c) x.c.n.toNat) (sUnit x.o)
                        · (repeat' (conv => whnf) <;> first | exact True.intro | (refine if_ ?_ ?_ <;> intro h <;> first | exact h.elim | (exfalso; omega) | skip) | refine vs_ ?_ (by first | exact ⟨conf_vec _, conf_vec _⟩ | exact sd_) | refine dv_ ?_ | exact fin_ | (show ∃ _, _ ∧ _; refine ex_ ?_ (by first | with_reducible exact rfl | exact hx.all | exact hUc | exact hUo | exact hz | exact eq_t s5 | exact rd_)) | refine ex2_ ?_ (by first | with_reducible exact rfl | exact hx.all | exact hUc | exact hUo | exact hz | exact eq_t s5 | exact rd_) | fail)
                          all_goals (conv => whnf)
                          all_goals exact yes ⟨ha, hall6, hB4, s5⟩
                        · (repeat' (conv => whnf) <;> first | exact True.intro | (refine if_ ?_ ?_ <;> intro h <;> first | exact h.elim | (exfalso; omega) | skip) | refine vs_ ?_ (by first | exact ⟨conf_vec _, conf_vec _⟩ | exact sd_) | refine dv_ ?_ | exact fin_ | (show ∃ _, _ ∧ _; refine ex_ ?_ (by first | with_reducible exact rfl | exact hx.all | exact hUc | exact hUo | exact hz | exact eq_f s5 | exact rd_)) | refine ex2_ ?_ (by first | with_reducible exact rfl | exact hx.all | exact hUc | exact hUo | exact hz | exact eq_f s5 | exact rd_) | fail)
                          all_goals (conv => whnf)
                          all_goals exact no (fun h => s5 h.2.2.2)
              · have g7' := can_f hSo g7
                (repeat' (conv => whnf) <;> first | exact True.intro | (refine if_ ?_ ?_ <;> intro h <;> first | exact h.elim | (exfalso; omega) | skip) | refine vs_ ?_ | refine dv_ ?_ | exact fin_ | (show ∃ _, _ ∧ _; refine ex_ ?_ (by first | with_reducible exact rfl | exact g1' | exact g2' | exact g4' | exact g5' | exact g6' | exact g7' | exact rd_)) | refine ex2_ ?_ (by first | with_reducible exact rfl | exact g1' | exact g2' | exact g4' | exact g5' | exact g6' | exact g7' | exact rd_) | fail)
                all_goals (conv => whnf)
                all_goals exact no (fun h => g7 h.1.2.2.2.2.2.2)
            · have g6' := can_df hFo g6
              (repeat' (conv => whnf) <;> first | exact True.intro | (refine if_ ?_ ?_ <;> intro h <;> first | exact h.elim | (exfalso; omega) | skip) | refine vs_ ?_ | refine dv_ ?_ | exact fin_ | (show ∃ _, _ ∧ _; refine ex_ ?_ (by first | with_reducible exact rfl | exact g1' | exact g2' | exact g4' | exact g5' | exact g6' | exact rd_)) | refine ex2_ ?_ (by first | with_reducible exact rfl | exact g1' | exact g2' | exact g4' | exact g5' | exact g6' | exact rd_) | fail)
              all_goals (conv => whnf)
              all_goals exact no (fun h => g6 h.1.2.2.2.2.2.1)
          · have g5' := can_df hFc g5
            (repeat' (conv => whnf) <;> first | exact True.intro | (refine if_ ?_ ?_ <;> intro h <;> first | exact h.elim | (exfalso; omega) | skip) | refine vs_ ?_ | refine dv_ ?_ | exact fin_ | (show ∃ _, _ ∧ _; refine ex_ ?_ (by first | with_reducible exact rfl | exact g1' | exact g2' | exact g4' | exact g5' | exact rd_)) | refine ex2_ ?_ (by first | with_reducible exact rfl | exact g1' | exact g2' | exact g4' | exact g5' | exact rd_) | fail)
            all_goals (conv => whnf)
            all_goals exact no (fun h => g5 h.1.2.2.2.2.1)
        · have g4' := can_f hCc g4
          (repeat' (conv => whnf) <;> first | exact True.intro | (refine if_ ?_ ?_ <;> intro h <;> first | exact h.elim | (exfalso; omega) | skip) | refine vs_ ?_ | refine dv_ ?_ | exact fin_ | (show ∃ _, _ ∧ _; refine ex_ ?_ (by first | with_reducible exact rfl | exact g1' | exact g2' | exact g4' | exact rd_)) | refine ex2_ ?_ (by first | with_reducible exact rfl | exact g1' | exact g2' | exact g4' | exact rd_) | fail)
          all_goals (conv => whnf)
          all_goals exact no (fun h => g4 h.1.2.2.2.1)
      · (repeat' (conv => whnf) <;> first | exact True.intro | (refine if_ ?_ ?_ <;> intro h <;> first | exact h.elim | (exfalso; omega) | skip) | refine vs_ ?_ | refine dv_ ?_ | exact fin_ | (show ∃ _, _ ∧ _; refine ex_ ?_ (by first | with_reducible exact rfl | exact g1' | exact g2' | exact rd_)) | refine ex2_ ?_ (by first | with_reducible exact rfl | exact g1' | exact g2' | exact rd_) | fail)
        all_goals (conv => whnf)
        all_goals first | exact no (fun h => g3 h.1.2.2.1) | exact absurd ‹_› g3
    · have g2' := can_f hAo g2
      (repeat' (conv => whnf) <;> first | exact True.intro | (refine if_ ?_ ?_ <;> intro h <;> first | exact h.elim | (exfalso; omega) | skip) | refine vs_ ?_ | refine dv_ ?_ | exact fin_ | (show ∃ _, _ ∧ _; refine ex_ ?_ (by first | with_reducible exact rfl | exact g1' | exact g2' | exact rd_)) | refine ex2_ ?_ (by first | with_reducible exact rfl | exact g1' | exact g2' | exact rd_) | fail)
      all_goals (conv => whnf)
      all_goals exact no (fun h => g2 h.1.2.1)
  · have g1' := can_f hAc g1
    (repeat' (conv => whnf) <;> first | exact True.intro | (refine if_ ?_ ?_ <;> intro h <;> first | exact h.elim | (exfalso; omega) | skip) | refine vs_ ?_ | refine dv_ ?_ | exact fin_ | (show ∃ _, _ ∧ _; refine ex_ ?_ (by first | with_reducible exact rfl | exact g1' | exact rd_)) | refine ex2_ ?_ (by first | with_reducible exact rfl | exact g1' | exact rd_) | fail)
    all_goals (conv => whnf)
    all_goals exact no (fun h => g1 h.1.1)
end Go.X
namespace Go.X
open Go Go.RowKit
set_option maxRecDepth 100000
set_option maxHeartbeats 8000000
set_option linter.unusedSimpArgs false
set_option linter.unusedVariables false
variable {P : Program} {N : FN}
def sC (a : Alg) (j q r : Nat) : Row := fun c => if c < j ∨ c = j ∧ r < q then sCop a r c else 0
def tb (a : Alg) (j i r : Nat) : List (List D) := if r < i then row (a.n.toNat + 1) (sAug a j r) else row a.n.toNat (tabR a r)
theorem tb_get {a : Alg} {j i c : Nat} (h : i < c) : (arr c (tb a j i))[((i : Nat) : Int).toNat]? = some (row a.n.toNat (tabR a i)) := by
  rw [Int.toNat_natCast, arr_get h]; unfold tb; rw [if_neg (by omega)]
theorem tb_put {a : Alg} {j i c : Nat} {x : Int} (hx : x = if i = j then 1 else 0) :
    Chunk.nest 1 ((arr c (tb a j i)).set ((i : Nat) : Int).toNat (row a.n.toNat (tabR a i) ++ [[.int .i64 x]])) none = .nest 1 (arr c (tb a j (i + 1))) none := by
  subst hx
  rw [Int.toNat_natCast, arr_set]
  congr 1
  refine arr_ext fun r hr => ?_
  unfold upd tb
  by_cases e : r = i
  · subst e
    have e1 : row a.n.toNat (tabR a r) = row a.n.toNat (sAug a j r) := row_ext fun q hq => by unfold sAug; rw [if_pos hq]
    have e2 : sAug a j r a.n.toNat = if r = j then 1 else 0 := by unfold sAug; rw [if_neg (by omega)]
    rw [if_pos rfl, if_pos (show r < r + 1 by omega), e1, ← e2]
    exact (arr_succ ..).symm
  · rw [if_neg e]
    by_cases h : r < i
    · rw [if_pos h, if_pos (by omega)]
    · rw [if_neg h, if_neg (by omega)]
theorem tb_end {a : Alg} {j : Nat} : nestD 1 (arr a.n.toNat (tb a j a.n.toNat)) = rowsL (a.n.toNat + 1) (arr a.n.toNat (sAug a j)) := by
  unfold nestD rowsL
  rw [arr_map, arr_map]
  refine arr_ext fun r hr => ?_
  unfold tb; rw [if_pos hr]
theorem tb_zero {a : Alg} {j : Nat} : (arr a.n.toNat fun i => row a.n.toNat (tabR a i)) = arr a.n.toNat (tb a j 0) := arr_ext fun r _ => by
  unfold tb; rw [if_neg (by omega)]
def sCr (a : Alg) (j q r : Nat) : List (List D) := row a.n.toNat (sC a j q r)
theorem sC_get {a : Alg} {j q c : Nat} (h : q < c) : (arr c (sCr a j q))[((q : Nat) : Int).toNat]? = some (row a.n.toNat (sC a j q q)) := by
  rw [Int.toNat_natCast, arr_get h]; rfl
theorem sC_put {a : Alg} {j q c : Nat} {x : Int} (hx : x = sCop a q j) :
    Chunk.nest 1 ((arr c (sCr a j q)).set ((q : Nat) : Int).toNat ((row a.n.toNat (sC a j q q)).set ((j : Nat) : Int).toNat (([.int .i64 (sC a j q q j)] : List D).set 0 (.int .i64 x)))) none = .nest 1 (arr c (sCr a j (q + 1))) none := by
  subst hx
  rw [Int.toNat_natCast, arr_set]
  congr 1
  refine arr_ext fun r hr => ?_
  unfold upd
  by_cases e : r = q
  · subst e
    rw [if_pos rfl]
    have := row_set (m := a.n.toNat) (i := j) (z := 1) (f := sC a j r r) (g := sC a j (r + 1) r) (x := sCop a r j) (fun c _ => by
      unfold sC
      by_cases h : c = j
      · subst h; rw [if_pos rfl, if_pos (by omega)]
      · rw [if_neg h]
        by_cases h2 : c < j
        · rw [if_pos (.inl h2), if_pos (.inl h2)]
        · rw [if_neg (by omega), if_neg (by omega)])
    simp only [Chunk.data.injEq, true_and] at this
    exact this
  · rw [if_neg e]
    refine row_ext fun c _ => ?_
    unfold sC
    by_cases h : c < j ∨ c = j ∧ r < q
    · rw [if_pos h, if_pos (by omega)]
    · rw [if_neg h, if_neg (by omega)]
theorem sC_next {a : Alg} {j : Nat} : arr a.n.toNat (sCr a j a.n.toNat) = arr a.n.toNat (sCr a (j + 1) 0) := arr_ext fun r hr => row_ext fun c _ => by
  unfold sC
  by_cases h : c < j ∨ c = j ∧ r < a.n.toNat
  · rw [if_pos h, if_pos (by omega)]
  · rw [if_neg h, if_neg (by omega)]
theorem sC_zero {a : Alg} {n : Nat} : (arr n fun _ => row a.n.toNat Z) = arr n (sCr a 0 0) := arr_ext fun r _ => row_ext fun c _ => by
  unfold sC; rw [if_neg (by omega)]; rfl
theorem sC_end {a : Alg} : nestD 1 (arr a.n.toNat (sCr a a.n.toNat 0)) = rowsL a.n.toNat (arr a.n.toNat (sCop a)) := by
  unfold nestD rowsL
  rw [arr_map, arr_map]
  refine arr_ext fun r hr => ?_
  have : sCr a a.n.toNat 0 r = row a.n.toNat (sCop a r) := row_ext fun c hc => by unfold sC; rw [if_pos (.inl hc)]
  rw [this]
theorem nest_zero {n i : Nat} : Chunk.nest 1 ((arr i (fun _ => row n Z) ++ [([] : List (List D))]).set (arr i (fun _ => row n Z)).length (List.replicate ((n : Nat) : Int).toNat ([.int .i64 0] : List D))) none = .nest 1 (arr (i + 1) fun _ => row n Z) none := by
  rw [List.set_append_right _ _ (Nat.le_refl _), Nat.sub_self, arr_succ, Int.toNat_natCast]
  congr 2
  show [List.replicate n ([.int .i64 0] : List D)] = _
  rw [arr_replicate]; rfl
theorem c_sCop (hT : C_sTableN P N) (hS : C_sSolve P N) (hf : isFn P N.spec_l02Copairing (ir2_spec_l02Copairing N) = true) : C_sCop P N := by
  intro a ha hcol
  have hn := ha.n
  have hp2 := prime_bd ha.p
  have hT' := fun j => (tb_zero (a := a) (j := j)) ▸ hT ha
  have hS' : ∀ j, j < a.n.toNat → Can P N.spec_l01Solve [.int .i64 a.p, .lst 1 (nestD 1 (arr a.n.toNat (tb a j a.n.toNat)))] (.tup [rowD a.n.toNat ((sCol a j).getD Z), .bool true]) := fun j hj => by
    have hR : RwL a.p (arr a.n.toNat (sAug a j)) := fun r hr => by
      simp only [arr, List.mem_map] at hr
      obtain ⟨i', _, rfl⟩ := hr
      intro q
      unfold sAug
      split
      · exact tabR_rw ha i' q
      · split <;> omega
    have h := hS (n := a.n.toNat) (L := arr a.n.toNat (sAug a j)) (by omega) (by rw [arr_len]; omega) ha.p hR
    rw [tb_end]
    have hc := hcol j hj
    have e : sSolveF a.p a.n.toNat (arr a.n.toNat (sAug a j)) = sCol a j := rfl
    rw [e] at h
    cases hs : sCol a j with
    | none => rw [hs] at hc; cases hc
    | some r => rw [hs] at h; exact h
  refine can_of hf rfl rfl ?_
  (repeat' (conv => whnf) <;> first | exact True.intro | (refine if_ ?_ ?_ <;> intro h <;> first | exact h.elim | (exfalso; omega) | skip) | refine vs_ ?_ | refine dv_ ?_ | exact fin_ | (show ∃ _, _ ∧ _; refine ex_ ?_) | refine ex2_ ?_ | fail)
  conv => whnf
  refine vc_loop (α := Nat) 0 (fun i => a.n.toNat - i) (fun i => i ≤ a.n.toNat) [] (fun i => [(4, .row 5 1), (5, .d (.int .i64 i))]) (fun i => [(5, .nest 1 (arr i fun _ => row a.n.toNat Z) none)]) lp_ ?_ ?_
  · (repeat' (conv => whnf) <;> first | exact True.intro | (refine if_ ?_ ?_ <;> intro h <;> first | exact h.elim | (exfalso; omega) | skip) | refine vs_ ?_ | refine dv_ ?_ | exact fin_ | (show ∃ _, _ ∧ _; refine ex_ ?_) | refine ex2_ ?_ | fail)
  · intro i hi
    by_cases hlt : i < a.n.toNat
    · (repeat' (conv => whnf) <;> first | exact True.intro | (refine if_ ?_ ?_ <;> intro h <;> first | exact h.elim | (exfalso; omega) | skip) | refine vs_ ?_ | refine dv_ ?_ | exact fin_ | (show ∃ _, _ ∧ _; refine ex_ ?_) | refine ex2_ ?_ | fail)
      conv => whnf
      refine ⟨i + 1, by omega, by omega, ?_⟩
      (repeat' (conv => whnf) <;> first | exact True.intro | (refine if_ ?_ ?_ <;> intro h <;> first | exact h.elim | (exfalso; omega) | skip) | refine vs_ ?_ (by first | exact nest_zero | exact sd_) | refine dv_ ?_ | exact fin_ | (show ∃ _, _ ∧ _; refine ex_ ?_) | refine ex2_ ?_ | fail)
    · have : i = a.n.toNat := by omega
      rw [this, sC_zero]
      (repeat' (conv => whnf) <;> first | exact True.intro | (refine if_ ?_ ?_ <;> intro h <;> first | exact h.elim | (exfalso; omega) | skip) | refine vs_ ?_ | refine dv_ ?_ | exact fin_ | (show ∃ _, _ ∧ _; refine ex_ ?_) | refine ex2_ ?_ | fail)
      conv => whnf
      refine vc_loop (α := Nat) 0 (fun j => a.n.toNat - j) (fun j => j ≤ a.n.toNat) [] (fun j => [(4, .row 5 1), (6, .d (.int .i64 j))]) (fun j => [(5, .nest 1 (arr a.n.toNat (sCr a j 0)) none)]) lp_ ?_ ?_
      · (repeat' (conv => whnf) <;> first | exact True.intro | (refine if_ ?_ ?_ <;> intro h <;> first | exact h.elim | (exfalso; omega) | skip) | refine vs_ ?_ | refine dv_ ?_ | exact fin_ | (show ∃ _, _ ∧ _; refine ex_ ?_) | refine ex2_ ?_ | fail)
      · intro j hj
        by_cases hlt2 : j < a.n.toNat
        · (repeat' (conv => whnf) <;> first | exact True.intro | (refine if_ ?_ ?_ <;> intro h <;> first | exact h.elim | (exfalso; omega) | skip) | refine vs_ ?_ | refine dv_ ?_ | exact fin_ | (show ∃ _, _ ∧ _; refine ex_ ?_ (by first | with_reducible exact rfl | exact hT' j | exact rd_)) | refine ex2_ ?_ (by first | with_reducible exact rfl | exact hT' j | exact rd_) | fail)
          conv => whnf
          refine vc_loop (α := Nat) 0 (fun i => a.n.toNat - i) (fun i => i ≤ a.n.toNat) [] (fun i => [(4, .row 5 1), (6, .d (.int .i64 j)), (7, .row 8 1), (8, .d (.int .i64 i))]) (fun i => [(5, .nest 1 (arr a.n.toNat (sCr a j 0)) none), (8, .nest 1 (arr a.n.toNat (tb a j i)) none)]) lp_ ?_ ?_
          · (repeat' (conv => whnf) <;> first | exact True.intro | (refine if_ ?_ ?_ <;> intro h <;> first | exact h.elim | (exfalso; omega) | skip) | refine vs_ ?_ | refine dv_ ?_ | exact fin_ | (show ∃ _, _ ∧ _; refine ex_ ?_) | refine ex2_ ?_ | fail)
          · intro i hi
            by_cases hlt3 : i < a.n.toNat
            · by_cases hij : i = j
              · (repeat' (conv => whnf) <;> first | exact True.intro | (refine if_ ?_ ?_ <;> intro h <;> first | exact h.elim | (exfalso; omega) | skip) | refine vs_ ?_ | refine dv_ ?_ | exact fin_ | (show ∃ _, _ ∧ _; refine ex_ ?_ (by first | with_reducible exact rfl | exact tb_get hlt3 | exact rd_)) | refine ex2_ ?_ (by first | with_reducible exact rfl | exact tb_get hlt3 | exact rd_) | fail)
                all_goals (conv => whnf)
                all_goals (refine ⟨i + 1, by omega, by omega, ?_⟩)
                (repeat' (conv => whnf) <;> first | exact True.intro | (refine if_ ?_ ?_ <;> intro h <;> first | exact h.elim | (exfalso; omega) | skip) | refine vs_ ?_ (by first | exact tb_put (by rw [if_pos hij]) | exact sd_) | refine dv_ ?_ | exact fin_ | (show ∃ _, _ ∧ _; refine ex_ ?_) | refine ex2_ ?_ | fail)
              · (repeat' (conv => whnf) <;> first | exact True.intro | (refine if_ ?_ ?_ <;> intro h <;> first | exact h.elim | (exfalso; omega) | skip) | refine vs_ ?_ | refine dv_ ?_ | exact fin_ | (show ∃ _, _ ∧ _; refine ex_ ?_ (by first | with_reducible exact rfl | exact tb_get hlt3 | exact rd_)) | refine ex2_ ?_ (by first | with_reducible exact rfl | exact tb_get hlt3 | exact rd_) | fail)
                all_goals (conv => whnf)
                all_goals (refine ⟨i + 1, by omega, by omega, ?_⟩)
                (repeat' (conv => whnf) <;> first | exact True.intro | (refine if_ ?_ ?_ <;> intro h <;> first | exact h.elim | (exfalso; omega) | skip) | refine vs_ ?_ (by first | exact tb_put (by rw [if_neg hij]) | exact sd_) | refine dv_ ?_ | exact fin_ | (show ∃ _, _ ∧ _; refine ex_ ?_) | refine ex2_ ?_ | fail)
            · have : i = a.n.toNat := by omega
              rw [this]
              (repeat' (conv => whnf) <;> first | exact True.intro | (refine if_ ?_ ?_ <;> intro h <;> first | exact h.elim | (exfalso; omega) | skip) | refine vs_ ?_ | refine dv_ ?_ | exact fin_ | (show ∃ _, _ ∧ _; refine ex_ ?_ (by first | with_reducible exact rfl | exact hS' j hlt2 | exact rd_)) | refine ex2_ ?_ (by first | with_reducible exact rfl | exact hS' j hlt2 | exact rd_) | fail)
              conv => whnf
              refine vc_loop (α := Nat) 0 (fun q => a.n.toNat - q) (fun q => q ≤ a.n.toNat) [] (fun q => [(4, .row 5 1), (6, .d (.int .i64 j)), (10, .d (rowD a.n.toNat ((sCol a j).getD Z))), (12, .d (.int .i64 q))]) (fun q => [(5, .nest 1 (arr a.n.toNat (sCr a j q)) none)]) lp_ ?_ ?_
              · (repeat' (conv => whnf) <;> first | exact True.intro | (refine if_ ?_ ?_ <;> intro h <;> first | exact h.elim | (exfalso; omega) | skip) | refine vs_ ?_ | refine dv_ ?_ | exact fin_ | (show ∃ _, _ ∧ _; refine ex_ ?_) | refine ex2_ ?_ | fail)
              · intro q hq
                by_cases hlt4 : q < a.n.toNat
                · (repeat' (conv => whnf) <;> first | exact True.intro | (refine if_ ?_ ?_ <;> intro h <;> first | exact h.elim | (exfalso; omega) | skip) | refine vs_ ?_ | refine dv_ ?_ | exact fin_ | (show ∃ _, _ ∧ _; refine ex_ ?_ (by first | with_reducible exact rfl | exact sC_get hlt4 | exact rd_)) | refine ex2_ ?_ (by first | with_reducible exact rfl | exact sC_get hlt4 | exact rd_) | fail)
                  conv => whnf
                  refine ⟨q + 1, by omega, by omega, ?_⟩
                  (repeat' (conv => whnf) <;> first | exact True.intro | (refine if_ ?_ ?_ <;> intro h <;> first | exact h.elim | (exfalso; omega) | skip) | refine vs_ ?_ (by first | exact sC_put rfl | exact sd_) | refine dv_ ?_ | exact fin_ | (show ∃ _, _ ∧ _; refine ex_ ?_) | refine ex2_ ?_ | fail)
                · have : q = a.n.toNat := by omega
                  rw [this, sC_next]
                  (repeat' (conv => whnf) <;> first | exact True.intro | (refine if_ ?_ ?_ <;> intro h <;> first | exact h.elim | (exfalso; omega) | skip) | refine vs_ ?_ | refine dv_ ?_ | exact fin_ | (show ∃ _, _ ∧ _; refine ex_ ?_) | refine ex2_ ?_ | fail)
                  conv => whnf
                  refine ⟨j + 1, by omega, by omega, ?_⟩
                  (repeat' (conv => whnf) <;> first | exact True.intro | (refine if_ ?_ ?_ <;> intro h <;> first | exact h.elim | (exfalso; omega) | skip) | refine vs_ ?_ | refine dv_ ?_ | exact fin_ | (show ∃ _, _ ∧ _; refine ex_ ?_) | refine ex2_ ?_ | fail)
        · have : j = a.n.toNat := by omega
          rw [this]
          (repeat' (conv => whnf) <;> first | exact True.intro | (refine if_ ?_ ?_ <;> intro h <;> first | exact h.elim | (exfalso; omega) | skip) | refine vs_ ?_ | refine dv_ ?_ | exact fin_ | (show ∃ _, _ ∧ _; refine ex_ ?_) | refine ex2_ ?_ | fail)
          conv => whnf
          exact congrArg (D.lst 1) sC_end
end Go.X
