import Derived.Test.YtckpoeaagbmlbaaGreatK5
import Derived.Test.YtckpoeaagbmlbaaGreatW7
set_option linter.all false
namespace Go.X
open Go Go.RowKit
set_option maxRecDepth 100000
set_option maxHeartbeats 8000000
variable {P : Program} {N : FN}
theorem c_szVS (hf : isFn P N.laws_szVectorS (ir_laws_szVectorS N) = true) : C_szVS P N := by
  intro m s k hm hk
  have hl : (arr m fun i => vecL (s i)).length = m := arr_len ..
  refine can_of hf rfl rfl ?_
  by_cases g : k < m
  · rw [if_pos g]
    (repeat' (conv => whnf) <;> first | exact True.intro | (refine if_ ?_ ?_ <;> intro h <;> first | exact h.elim | (exfalso; omega) | skip) | refine vs_ ?_ | refine dv_ ?_ | exact fin_ | (show ∃ _, _ ∧ _; refine ex_ ?_) | (show ∃ _ _, _ ∧ _; refine ex2_ ?_) | fail)
  · rw [if_neg g]
    (repeat' (conv => whnf) <;> first | exact True.intro | (refine if_ ?_ ?_ <;> intro h <;> first | exact h.elim | (exfalso; omega) | skip) | refine vs_ ?_ | refine dv_ ?_ | exact fin_ | (show ∃ _, _ ∧ _; refine ex_ ?_) | (show ∃ _ _, _ ∧ _; refine ex2_ ?_) | fail)
    all_goals (conv => whnf)
    all_goals rw [hl]
theorem c_toVS (hV : C_id P N.laws_toVector 6) (hf : isFn P N.laws_toVectorS (ir_laws_toVectorS N) = true) : C_toVS P N := by
  intro m s hm
  have hl : (arr m fun i => vecL (s i)).length = m := arr_len ..
  have hV' : ∀ i, Can P N.laws_toVector [vecD (s i)] (.val (vecD (s i))) := fun i => hV
  refine can_of hf rfl rfl ?_
  (repeat' (conv => whnf) <;> first | exact True.intro | (refine if_ ?_ ?_ <;> intro h <;> first | exact h.elim | (exfalso; omega) | skip) | refine vs_ ?_ | refine dv_ ?_ | exact fin_ | (show ∃ _, _ ∧ _; refine ex_ ?_) | (show ∃ _ _, _ ∧ _; refine ex2_ ?_) | fail)
  conv => whnf
  refine vc_loop (α := Nat) 0 (fun i => m - i) (fun i => i ≤ m) [] (fun i => [(3, .row 8 6), (4, .d (.int .i64 i))]) (fun i => [(8, .data 6 (arr m fun j => vecL (progV i s j)))]) lp_ ?_ ?_
  · (repeat' (conv => whnf) <;> first | exact True.intro | (refine if_ ?_ ?_ <;> intro h <;> first | exact h.elim | (exfalso; omega) | skip) | refine vs_ ?_ (by first | exact rep_vecs hl | exact sd_) | refine dv_ ?_ | exact fin_ | (show ∃ _, _ ∧ _; refine ex_ ?_) | (show ∃ _ _, _ ∧ _; refine ex2_ ?_) | fail)
  · intro i hi
    by_cases hlt : i < m
    · (repeat' (conv => whnf) <;> first | exact True.intro | (refine if_ ?_ ?_ <;> intro h <;> first | exact h.elim | (exfalso; omega) | skip) | refine vs_ ?_ | refine dv_ ?_ | exact fin_ | (show ∃ _, _ ∧ _; refine ex_ ?_ (by first | with_reducible exact rfl | with_reducible exact rd_vecs (by omega) | exact hV' i | with_reducible exact get_vecs (by omega) | exact rd_)) | (show ∃ _ _, _ ∧ _; refine ex2_ ?_ (by first | with_reducible exact rfl | with_reducible exact rd_vecs (by omega) | exact hV' i | with_reducible exact get_vecs (by omega) | exact rd_)) | fail)
      conv => whnf
      refine ⟨i + 1, by omega, by omega, ?_⟩
      (repeat' (conv => whnf) <;> first | exact True.intro | (refine if_ ?_ ?_ <;> intro h <;> first | exact h.elim | (exfalso; omega) | skip) | refine vs_ ?_ (by first | exact st_vecs hlt | exact sd_) | refine dv_ ?_ | exact fin_ | (show ∃ _, _ ∧ _; refine ex_ ?_) | (show ∃ _ _, _ ∧ _; refine ex2_ ?_) | fail)
    · have : i = m := by omega
      subst this
      (repeat' (conv => whnf) <;> first | exact True.intro | (refine if_ ?_ ?_ <;> intro h <;> first | exact h.elim | (exfalso; omega) | skip) | refine vs_ ?_ | refine dv_ ?_ | exact fin_ | (show ∃ _, _ ∧ _; refine ex_ ?_) | (show ∃ _ _, _ ∧ _; refine ex2_ ?_) | fail)
      all_goals exact congrArg (D.lst 6) all_vecs
theorem c_eqVS (hE : C_eqVector P N) (hf : isFn P N.laws_eqVectorS (ir_laws_eqVectorS N) = true) : C_eqVS P N := by
  intro m q s t hm hq
  have hl : (arr m fun i => vecL (s i)).length = m := arr_len ..
  have hl2 : (arr q fun i => vecL (t i)).length = q := arr_len ..
  refine can_of hf rfl rfl ?_
  by_cases g : m = q
  · subst g
    (repeat' (conv => whnf) <;> first | exact True.intro | (refine if_ ?_ ?_ <;> intro h <;> first | exact h.elim | (exfalso; omega) | skip) | refine vs_ ?_ | refine dv_ ?_ | exact fin_ | (show ∃ _, _ ∧ _; refine ex_ ?_) | (show ∃ _ _, _ ∧ _; refine ex2_ ?_) | fail)
    conv => whnf
    refine vc_loop (α := Nat) 0 (fun i => m - i) (fun i => i ≤ m ∧ ∀ j, j < i → VEq (s j) (t j)) [] (fun i => [(5, .d (.int .i64 i))]) (fun i => []) lp_ ?_ ?_
    · (repeat' (conv => whnf) <;> first | exact True.intro | (refine if_ ?_ ?_ <;> intro h <;> first | exact h.elim | (exfalso; omega) | skip) | refine vs_ ?_ | refine dv_ ?_ | exact fin_ | (show ∃ _, _ ∧ _; refine ex_ ?_) | (show ∃ _ _, _ ∧ _; refine ex2_ ?_) | fail)
    · rintro i ⟨hi, hall⟩
      by_cases hlt : i < m
      · by_cases c : VEq (s i) (t i)
        · have hE' := can_t (hE (v := s i) (w := t i)) c
          (repeat' (conv => whnf) <;> first | exact True.intro | (refine if_ ?_ ?_ <;> intro h <;> first | exact h.elim | (exfalso; omega) | skip) | refine vs_ ?_ | refine dv_ ?_ | exact fin_ | (show ∃ _, _ ∧ _; refine ex_ ?_ (by first | with_reducible exact rfl | with_reducible exact rd_vecs (by omega) | exact hE' | exact rd_)) | (show ∃ _ _, _ ∧ _; refine ex2_ ?_ (by first | with_reducible exact rfl | with_reducible exact rd_vecs (by omega) | exact hE' | exact rd_)) | fail)
          conv => whnf
          refine ⟨i + 1, ⟨by omega, all_succ hall c⟩, by omega, ?_⟩
          (repeat' (conv => whnf) <;> first | exact True.intro | (refine if_ ?_ ?_ <;> intro h <;> first | exact h.elim | (exfalso; omega) | skip) | refine vs_ ?_ | refine dv_ ?_ | exact fin_ | (show ∃ _, _ ∧ _; refine ex_ ?_) | (show ∃ _ _, _ ∧ _; refine ex2_ ?_) | fail)
        · have hE' := can_f (hE (v := s i) (w := t i)) c
          rw [dB_f (fun h => c (h.2 i hlt))]
          (repeat' (conv => whnf) <;> first | exact True.intro | (refine if_ ?_ ?_ <;> intro h <;> first | exact h.elim | (exfalso; omega) | skip) | refine vs_ ?_ | refine dv_ ?_ | exact fin_ | (show ∃ _, _ ∧ _; refine ex_ ?_ (by first | with_reducible exact rfl | with_reducible exact rd_vecs (by omega) | exact hE' | exact rd_)) | (show ∃ _ _, _ ∧ _; refine ex2_ ?_ (by first | with_reducible exact rfl | with_reducible exact rd_vecs (by omega) | exact hE' | exact rd_)) | fail)
      · rw [dB_t ⟨rfl, fun j hj => hall j (by omega)⟩]
        (repeat' (conv => whnf) <;> first | exact True.intro | (refine if_ ?_ ?_ <;> intro h <;> first | exact h.elim | (exfalso; omega) | skip) | refine vs_ ?_ | refine dv_ ?_ | exact fin_ | (show ∃ _, _ ∧ _; refine ex_ ?_) | (show ∃ _ _, _ ∧ _; refine ex2_ ?_) | fail)
  · rw [dB_f (fun h => g h.1)]
    (repeat' (conv => whnf) <;> first | exact True.intro | (refine if_ ?_ ?_ <;> intro h <;> first | exact h.elim | (exfalso; omega) | skip) | refine vs_ ?_ | refine dv_ ?_ | exact fin_ | (show ∃ _, _ ∧ _; refine ex_ ?_) | (show ∃ _ _, _ ∧ _; refine ex2_ ?_) | fail)
theorem c_valid1 (hV : C_isVector P N) (hf : isFn P N.impl_valid_1 (ir_impl_valid_1 N) = true) : C_valid1 P N := by
  intro sz l e off a v ha hv
  have hV' := hV (n := a.n) (p := a.p) hv
  refine can_of hf rfl rfl ?_
  (repeat' (conv => whnf) <;> first | exact True.intro | (refine if_ ?_ ?_ <;> intro h <;> first | exact h.elim | (exfalso; omega) | skip) | refine vs_ ?_ | refine dv_ ?_ | exact fin_ | (show ∃ _, _ ∧ _; refine ex_ ?_ (by first | with_reducible exact rfl | exact hV' | exact rd_)) | (show ∃ _ _, _ ∧ _; refine ex2_ ?_ (by first | with_reducible exact rfl | exact hV' | exact rd_)) | fail)
theorem contains_no {P : Program} {f : FuncId} {as : List D} {q : Nat → Bool} {m : Nat} (h : Can P f as (.val (.bool (decide (0 ≤ idxF q m))))) (hq : ∀ i, i < m → q i = false) : Can P f as (.val (.bool false)) := by
  rwa [idxF_none hq, show decide (0 ≤ (-1 : Int)) = false from rfl] at h
theorem contains_yes {P : Program} {f : FuncId} {as : List D} {q : Nat → Bool} {m : Nat} (h : Can P f as (.val (.bool (decide (0 ≤ idxF q m))))) (hq : ∃ i, i < m ∧ q i = true) : Can P f as (.val (.bool true)) := by
  rcases idxF_cases q m with ⟨_, h2⟩ | ⟨i, _, h2, _⟩
  · obtain ⟨i, hi, h3⟩ := hq
    rw [h2 i hi] at h3; cases h3
  · rwa [h2, decide_eq_true (by omega)] at h
theorem not_allSm {a : Alg} {m : Nat} {s : Nat → Nat → Int} (h : ¬ AllSm a m s) : ∃ i, i < m ∧ (!decide (Small (s i) a.n a.p)) = true := by
  apply Classical.byContradiction
  intro g
  refine h fun i hi => ?_
  apply Classical.byContradiction
  intro g2
  exact g ⟨i, hi, by simp [g2]⟩
theorem c_validL (hA : C_IsAlgebra P N) (hC : C_ContainsVec P N) (h1 : C_valid1 P N) (hf : isFn P N.impl_valid (ir_impl_valid N) = true) : C_validL P N := by
  intro a q s hi hq hs
  have ha := algAt_one a
  have hal := ha.all
  have hA' := hA (a := a) hi.b hi.ok
  have hC' := hC (m := q) (f := s) (g := N.impl_valid_1) (c := .pd (algL a).length [algL a] 0 0) (q := fun i => !decide (Small (s i) a.n a.p)) hq (fun i _ => h1 ha (hs i))
  refine can_of hf rfl rfl ?_
  by_cases g : IsAlgP a
  · have hA2 := can_t hA' g
    by_cases c : AllSm a q s
    · have hC2 := contains_no hC' (fun i hi => by simp [c i hi])
      rw [dB_t ⟨g, c⟩, if_pos rfl]
      (repeat' (conv => whnf) <;> first | exact True.intro | (refine if_ ?_ ?_ <;> intro h <;> first | exact h.elim | (exfalso; omega) | skip) | refine vs_ ?_ | refine dv_ ?_ | exact fin_ | (show ∃ _, _ ∧ _; refine ex_ ?_ (by first | with_reducible exact rfl | with_reducible exact hal | exact hA2 | exact hC2 | exact rd_)) | (show ∃ _ _, _ ∧ _; refine ex2_ ?_ (by first | with_reducible exact rfl | with_reducible exact hal | exact hA2 | exact hC2 | exact rd_)) | fail)
    · have hC2 := contains_yes hC' (not_allSm c)
      rw [dB_f (fun h => c h.2), if_neg (by simp)]
      (repeat' (conv => whnf) <;> first | exact True.intro | (refine if_ ?_ ?_ <;> intro h <;> first | exact h.elim | (exfalso; omega) | skip) | refine vs_ ?_ | refine dv_ ?_ | exact fin_ | (show ∃ _, _ ∧ _; refine ex_ ?_ (by first | with_reducible exact rfl | with_reducible exact hal | exact hA2 | exact hC2 | exact rd_)) | (show ∃ _ _, _ ∧ _; refine ex2_ ?_ (by first | with_reducible exact rfl | with_reducible exact hal | exact hA2 | exact hC2 | exact rd_)) | fail)
  · have hA2 := can_f hA' g
    rw [dB_f (fun h => g h.1), if_neg (by simp)]
    (repeat' (conv => whnf) <;> first | exact True.intro | (refine if_ ?_ ?_ <;> intro h <;> first | exact h.elim | (exfalso; omega) | skip) | refine vs_ ?_ | refine dv_ ?_ | exact fin_ | (show ∃ _, _ ∧ _; refine ex_ ?_ (by first | with_reducible exact rfl | with_reducible exact hal | exact hA2 | exact rd_)) | (show ∃ _ _, _ ∧ _; refine ex2_ ?_ (by first | with_reducible exact rfl | with_reducible exact hal | exact hA2 | exact rd_)) | fail)
theorem c_listOk1 (hV : C_isVector P N) (hf : isFn P N.impl_Algebra_listOk_1 (ir_impl_Algebra_listOk_1 N) = true) : C_listOk1 P N := by
  intro sz l e off a v ha hv
  have hV' := hV (n := a.n) (p := a.p) hv
  refine can_of hf rfl rfl ?_
  (repeat' (conv => whnf) <;> first | exact True.intro | (refine if_ ?_ ?_ <;> intro h <;> first | exact h.elim | (exfalso; omega) | skip) | refine vs_ ?_ | refine dv_ ?_ | exact fin_ | (show ∃ _, _ ∧ _; refine ex_ ?_ (by first | with_reducible exact rfl | exact hV' | exact rd_)) | (show ∃ _ _, _ ∧ _; refine ex2_ ?_ (by first | with_reducible exact rfl | exact hV' | exact rd_)) | fail)
theorem c_listOk (hN : C_n P N) (hC : C_ContainsVec P N) (h1 : C_listOk1 P N) (hf : isFn P N.impl_Algebra_listOk (ir_impl_Algebra_listOk N) = true) : C_listOk P N := by
  intro sz l e off a m s hat ha hm hs
  have hl : (arr m fun i => vecL (s i)).length = m := arr_len ..
  have hn := ha.n
  have hN' := hN (sz := sz) hat
  refine can_of hf rfl rfl ?_
  by_cases g : m = a.n.toNat
  · have hC' := hC (m := m) (f := s) (g := N.impl_Algebra_listOk_1) (c := .pd 1 [[.pd sz l e off]] 0 0) (q := fun i => !decide (Small (s i) a.n a.p)) (by omega) (fun i _ => h1 hat (hs i))
    by_cases c : AllSm a m s
    · have hC2 := contains_no hC' (fun i hi => by simp [c i hi])
      rw [dB_t ⟨g, c⟩]
      (repeat' (conv => whnf) <;> first | exact True.intro | (refine if_ ?_ ?_ <;> intro h <;> first | exact h.elim | (exfalso; omega) | skip) | refine vs_ ?_ | refine dv_ ?_ | exact fin_ | (show ∃ _, _ ∧ _; refine ex_ ?_ (by first | with_reducible exact rfl | exact hN' | exact hC2 | exact rd_)) | (show ∃ _ _, _ ∧ _; refine ex2_ ?_ (by first | with_reducible exact rfl | exact hN' | exact hC2 | exact rd_)) | fail)
    · have hC2 := contains_yes hC' (not_allSm c)
      rw [dB_f (fun h => c h.2)]
      (repeat' (conv => whnf) <;> first | exact True.intro | (refine if_ ?_ ?_ <;> intro h <;> first | exact h.elim | (exfalso; omega) | skip) | refine vs_ ?_ | refine dv_ ?_ | exact fin_ | (show ∃ _, _ ∧ _; refine ex_ ?_ (by first | with_reducible exact rfl | exact hN' | exact hC2 | exact rd_)) | (show ∃ _ _, _ ∧ _; refine ex2_ ?_ (by first | with_reducible exact rfl | exact hN' | exact hC2 | exact rd_)) | fail)
  · rw [dB_f (fun h => g h.1)]
    (repeat' (conv => whnf) <;> first | exact True.intro | (refine if_ ?_ ?_ <;> intro h <;> first | exact h.elim | (exfalso; omega) | skip) | refine vs_ ?_ | refine dv_ ?_ | exact fin_ | (show ∃ _, _ ∧ _; refine ex_ ?_ (by first | with_reducible exact rfl | exact hN' | exact rd_)) | (show ∃ _ _, _ ∧ _; refine ex2_ ?_ (by first | with_reducible exact rfl | exact hN' | exact rd_)) | fail)
theorem c_listed (hV : C_validL P N) (hL : C_listOk P N) (hf : isFn P N.impl_listed (ir_impl_listed N) = true) : C_listed P N := by
  intro a m q s t hi hm hq hs ht
  have ha := algAt_one a
  have hal := ha.all
  have hV' := hV (s := t) hi hq ht
  refine can_of hf rfl rfl ?_
  by_cases g : IsAlgP a ∧ AllSm a q t
  · have hL' := hL (sz := (algL a).length) (m := m) (s := s) ha (hi.alg g.1) hm hs
    rw [dB_t g, if_pos rfl] at hV'
    rw [dB_t g]
    generalize dB (m = a.n.toNat ∧ AllSm a m s) = y at *
    cases y <;> (repeat' (conv => whnf) <;> first | exact True.intro | (refine if_ ?_ ?_ <;> intro h <;> first | exact h.elim | (exfalso; omega) | skip) | refine vs_ ?_ | refine dv_ ?_ | exact fin_ | (show ∃ _, _ ∧ _; refine ex_ ?_ (by first | with_reducible exact rfl | with_reducible exact hal | exact hV' | exact hL' | exact rd_)) | (show ∃ _ _, _ ∧ _; refine ex2_ ?_ (by first | with_reducible exact rfl | with_reducible exact hal | exact hV' | exact hL' | exact rd_)) | fail)
  · rw [dB_f g, if_neg (by simp)] at hV'
    rw [dB_f g]
    (repeat' (conv => whnf) <;> first | exact True.intro | (refine if_ ?_ ?_ <;> intro h <;> first | exact h.elim | (exfalso; omega) | skip) | refine vs_ ?_ | refine dv_ ?_ | exact fin_ | (show ∃ _, _ ∧ _; refine ex_ ?_ (by first | with_reducible exact rfl | with_reducible exact hal | exact hV' | exact rd_)) | (show ∃ _ _, _ ∧ _; refine ex2_ ?_ (by first | with_reducible exact rfl | with_reducible exact hal | exact hV' | exact rd_)) | fail)
end Go.X
namespace Go.X
open Go Go.RowKit
set_option maxRecDepth 100000
set_option maxHeartbeats 8000000
variable {P : Program} {N : FN}
theorem c_sCodeL (hA : C_sAlgebra P N) (hV : C_sVector P N) (hf : isFn P N.spec_l01Code (ir_spec_l01Code N) = true) : C_sCodeL P N := by
  intro a q s hi hq hs
  have hl : (arr q fun i => vecL (s i)).length = q := arr_len ..
  have hal := (algAt_one a).all
  have hA' : Can P N.spec_l01Algebra [algD a] (.val (.bool (dB (sAlgP a)))) := hA hi.b hi.ok
  refine can_of hf rfl rfl ?_
  by_cases g : sAlgP a
  · rw [dB_t g] at hA'
    (repeat' (conv => whnf) <;> first | exact True.intro | (refine if_ ?_ ?_ <;> intro h <;> first | exact h.elim | (exfalso; omega) | skip) | refine vs_ ?_ | refine dv_ ?_ | exact fin_ | (show ∃ _, _ ∧ _; refine ex_ ?_ (by first | with_reducible exact rfl | with_reducible exact hal | exact hA' | exact rd_)) | (show ∃ _ _, _ ∧ _; refine ex2_ ?_ (by first | with_reducible exact rfl | with_reducible exact hal | exact hA' | exact rd_)) | fail)
    conv => whnf
    refine vc_loop (α := Nat) 0 (fun i => q - i) (fun i => i ≤ q ∧ ∀ j, j < i → Small (s j) a.n a.p) [] (fun i => [(5, .d (.int .i64 i))]) (fun i => []) lp_ ?_ ?_
    · (repeat' (conv => whnf) <;> first | exact True.intro | (refine if_ ?_ ?_ <;> intro h <;> first | exact h.elim | (exfalso; omega) | skip) | refine vs_ ?_ | refine dv_ ?_ | exact fin_ | (show ∃ _, _ ∧ _; refine ex_ ?_) | (show ∃ _ _, _ ∧ _; refine ex2_ ?_) | fail)
    · rintro i ⟨h, hall⟩
      by_cases hlt : i < q
      · by_cases c : Small (s i) a.n a.p
        · have hV' := can_dt (hV (a := a) (hs i)) c
          (repeat' (conv => whnf) <;> first | exact True.intro | (refine if_ ?_ ?_ <;> intro h <;> first | exact h.elim | (exfalso; omega) | skip) | refine vs_ ?_ | refine dv_ ?_ | exact fin_ | (show ∃ _, _ ∧ _; refine ex_ ?_ (by first | with_reducible exact rfl | with_reducible exact hal | with_reducible exact rd_vecs (by omega) | exact hV' | exact rd_)) | (show ∃ _ _, _ ∧ _; refine ex2_ ?_ (by first | with_reducible exact rfl | with_reducible exact hal | with_reducible exact rd_vecs (by omega) | exact hV' | exact rd_)) | fail)
          conv => whnf
          refine ⟨i + 1, ⟨by omega, all_succ hall c⟩, by omega, ?_⟩
          (repeat' (conv => whnf) <;> first | exact True.intro | (refine if_ ?_ ?_ <;> intro h <;> first | exact h.elim | (exfalso; omega) | skip) | refine vs_ ?_ | refine dv_ ?_ | exact fin_ | (show ∃ _, _ ∧ _; refine ex_ ?_) | (show ∃ _ _, _ ∧ _; refine ex2_ ?_) | fail)
        · have hV' := can_df (hV (a := a) (hs i)) c
          rw [dB_f (fun h => c (h.2 i hlt)), if_neg (by simp)]
          (repeat' (conv => whnf) <;> first | exact True.intro | (refine if_ ?_ ?_ <;> intro h <;> first | exact h.elim | (exfalso; omega) | skip) | refine vs_ ?_ | refine dv_ ?_ | exact fin_ | (show ∃ _, _ ∧ _; refine ex_ ?_ (by first | with_reducible exact rfl | with_reducible exact hal | with_reducible exact rd_vecs (by omega) | exact hV' | exact rd_)) | (show ∃ _ _, _ ∧ _; refine ex2_ ?_ (by first | with_reducible exact rfl | with_reducible exact hal | with_reducible exact rd_vecs (by omega) | exact hV' | exact rd_)) | fail)
      · rw [dB_t ⟨g, fun j hj => hall j (by omega)⟩, if_pos rfl]
        (repeat' (conv => whnf) <;> first | exact True.intro | (refine if_ ?_ ?_ <;> intro h <;> first | exact h.elim | (exfalso; omega) | skip) | refine vs_ ?_ | refine dv_ ?_ | exact fin_ | (show ∃ _, _ ∧ _; refine ex_ ?_) | (show ∃ _ _, _ ∧ _; refine ex2_ ?_) | fail)
  · rw [dB_f g] at hA'
    rw [dB_f (fun h => g h.1), if_neg (by simp)]
    (repeat' (conv => whnf) <;> first | exact True.intro | (refine if_ ?_ ?_ <;> intro h <;> first | exact h.elim | (exfalso; omega) | skip) | refine vs_ ?_ | refine dv_ ?_ | exact fin_ | (show ∃ _, _ ∧ _; refine ex_ ?_ (by first | with_reducible exact rfl | with_reducible exact hal | exact hA' | exact rd_)) | (show ∃ _ _, _ ∧ _; refine ex2_ ?_ (by first | with_reducible exact rfl | with_reducible exact hal | exact hA' | exact rd_)) | fail)
theorem c_sList (hC : C_sCodeL P N) (hV : C_sVector P N) (hf : isFn P N.spec_l08List (ir_spec_l08List N) = true) : C_sList P N := by
  intro a m q s t hi hm hq hs ht
  have hl : (arr m fun i => vecL (s i)).length = m := arr_len ..
  have hat := algAt_one a
  have hal := hat.all
  have hC' := hC (s := t) hi hq ht
  refine can_of hf rfl rfl ?_
  by_cases g : sAlgP a ∧ AllSm a q t
  · have ha := hi.ok g.1.1
    have hn := ha.n
    rw [dB_t g, if_pos rfl] at hC'
    rw [dB_t g]
    by_cases g2 : m = a.n.toNat
    · (repeat' (conv => whnf) <;> first | exact True.intro | (refine if_ ?_ ?_ <;> intro h <;> first | exact h.elim | (exfalso; omega) | skip) | refine vs_ ?_ | refine dv_ ?_ | exact fin_ | (show ∃ _, _ ∧ _; refine ex_ ?_ (by first | with_reducible exact rfl | with_reducible exact hal | exact hC' | exact rd_)) | (show ∃ _ _, _ ∧ _; refine ex2_ ?_ (by first | with_reducible exact rfl | with_reducible exact hal | exact hC' | exact rd_)) | fail)
      conv => whnf
      refine vc_loop (α := Nat) 0 (fun i => m - i) (fun i => i ≤ m ∧ ∀ j, j < i → Small (s j) a.n a.p) [] (fun i => [(7, .d (.int .i64 i))]) (fun i => []) lp_ ?_ ?_
      · (repeat' (conv => whnf) <;> first | exact True.intro | (refine if_ ?_ ?_ <;> intro h <;> first | exact h.elim | (exfalso; omega) | skip) | refine vs_ ?_ | refine dv_ ?_ | exact fin_ | (show ∃ _, _ ∧ _; refine ex_ ?_) | (show ∃ _ _, _ ∧ _; refine ex2_ ?_) | fail)
      · rintro i ⟨h, hall⟩
        by_cases hlt : i < m
        · by_cases c : Small (s i) a.n a.p
          · have hV' := can_dt (hV (a := a) (hs i)) c
            (repeat' (conv => whnf) <;> first | exact True.intro | (refine if_ ?_ ?_ <;> intro h <;> first | exact h.elim | (exfalso; omega) | skip) | refine vs_ ?_ | refine dv_ ?_ | exact fin_ | (show ∃ _, _ ∧ _; refine ex_ ?_ (by first | with_reducible exact rfl | with_reducible exact hal | with_reducible exact rd_vecs (by omega) | exact hV' | exact rd_)) | (show ∃ _ _, _ ∧ _; refine ex2_ ?_ (by first | with_reducible exact rfl | with_reducible exact hal | with_reducible exact rd_vecs (by omega) | exact hV' | exact rd_)) | fail)
            conv => whnf
            refine ⟨i + 1, ⟨by omega, all_succ hall c⟩, by omega, ?_⟩
            (repeat' (conv => whnf) <;> first | exact True.intro | (refine if_ ?_ ?_ <;> intro h <;> first | exact h.elim | (exfalso; omega) | skip) | refine vs_ ?_ | refine dv_ ?_ | exact fin_ | (show ∃ _, _ ∧ _; refine ex_ ?_) | (show ∃ _ _, _ ∧ _; refine ex2_ ?_) | fail)
          · have hV' := can_df (hV (a := a) (hs i)) c
            rw [dB_f (fun h => c (h.2 i hlt))]
            (repeat' (conv => whnf) <;> first | exact True.intro | (refine if_ ?_ ?_ <;> intro h <;> first | exact h.elim | (exfalso; omega) | skip) | refine vs_ ?_ | refine dv_ ?_ | exact fin_ | (show ∃ _, _ ∧ _; refine ex_ ?_ (by first | with_reducible exact rfl | with_reducible exact hal | with_reducible exact rd_vecs (by omega) | exact hV' | exact rd_)) | (show ∃ _ _, _ ∧ _; refine ex2_ ?_ (by first | with_reducible exact rfl | with_reducible exact hal | with_reducible exact rd_vecs (by omega) | exact hV' | exact rd_)) | fail)
        · rw [dB_t ⟨g2, fun j hj => hall j (by omega)⟩]
          (repeat' (conv => whnf) <;> first | exact True.intro | (refine if_ ?_ ?_ <;> intro h <;> first | exact h.elim | (exfalso; omega) | skip) | refine vs_ ?_ | refine dv_ ?_ | exact fin_ | (show ∃ _, _ ∧ _; refine ex_ ?_) | (show ∃ _ _, _ ∧ _; refine ex2_ ?_) | fail)
    · rw [dB_f (fun h => g2 h.1)]
      (repeat' (conv => whnf) <;> first | exact True.intro | (refine if_ ?_ ?_ <;> intro h <;> first | exact h.elim | (exfalso; omega) | skip) | refine vs_ ?_ | refine dv_ ?_ | exact fin_ | (show ∃ _, _ ∧ _; refine ex_ ?_ (by first | with_reducible exact rfl | with_reducible exact hal | exact hC' | exact rd_)) | (show ∃ _ _, _ ∧ _; refine ex2_ ?_ (by first | with_reducible exact rfl | with_reducible exact hal | exact hC' | exact rd_)) | fail)
  · rw [dB_f g, if_neg (by simp)] at hC'
    rw [dB_f g]
    (repeat' (conv => whnf) <;> first | exact True.intro | (refine if_ ?_ ?_ <;> intro h <;> first | exact h.elim | (exfalso; omega) | skip) | refine vs_ ?_ | refine dv_ ?_ | exact fin_ | (show ∃ _, _ ∧ _; refine ex_ ?_ (by first | with_reducible exact rfl | with_reducible exact hal | exact hC' | exact rd_)) | (show ∃ _ _, _ ∧ _; refine ex2_ ?_ (by first | with_reducible exact rfl | with_reducible exact hal | exact hC' | exact rd_)) | fail)
theorem c_sApply (hA : C_sAdd P N) (hf : isFn P N.spec_l08Apply (ir_spec_l08Apply N) = true) : C_sApply P N := by
  intro a z v ha hz hv
  have hn := ha.n
  have hp2 := prime_bd ha.p
  obtain ⟨n, hnn⟩ : ∃ n, n = a.n.toNat := ⟨_, rfl⟩
  have hl : (arr n fun i => vecL (z i)).length = n := arr_len ..
  rw [← hnn]
  refine can_of hf rfl rfl ?_
  (repeat' (conv => whnf) <;> first | exact True.intro | (refine if_ ?_ ?_ <;> intro h <;> first | exact h.elim | (exfalso; omega) | skip) | refine vs_ ?_ | refine dv_ ?_ | exact fin_ | (show ∃ _, _ ∧ _; refine ex_ ?_) | (show ∃ _ _, _ ∧ _; refine ex2_ ?_) | fail)
  conv => whnf
  refine vc_loop (α := Nat) 0 (fun i => n - i) (fun i => i ≤ n) [] (fun i => [(7, .ptr 8 6 0 0), (8, .d (.int .i64 i))]) (fun i => [(8, .data 6 [vecL (zipN a.p z v i)])]) lp_ ?_ ?_
  · (repeat' (conv => whnf) <;> first | exact True.intro | (refine if_ ?_ ?_ <;> intro h <;> first | exact h.elim | (exfalso; omega) | skip) | refine vs_ ?_ (by first | exact zeros6 (fun i _ => rfl) | exact sd_) | refine dv_ ?_ | exact fin_ | (show ∃ _, _ ∧ _; refine ex_ ?_) | (show ∃ _ _, _ ∧ _; refine ex2_ ?_) | fail)
  · intro i hi
    have h1 := hv i
    have h2 := (zipN_rw (p := a.p) (z := z) (v := v) (by omega) i).byt (by omega)
    by_cases hlt : i < n
    · (repeat' (conv => whnf) <;> first | exact True.intro | (refine if_ ?_ ?_ <;> intro h <;> first | exact h.elim | (exfalso; omega) | skip) | refine vs_ ?_ | refine dv_ ?_ | exact fin_ | (show ∃ _, _ ∧ _; refine ex_ ?_ (by first | with_reducible exact rfl | with_reducible exact rd_vecs hlt | exact hA h2 (hz i) (by omega) (by omega) | exact rd_)) | (show ∃ _ _, _ ∧ _; refine ex2_ ?_ (by first | with_reducible exact rfl | with_reducible exact rd_vecs hlt | exact hA h2 (hz i) (by omega) (by omega) | exact rd_)) | fail)
      conv => whnf
      refine ⟨i + 1, by omega, by omega, ?_⟩
      (repeat' (conv => whnf) <;> first | exact True.intro | (refine if_ ?_ ?_ <;> intro h <;> first | exact h.elim | (exfalso; omega) | skip) | refine vs_ ?_ (by first | exact st_all | exact sd_) | refine dv_ ?_ | exact fin_ | (show ∃ _, _ ∧ _; refine ex_ ?_) | (show ∃ _ _, _ ∧ _; refine ex2_ ?_) | fail)
    · have : i = n := by omega
      rw [this]
      (repeat' (conv => whnf) <;> first | exact True.intro | (refine if_ ?_ ?_ <;> intro h <;> first | exact h.elim | (exfalso; omega) | skip) | refine vs_ ?_ | refine dv_ ?_ | exact fin_ | (show ∃ _, _ ∧ _; refine ex_ ?_) | (show ∃ _ _, _ ∧ _; refine ex2_ ?_) | fail)
theorem c_sStar (hS : C_sApply P N) (hB : C_sBasis P N) (hF : C_sForm P N) (hT : C_sTimes P N) (hf : isFn P N.spec_l08Star (ir_spec_l08Star N) = true) : C_sStar P N := by
  intro a s ha hs
  have hal := (algAt_one a).all
  have hn := ha.n
  have hp2 := prime_bd ha.p
  obtain ⟨n, hnn⟩ : ∃ n, n = a.n.toNat := ⟨_, rfl⟩
  have hl : (arr n fun i => vecL (s i)).length = n := arr_len ..
  have hn6 : n ≤ 6 := by omega
  unfold sStarP sStar1 sStar2
  have hS' : ∀ v, Byts v → Can P N.spec_l08Apply [algD a, vsD a.n.toNat s, vecD v] (.val (vecD (zipN a.p s v a.n.toNat))) := fun v hv => hS ha hs hv
  rw [← hnn] at hS' ⊢
  refine can_of hf rfl rfl ?_
  (repeat' (conv => whnf) <;> first | exact True.intro | (refine if_ ?_ ?_ <;> intro h <;> first | exact h.elim | (exfalso; omega) | skip) | refine vs_ ?_ | refine dv_ ?_ | exact fin_ | (show ∃ _, _ ∧ _; refine ex_ ?_) | (show ∃ _ _, _ ∧ _; refine ex2_ ?_) | fail)
  conv => whnf
  refine vc_loop (α := Nat) 0 (fun i => n - i) (fun i => i ≤ n ∧ ∀ q, q < i → (VEq (zipN a.p s (s q) n) (basV q) ∧ formV a (s q) = formV a (basV q)) ∧ ∀ j, j < n → VEq (zipN a.p s (timesV a (basV q) (basV j)) n) (timesV a (s j) (s q))) [] (fun i => [(5, .d (.int .i64 i))]) (fun i => []) lp_ ?_ ?_
  · (repeat' (conv => whnf) <;> first | exact True.intro | (refine if_ ?_ ?_ <;> intro h <;> first | exact h.elim | (exfalso; omega) | skip) | refine vs_ ?_ | refine dv_ ?_ | exact fin_ | (show ∃ _, _ ∧ _; refine ex_ ?_) | (show ∃ _ _, _ ∧ _; refine ex2_ ?_) | fail)
  · rintro i ⟨hi, hall⟩
    by_cases hlt : i < n
    · have hF' := hF ha.b (hs i) (by omega)
      have hFb := hF ha.b (basV_byt i) (by omega)
      have hSi := hS' (s i) (hs i)
      by_cases c1 : VEq (zipN a.p s (s i) n) (basV i)
      · by_cases c2 : formV a (s i) = formV a (basV i)
        · (repeat' (conv => whnf) <;> first | exact True.intro | (refine if_ ?_ ?_ <;> intro h <;> first | exact h.elim | (exfalso; omega) | skip) | refine vs_ ?_ (by first | exact ⟨conf_vec _, conf_vec _⟩ | exact sd_) | refine dv_ ?_ | exact fin_ | (show ∃ _, _ ∧ _; refine ex_ ?_ (by first | with_reducible exact rfl | with_reducible exact hal | with_reducible exact rd_vecs (by omega) | exact hSi | exact hB (by omega) | exact hF' | exact hFb | exact eq_t c1 | exact rd_)) | (show ∃ _ _, _ ∧ _; refine ex2_ ?_ (by first | with_reducible exact rfl | with_reducible exact hal | with_reducible exact rd_vecs (by omega) | exact hSi | exact hB (by omega) | exact hF' | exact hFb | exact eq_t c1 | exact rd_)) | fail)
          all_goals (conv => whnf)
          refine vc_loop (α := Nat) 0 (fun j => n - j) (fun j => j ≤ n ∧ ∀ q, q < j → VEq (zipN a.p s (timesV a (basV i) (basV q)) n) (timesV a (s q) (s i))) [] (fun j => [(5, .d (.int .i64 i)), (6, .d (.int .i64 j))]) (fun j => []) lp_ ?_ ?_
          · (repeat' (conv => whnf) <;> first | exact True.intro | (refine if_ ?_ ?_ <;> intro h <;> first | exact h.elim | (exfalso; omega) | skip) | refine vs_ ?_ | refine dv_ ?_ | exact fin_ | (show ∃ _, _ ∧ _; refine ex_ ?_) | (show ∃ _ _, _ ∧ _; refine ex2_ ?_) | fail)
          · rintro j ⟨hj, hall2⟩
            have hTb := hT ha.b (basV_byt i) (basV_byt j) (by omega) (by omega)
            have hSj := hS' (timesV a (basV i) (basV j)) ((times_rw (a := a) (by omega) (basV i) (basV j)).byt (by omega))
            have hTj := hT ha.b (hs j) (hs i) (by omega) (by omega)
            by_cases hlt2 : j < n
            · by_cases c3 : VEq (zipN a.p s (timesV a (basV i) (basV j)) n) (timesV a (s j) (s i))
              · (repeat' (conv => whnf) <;> first | exact True.intro | (refine if_ ?_ ?_ <;> intro h <;> first | exact h.elim | (exfalso; omega) | skip) | refine vs_ ?_ (by first | exact ⟨conf_vec _, conf_vec _⟩ | exact sd_) | refine dv_ ?_ | exact fin_ | (show ∃ _, _ ∧ _; refine ex_ ?_ (by first | with_reducible exact rfl | with_reducible exact hal | with_reducible exact rd_vecs (by omega) | exact hB (by omega) | exact hTb | exact hSj | exact hTj | exact eq_t c3 | exact rd_)) | (show ∃ _ _, _ ∧ _; refine ex2_ ?_ (by first | with_reducible exact rfl | with_reducible exact hal | with_reducible exact rd_vecs (by omega) | exact hB (by omega) | exact hTb | exact hSj | exact hTj | exact eq_t c3 | exact rd_)) | fail)
                all_goals (conv => whnf)
                all_goals (refine ⟨j + 1, ⟨by omega, all_succ hall2 c3⟩, by omega, ?_⟩; (repeat' (conv => whnf) <;> first | exact True.intro | (refine if_ ?_ ?_ <;> intro h <;> first | exact h.elim | (exfalso; omega) | skip) | refine vs_ ?_ | refine dv_ ?_ | exact fin_ | (show ∃ _, _ ∧ _; refine ex_ ?_) | (show ∃ _ _, _ ∧ _; refine ex2_ ?_) | fail))
              · rw [dB_f (fun h => c3 ((h i hlt).2 j hlt2))]
                (repeat' (conv => whnf) <;> first | exact True.intro | (refine if_ ?_ ?_ <;> intro h <;> first | exact h.elim | (exfalso; omega) | skip) | refine vs_ ?_ (by first | exact ⟨conf_vec _, conf_vec _⟩ | exact sd_) | refine dv_ ?_ | exact fin_ | (show ∃ _, _ ∧ _; refine ex_ ?_ (by first | with_reducible exact rfl | with_reducible exact hal | with_reducible exact rd_vecs (by omega) | exact hB (by omega) | exact hTb | exact hSj | exact hTj | exact eq_f c3 | exact rd_)) | (show ∃ _ _, _ ∧ _; refine ex2_ ?_ (by first | with_reducible exact rfl | with_reducible exact hal | with_reducible exact rd_vecs (by omega) | exact hB (by omega) | exact hTb | exact hSj | exact hTj | exact eq_f c3 | exact rd_)) | fail)
            · (repeat' (conv => whnf) <;> first | exact True.intro | (refine if_ ?_ ?_ <;> intro h <;> first | exact h.elim | (exfalso; omega) | skip) | refine vs_ ?_ | refine dv_ ?_ | exact fin_ | (show ∃ _, _ ∧ _; refine ex_ ?_) | (show ∃ _ _, _ ∧ _; refine ex2_ ?_) | fail)
              conv => whnf
              refine ⟨i + 1, ⟨by omega, all_succ hall ⟨⟨c1, c2⟩, fun q hq => hall2 q (by omega)⟩⟩, by omega, ?_⟩
              (repeat' (conv => whnf) <;> first | exact True.intro | (refine if_ ?_ ?_ <;> intro h <;> first | exact h.elim | (exfalso; omega) | skip) | refine vs_ ?_ | refine dv_ ?_ | exact fin_ | (show ∃ _, _ ∧ _; refine ex_ ?_) | (show ∃ _ _, _ ∧ _; refine ex2_ ?_) | fail)
        · rw [dB_f (fun h => c2 (h i hlt).1.2)]
          (repeat' (conv => whnf) <;> first | exact True.intro | (refine if_ ?_ ?_ <;> intro h <;> first | exact h.elim | (exfalso; omega) | skip) | refine vs_ ?_ (by first | exact ⟨conf_vec _, conf_vec _⟩ | exact sd_) | refine dv_ ?_ | exact fin_ | (show ∃ _, _ ∧ _; refine ex_ ?_ (by first | with_reducible exact rfl | with_reducible exact hal | with_reducible exact rd_vecs (by omega) | exact hSi | exact hB (by omega) | exact hF' | exact hFb | exact eq_t c1 | exact rd_)) | (show ∃ _ _, _ ∧ _; refine ex2_ ?_ (by first | with_reducible exact rfl | with_reducible exact hal | with_reducible exact rd_vecs (by omega) | exact hSi | exact hB (by omega) | exact hF' | exact hFb | exact eq_t c1 | exact rd_)) | fail)
      · rw [dB_f (fun h => c1 (h i hlt).1.1)]
        (repeat' (conv => whnf) <;> first | exact True.intro | (refine if_ ?_ ?_ <;> intro h <;> first | exact h.elim | (exfalso; omega) | skip) | refine vs_ ?_ (by first | exact ⟨conf_vec _, conf_vec _⟩ | exact sd_) | refine dv_ ?_ | exact fin_ | (show ∃ _, _ ∧ _; refine ex_ ?_ (by first | with_reducible exact rfl | with_reducible exact hal | with_reducible exact rd_vecs (by omega) | exact hSi | exact hB (by omega) | exact hF' | exact hFb | exact eq_f c1 | exact rd_)) | (show ∃ _ _, _ ∧ _; refine ex2_ ?_ (by first | with_reducible exact rfl | with_reducible exact hal | with_reducible exact rd_vecs (by omega) | exact hSi | exact hB (by omega) | exact hF' | exact hFb | exact eq_f c1 | exact rd_)) | fail)
    · rw [dB_t (fun q hq => hall q (by omega))]
      (repeat' (conv => whnf) <;> first | exact True.intro | (refine if_ ?_ ?_ <;> intro h <;> first | exact h.elim | (exfalso; omega) | skip) | refine vs_ ?_ | refine dv_ ?_ | exact fin_ | (show ∃ _, _ ∧ _; refine ex_ ?_) | (show ∃ _ _, _ ∧ _; refine ex2_ ?_) | fail)
theorem c_sStars (hL : C_sList P N) (hC : C_sCommutative P N) (hF : C_sFrobenius P N) (hS : C_sStar P N) (hf : isFn P N.spec_l08Code (ir_spec_l08Code N) = true) : C_sStars P N := by
  intro a m q s t hi hm hq hs ht
  have hat := algAt_one a
  have hal := hat.all
  have hL' := hL (s := s) (t := t) hi hm hq hs ht
  refine can_of hf rfl rfl ?_
  by_cases g1 : sAlgP a ∧ AllSm a q t
  · have ha := hi.ok g1.1.1
    rw [dB_t g1] at hL' ⊢
    by_cases g2 : m = a.n.toNat ∧ AllSm a m s
    · rw [dB_t g2] at hL' ⊢
      change Can P _ _ (.val (.int .i64 0)) at hL'
      obtain ⟨rfl, g2⟩ := g2
      have hC' := hC (a := a)
      have hF' := hF ha
      have hS' := hS ha hs
      by_cases c1 : sCommP a
      · by_cases c2 : sFrobP a
        · have hC2 := can_dt hC' c1
          have hF2 := can_dt hF' c2
          by_cases c3 : sStarP a s
          · rw [dB_t ⟨c1, c2, c3⟩]
            rw [dB_t c3] at hS'
            (repeat' (conv => whnf) <;> first | exact True.intro | (refine if_ ?_ ?_ <;> intro h <;> first | exact h.elim | (exfalso; omega) | skip) | refine vs_ ?_ | refine dv_ ?_ | exact fin_ | (show ∃ _, _ ∧ _; refine ex_ ?_ (by first | with_reducible exact rfl | with_reducible exact hal | exact hL' | exact hC2 | exact hF2 | exact hS' | exact rd_)) | (show ∃ _ _, _ ∧ _; refine ex2_ ?_ (by first | with_reducible exact rfl | with_reducible exact hal | exact hL' | exact hC2 | exact hF2 | exact hS' | exact rd_)) | fail)
          · rw [dB_f (fun h => c3 h.2.2)]
            rw [dB_f c3] at hS'
            (repeat' (conv => whnf) <;> first | exact True.intro | (refine if_ ?_ ?_ <;> intro h <;> first | exact h.elim | (exfalso; omega) | skip) | refine vs_ ?_ | refine dv_ ?_ | exact fin_ | (show ∃ _, _ ∧ _; refine ex_ ?_ (by first | with_reducible exact rfl | with_reducible exact hal | exact hL' | exact hC2 | exact hF2 | exact hS' | exact rd_)) | (show ∃ _ _, _ ∧ _; refine ex2_ ?_ (by first | with_reducible exact rfl | with_reducible exact hal | exact hL' | exact hC2 | exact hF2 | exact hS' | exact rd_)) | fail)
        · have hC2 := can_dt hC' c1
          have hF2 := can_df hF' c2
          rw [dB_f (fun h => c2 h.2.1)]
          (repeat' (conv => whnf) <;> first | exact True.intro | (refine if_ ?_ ?_ <;> intro h <;> first | exact h.elim | (exfalso; omega) | skip) | refine vs_ ?_ | refine dv_ ?_ | exact fin_ | (show ∃ _, _ ∧ _; refine ex_ ?_ (by first | with_reducible exact rfl | with_reducible exact hal | exact hL' | exact hC2 | exact hF2 | exact rd_)) | (show ∃ _ _, _ ∧ _; refine ex2_ ?_ (by first | with_reducible exact rfl | with_reducible exact hal | exact hL' | exact hC2 | exact hF2 | exact rd_)) | fail)
      · have hC2 := can_df hC' c1
        rw [dB_f (fun h => c1 h.1)]
        (repeat' (conv => whnf) <;> first | exact True.intro | (refine if_ ?_ ?_ <;> intro h <;> first | exact h.elim | (exfalso; omega) | skip) | refine vs_ ?_ | refine dv_ ?_ | exact fin_ | (show ∃ _, _ ∧ _; refine ex_ ?_ (by first | with_reducible exact rfl | with_reducible exact hal | exact hL' | exact hC2 | exact rd_)) | (show ∃ _ _, _ ∧ _; refine ex2_ ?_ (by first | with_reducible exact rfl | with_reducible exact hal | exact hL' | exact hC2 | exact rd_)) | fail)
    · rw [dB_f g2] at hL' ⊢
      change Can P _ _ (.val (.int .i64 2)) at hL'
      (repeat' (conv => whnf) <;> first | exact True.intro | (refine if_ ?_ ?_ <;> intro h <;> first | exact h.elim | (exfalso; omega) | skip) | refine vs_ ?_ | refine dv_ ?_ | exact fin_ | (show ∃ _, _ ∧ _; refine ex_ ?_ (by first | with_reducible exact rfl | with_reducible exact hal | exact hL' | exact rd_)) | (show ∃ _ _, _ ∧ _; refine ex2_ ?_ (by first | with_reducible exact rfl | with_reducible exact hal | exact hL' | exact rd_)) | fail)
  · rw [dB_f g1] at hL' ⊢
    change Can P _ _ (.val (.int .i64 1)) at hL'
    (repeat' (conv => whnf) <;> first | exact True.intro | (refine if_ ?_ ?_ <;> intro h <;> first | exact h.elim | (exfalso; omega) | skip) | refine vs_ ?_ | refine dv_ ?_ | exact fin_ | (show ∃ _, _ ∧ _; refine ex_ ?_ (by first | with_reducible exact rfl | with_reducible exact hal | exact hL' | exact rd_)) | (show ∃ _ _, _ ∧ _; refine ex2_ ?_ (by first | with_reducible exact rfl | with_reducible exact hal | exact hL' | exact rd_)) | fail)
theorem c_sKlein (hC : C_sCop P N) (hA : C_sAdd P N) (hB : C_sBasis P N) (hT : C_sTimes P N) (hf : isFn P N.spec_l08Klein (ir_spec_l08Klein N) = true) : C_sKlein P N := by
  intro a s ha hcol hs
  have hn := ha.n
  have hp2 := prime_bd ha.p
  have hC' := hC ha hcol
  have hrw := sCop_rw ha
  have hal := (algAt_one a).all
  have hl : (arr a.n.toNat (sCop a)).length = a.n.toNat := arr_len ..
  have hl2 : (arr a.n.toNat fun i => vecL (s i)).length = a.n.toNat := arr_len ..
  have hg : ∀ k, k < a.n.toNat → get2 (rowsL a.n.toNat (arr a.n.toNat (sCop a))) ((k : Nat) : Int).toNat 0 = some (rowD a.n.toNat (sCop a k)) := fun k hk => by
    rw [rd_rows (by omega), List.getD_eq_getElem?_getD, arr_get hk]; rfl
  have hof : ∀ k l, Byts (kleinO a s k l) := fun k l => (times_rw (a := a) (by omega) _ _).byt (by omega)
  have hT' : ∀ k j, Can P N.spec_l01Times [algD a, vecD (s k), vecD (basV j)] (.val (vecD (kleinO a s k j))) := fun k j => hT ha.b (hs k) (basV_byt j) (by omega) (by omega)
  unfold sKlein
  generalize kleinO a s = of at *
  refine can_of hf rfl rfl ?_
  (repeat' (conv => whnf) <;> first | exact True.intro | (refine if_ ?_ ?_ <;> intro h <;> first | exact h.elim | (exfalso; omega) | skip) | refine vs_ ?_ | refine dv_ ?_ | exact fin_ | (show ∃ _, _ ∧ _; refine ex_ ?_ (by first | with_reducible exact rfl | with_reducible exact hal | exact hC' | exact rd_)) | (show ∃ _ _, _ ∧ _; refine ex2_ ?_ (by first | with_reducible exact rfl | with_reducible exact hal | exact hC' | exact rd_)) | fail)
  conv => whnf
  refine vc_loop (α := Nat) 0 (fun k => a.n.toNat - k) (fun k => k ≤ a.n.toNat) [] (fun k => [(5, .d (rowsD a.n.toNat (arr a.n.toNat (sCop a)))), (6, .ptr 7 6 0 0), (7, .d (.int .i64 k))]) (fun k => [(7, .data 6 [vecL (pairR a.p (sCop a) of a.n.toNat k)])]) lp_ ?_ ?_
  · (repeat' (conv => whnf) <;> first | exact True.intro | (refine if_ ?_ ?_ <;> intro h <;> first | exact h.elim | (exfalso; omega) | skip) | refine vs_ ?_ (by first | exact zeros6 (fun i _ => rfl) | exact sd_) | refine dv_ ?_ | exact fin_ | (show ∃ _, _ ∧ _; refine ex_ ?_) | (show ∃ _ _, _ ∧ _; refine ex2_ ?_) | fail)
  · intro k hk
    by_cases hlt : k < a.n.toNat
    · (repeat' (conv => whnf) <;> first | exact True.intro | (refine if_ ?_ ?_ <;> intro h <;> first | exact h.elim | (exfalso; omega) | skip) | refine vs_ ?_ | refine dv_ ?_ | exact fin_ | (show ∃ _, _ ∧ _; refine ex_ ?_) | (show ∃ _ _, _ ∧ _; refine ex2_ ?_) | fail)
      conv => whnf
      refine vc_loop (α := Nat) 0 (fun j => a.n.toNat - j) (fun j => j ≤ a.n.toNat) [] (fun j => [(5, .d (rowsD a.n.toNat (arr a.n.toNat (sCop a)))), (6, .ptr 7 6 0 0), (7, .d (.int .i64 k)), (8, .d (.int .i64 j))]) (fun j => [(7, .data 6 [vecL (pairC a.p (sCop a) of (pairR a.p (sCop a) of a.n.toNat k) k j)])]) lp_ ?_ ?_
      · (repeat' (conv => whnf) <;> first | exact True.intro | (refine if_ ?_ ?_ <;> intro h <;> first | exact h.elim | (exfalso; omega) | skip) | refine vs_ ?_ | refine dv_ ?_ | exact fin_ | (show ∃ _, _ ∧ _; refine ex_ ?_) | (show ∃ _ _, _ ∧ _; refine ex2_ ?_) | fail)
      · intro j hj
        have h1 := hrw k j
        have h2 := (pairC_rw (p := a.p) (B := sCop a) (of := of) (k := k) (by omega) (pairR_rw (p := a.p) (B := sCop a) (of := of) (n := a.n.toNat) (by omega) k) j).byt (by omega)
        by_cases hlt2 : j < a.n.toNat
        · (repeat' (conv => whnf) <;> first | exact True.intro | (refine if_ ?_ ?_ <;> intro h <;> first | exact h.elim | (exfalso; omega) | skip) | refine vs_ ?_ | refine dv_ ?_ | exact fin_ | (show ∃ _, _ ∧ _; refine ex_ ?_ (by first | with_reducible exact rfl | with_reducible exact hal | with_reducible exact rd_vecs (by omega) | exact hB (by omega) | with_reducible exact hT' k j | with_reducible exact hg k hlt | exact hA h2 (hof k j) (by omega) (by omega) | exact rd_)) | (show ∃ _ _, _ ∧ _; refine ex2_ ?_ (by first | with_reducible exact rfl | with_reducible exact hal | with_reducible exact rd_vecs (by omega) | exact hB (by omega) | with_reducible exact hT' k j | with_reducible exact hg k hlt | exact hA h2 (hof k j) (by omega) (by omega) | exact rd_)) | fail)
          conv => whnf
          refine ⟨j + 1, by omega, by omega, ?_⟩
          (repeat' (conv => whnf) <;> first | exact True.intro | (refine if_ ?_ ?_ <;> intro h <;> first | exact h.elim | (exfalso; omega) | skip) | refine vs_ ?_ (by first | exact st_all | exact sd_) | refine dv_ ?_ | exact fin_ | (show ∃ _, _ ∧ _; refine ex_ ?_) | (show ∃ _ _, _ ∧ _; refine ex2_ ?_) | fail)
        · have : j = a.n.toNat := by omega
          rw [this]
          (repeat' (conv => whnf) <;> first | exact True.intro | (refine if_ ?_ ?_ <;> intro h <;> first | exact h.elim | (exfalso; omega) | skip) | refine vs_ ?_ | refine dv_ ?_ | exact fin_ | (show ∃ _, _ ∧ _; refine ex_ ?_) | (show ∃ _ _, _ ∧ _; refine ex2_ ?_) | fail)
          conv => whnf
          refine ⟨k + 1, by omega, by omega, ?_⟩
          (repeat' (conv => whnf) <;> first | exact True.intro | (refine if_ ?_ ?_ <;> intro h <;> first | exact h.elim | (exfalso; omega) | skip) | refine vs_ ?_ | refine dv_ ?_ | exact fin_ | (show ∃ _, _ ∧ _; refine ex_ ?_) | (show ∃ _ _, _ ∧ _; refine ex2_ ?_) | fail)
    · have : k = a.n.toNat := by omega
      rw [this]
      (repeat' (conv => whnf) <;> first | exact True.intro | (refine if_ ?_ ?_ <;> intro h <;> first | exact h.elim | (exfalso; omega) | skip) | refine vs_ ?_ | refine dv_ ?_ | exact fin_ | (show ∃ _, _ ∧ _; refine ex_ ?_) | (show ∃ _ _, _ ∧ _; refine ex2_ ?_) | fail)
theorem c_sCrossCap (hT : C_sTimes P N) (hB : C_sBasis P N) (hS : C_sApply P N) (hf : isFn P N.spec_l08CrossCap (ir_spec_l08CrossCap N) = true) : C_sCrossCap P N := by
  intro a s kl t ha hs ht
  have hal := (algAt_one a).all
  have hn := ha.n
  have hp2 := prime_bd ha.p
  obtain ⟨n, hnn⟩ : ∃ n, n = a.n.toNat := ⟨_, rfl⟩
  have hl : (arr n fun i => vecL (s i)).length = n := arr_len ..
  have hn6 : n ≤ 6 := by omega
  unfold crossP
  have hS' : ∀ v, Byts v → Can P N.spec_l08Apply [algD a, vsD a.n.toNat s, vecD v] (.val (vecD (zipN a.p s v a.n.toNat))) := fun v hv => hS ha hs hv
  rw [← hnn] at hS' ⊢
  have hTt := hT ha.b ht ht (by omega) (by omega)
  refine can_of hf rfl rfl ?_
  by_cases c0 : VEq (timesV a t t) kl
  · (repeat' (conv => whnf) <;> first | exact True.intro | (refine if_ ?_ ?_ <;> intro h <;> first | exact h.elim | (exfalso; omega) | skip) | refine vs_ ?_ (by first | exact ⟨conf_vec _, conf_vec _⟩ | exact sd_) | refine dv_ ?_ | exact fin_ | (show ∃ _, _ ∧ _; refine ex_ ?_ (by first | with_reducible exact rfl | with_reducible exact hal | exact hTt | exact eq_t c0 | exact rd_)) | (show ∃ _ _, _ ∧ _; refine ex2_ ?_ (by first | with_reducible exact rfl | with_reducible exact hal | exact hTt | exact eq_t c0 | exact rd_)) | fail)
    all_goals (conv => whnf)
    refine vc_loop (α := Nat) 0 (fun i => n - i) (fun i => i ≤ n ∧ ∀ q, q < i → VEq (zipN a.p s (timesV a t (basV q)) n) (timesV a t (basV q))) [] (fun i => [(9, .d (.int .i64 i))]) (fun i => []) lp_ ?_ ?_
    · (repeat' (conv => whnf) <;> first | exact True.intro | (refine if_ ?_ ?_ <;> intro h <;> first | exact h.elim | (exfalso; omega) | skip) | refine vs_ ?_ | refine dv_ ?_ | exact fin_ | (show ∃ _, _ ∧ _; refine ex_ ?_) | (show ∃ _ _, _ ∧ _; refine ex2_ ?_) | fail)
    · rintro i ⟨hi, hall⟩
      by_cases hlt : i < n
      · have hTi := hT ha.b ht (basV_byt i) (by omega) (by omega)
        have hSi := hS' (timesV a t (basV i)) ((times_rw (a := a) (by omega) t (basV i)).byt (by omega))
        by_cases c1 : VEq (zipN a.p s (timesV a t (basV i)) n) (timesV a t (basV i))
        · (repeat' (conv => whnf) <;> first | exact True.intro | (refine if_ ?_ ?_ <;> intro h <;> first | exact h.elim | (exfalso; omega) | skip) | refine vs_ ?_ (by first | exact ⟨conf_vec _, conf_vec _⟩ | exact sd_) | refine dv_ ?_ | exact fin_ | (show ∃ _, _ ∧ _; refine ex_ ?_ (by first | with_reducible exact rfl | with_reducible exact hal | exact hB (by omega) | exact hTi | exact hSi | with_reducible exact rd_st6 | exact eq_t c1 | exact rd_)) | (show ∃ _ _, _ ∧ _; refine ex2_ ?_ (by first | with_reducible exact rfl | with_reducible exact hal | exact hB (by omega) | exact hTi | exact hSi | with_reducible exact rd_st6 | exact eq_t c1 | exact rd_)) | fail)
          all_goals (conv => whnf)
          all_goals (refine ⟨i + 1, ⟨by omega, all_succ hall c1⟩, by omega, ?_⟩; (repeat' (conv => whnf) <;> first | exact True.intro | (refine if_ ?_ ?_ <;> intro h <;> first | exact h.elim | (exfalso; omega) | skip) | refine vs_ ?_ | refine dv_ ?_ | exact fin_ | (show ∃ _, _ ∧ _; refine ex_ ?_) | (show ∃ _ _, _ ∧ _; refine ex2_ ?_) | fail))
        · rw [dB_f (fun h => c1 (h.2 i hlt))]
          (repeat' (conv => whnf) <;> first | exact True.intro | (refine if_ ?_ ?_ <;> intro h <;> first | exact h.elim | (exfalso; omega) | skip) | refine vs_ ?_ (by first | exact ⟨conf_vec _, conf_vec _⟩ | exact sd_) | refine dv_ ?_ | exact fin_ | (show ∃ _, _ ∧ _; refine ex_ ?_ (by first | with_reducible exact rfl | with_reducible exact hal | exact hB (by omega) | exact hTi | exact hSi | with_reducible exact rd_st6 | exact eq_f c1 | exact rd_)) | (show ∃ _ _, _ ∧ _; refine ex2_ ?_ (by first | with_reducible exact rfl | with_reducible exact hal | exact hB (by omega) | exact hTi | exact hSi | with_reducible exact rd_st6 | exact eq_f c1 | exact rd_)) | fail)
      · rw [dB_t ⟨c0, fun q hq => hall q (by omega)⟩]
        (repeat' (conv => whnf) <;> first | exact True.intro | (refine if_ ?_ ?_ <;> intro h <;> first | exact h.elim | (exfalso; omega) | skip) | refine vs_ ?_ | refine dv_ ?_ | exact fin_ | (show ∃ _, _ ∧ _; refine ex_ ?_) | (show ∃ _ _, _ ∧ _; refine ex2_ ?_) | fail)
  · rw [dB_f (fun h => c0 h.1)]
    (repeat' (conv => whnf) <;> first | exact True.intro | (refine if_ ?_ ?_ <;> intro h <;> first | exact h.elim | (exfalso; omega) | skip) | refine vs_ ?_ (by first | exact ⟨conf_vec _, conf_vec _⟩ | exact sd_) | refine dv_ ?_ | exact fin_ | (show ∃ _, _ ∧ _; refine ex_ ?_ (by first | with_reducible exact rfl | with_reducible exact hal | exact hTt | exact eq_f c0 | exact rd_)) | (show ∃ _ _, _ ∧ _; refine ex2_ ?_ (by first | with_reducible exact rfl | with_reducible exact hal | exact hTt | exact eq_f c0 | exact rd_)) | fail)
end Go.X
