import Derived.Test.YtehopmcogekcoaaK6
import Derived.Test.YtehopmcogekcoaaW8
set_option linter.all false
namespace Go.X
open Go Go.RowKit
set_option maxRecDepth 100000
set_option maxHeartbeats 8000000
variable {P : Program} {N : FN}
theorem c_szVS (hf : isFn P N.laws_szVectorS (ir_laws_szVectorS N) = true) : C_szVS P N := by
  intro m s k hm hk
  have hl : (arr m fun i => vecL (s i)).length = m := arr_len ..
  refine can_of hf rfl rfl ?_
  by_cases g : k < m
  · rw [if_pos g]
    (repeat' (conv => whnf) <;> first | exact True.intro | (refine if_ ?_ ?_ <;> intro h <;> first | exact h.elim | (exfalso; omega) | skip) | refine vs_ ?_ | refine dv_ ?_ | exact fin_ | (show ∃ _, _ ∧ _; refine ex_ ?_) | refine ex2_ ?_ | fail)
  · rw [if_neg g]
    (repeat' (conv => whnf) <;> first | exact True.intro | (refine if_ ?_ ?_ <;> intro h <;> first | exact h.elim | (exfalso; omega) | skip) | refine vs_ ?_ | refine dv_ ?_ | exact fin_ | (show ∃ _, _ ∧ _; refine ex_ ?_) | refine ex2_ ?_ | fail)
    all_goals (conv => whnf)
    all_goals rw [hl]
theorem c_toVS (hV : C_id P N.laws_toVector 6) (hf : isFn P N.laws_toVectorS (ir_laws_toVectorS N) = true) : C_toVS P N := by
  intro m s hm
  have hl : (arr m fun i => vecL (s i)).length = m := arr_len ..
  have hV' : ∀ i, Can P N.laws_toVector [vecD (s i)] (.val (vecD (s i))) := fun i => hV
  refine can_of hf rfl rfl ?_
  (repeat' (conv => whnf) <;> first | exact True.intro | (refine if_ ?_ ?_ <;> intro h <;> first | exact h.elim | (exfalso; omega) | skip) | refine vs_ ?_ | refine dv_ ?_ | exact fin_ | (show ∃ _, _ ∧ _; refine ex_ ?_) | refine ex2_ ?_ | fail)
  conv => whnf
  refine vc_loop (α := Nat) 0 (fun i => m - i) (fun i => i ≤ m) [] (fun i => [(3, .row 8 6), (4, .d (.int .i64 i))]) (fun i => [(8, .data 6 (arr m fun j => vecL (progV i s j)))]) lp_ ?_ ?_
  · (repeat' (conv => whnf) <;> first | exact True.intro | (refine if_ ?_ ?_ <;> intro h <;> first | exact h.elim | (exfalso; omega) | skip) | refine vs_ ?_ (by first | exact rep_vecs hl | exact sd_) | refine dv_ ?_ | exact fin_ | (show ∃ _, _ ∧ _; refine ex_ ?_) | refine ex2_ ?_ | fail)
  · intro i hi
    by_cases hlt : i < m
    · (repeat' (conv => whnf) <;> first | exact True.intro | (refine if_ ?_ ?_ <;> intro h <;> first | exact h.elim | (exfalso; omega) | skip) | refine vs_ ?_ | refine dv_ ?_ | exact fin_ | (show ∃ _, _ ∧ _; refine ex_ ?_ (by first | with_reducible exact rfl | with_reducible exact rd_vecs (by omega) | exact hV' i | with_reducible exact get_vecs (by omega) | exact rd_)) | refine ex2_ ?_ (by first | with_reducible exact rfl | with_reducible exact rd_vecs (by omega) | exact hV' i | with_reducible exact get_vecs (by omega) | exact rd_) | fail)
      conv => whnf
      refine ⟨i + 1, by omega, by omega, ?_⟩
      (repeat' (conv => whnf) <;> first | exact True.intro | (refine if_ ?_ ?_ <;> intro h <;> first | exact h.elim | (exfalso; omega) | skip) | refine vs_ ?_ (by first | exact st_vecs hlt | exact sd_) | refine dv_ ?_ | exact fin_ | (show ∃ _, _ ∧ _; refine ex_ ?_) | refine ex2_ ?_ | fail)
    · have : i = m := by omega
      subst this
      (repeat' (conv => whnf) <;> first | exact True.intro | (refine if_ ?_ ?_ <;> intro h <;> first | exact h.elim | (exfalso; omega) | skip) | refine vs_ ?_ | refine dv_ ?_ | exact fin_ | (show ∃ _, _ ∧ _; refine ex_ ?_) | refine ex2_ ?_ | fail)
      all_goals exact congrArg (D.lst 6) all_vecs
theorem c_eqVS (hE : C_eqVector P N) (hf : isFn P N.laws_eqVectorS (ir_laws_eqVectorS N) = true) : C_eqVS P N := by
  intro m q s t hm hq
  have hl : (arr m fun i => vecL (s i)).length = m := arr_len ..
  have hl2 : (arr q fun i => vecL (t i)).length = q := arr_len ..
  refine can_of hf rfl rfl ?_
  by_cases g : m = q
  · subst g
    (repeat' (conv => whnf) <;> first | exact True.intro | (refine if_ ?_ ?_ <;> intro h <;> first | exact h.elim | (exfalso; omega) | skip) | refine vs_ ?_ | refine dv_ ?_ | exact fin_ | (show ∃ _, _ ∧ _; refine ex_ ?_) | refine ex2_ ?_ | fail)
    conv => whnf
    refine vc_loop (α := Nat) 0 (fun i => m - i) (fun i => i ≤ m ∧ ∀ j, j < i → VEq (s j) (t j)) [] (fun i => [(5, .d (.int .i64 i))]) (fun i => []) lp_ ?_ ?_
    · (repeat' (conv => whnf) <;> first | exact True.intro | (refine if_ ?_ ?_ <;> intro h <;> first | exact h.elim | (exfalso; omega) | skip) | refine vs_ ?_ | refine dv_ ?_ | exact fin_ | (show ∃ _, _ ∧ _; refine ex_ ?_) | refine ex2_ ?_ | fail)
    · rintro i ⟨hi, hall⟩
      by_cases hlt : i < m
      · by_cases c : VEq (s i) (t i)
        · have hE' := can_t (hE (v := s i) (w := t i)) c
          (repeat' (conv => whnf) <;> first | exact True.intro | (refine if_ ?_ ?_ <;> intro h <;> first | exact h.elim | (exfalso; omega) | skip) | refine vs_ ?_ | refine dv_ ?_ | exact fin_ | (show ∃ _, _ ∧ _; refine ex_ ?_ (by first | with_reducible exact rfl | with_reducible exact rd_vecs (by omega) | exact hE' | exact rd_)) | refine ex2_ ?_ (by first | with_reducible exact rfl | with_reducible exact rd_vecs (by omega) | exact hE' | exact rd_) | fail)
          conv => whnf
          refine ⟨i + 1, ⟨by omega, all_succ hall c⟩, by omega, ?_⟩
          (repeat' (conv => whnf) <;> first | exact True.intro | (refine if_ ?_ ?_ <;> intro h <;> first | exact h.elim | (exfalso; omega) | skip) | refine vs_ ?_ | refine dv_ ?_ | exact fin_ | (show ∃ _, _ ∧ _; refine ex_ ?_) | refine ex2_ ?_ | fail)
        · have hE' := can_f (hE (v := s i) (w := t i)) c
          rw [dB_f (fun h => c (h.2 i hlt))]
          (repeat' (conv => whnf) <;> first | exact True.intro | (refine if_ ?_ ?_ <;> intro h <;> first | exact h.elim | (exfalso; omega) | skip) | refine vs_ ?_ | refine dv_ ?_ | exact fin_ | (show ∃ _, _ ∧ _; refine ex_ ?_ (by first | with_reducible exact rfl | with_reducible exact rd_vecs (by omega) | exact hE' | exact rd_)) | refine ex2_ ?_ (by first | with_reducible exact rfl | with_reducible exact rd_vecs (by omega) | exact hE' | exact rd_) | fail)
      · rw [dB_t ⟨rfl, fun j hj => hall j (by omega)⟩]
        (repeat' (conv => whnf) <;> first | exact True.intro | (refine if_ ?_ ?_ <;> intro h <;> first | exact h.elim | (exfalso; omega) | skip) | refine vs_ ?_ | refine dv_ ?_ | exact fin_ | (show ∃ _, _ ∧ _; refine ex_ ?_) | refine ex2_ ?_ | fail)
  · rw [dB_f (fun h => g h.1)]
    (repeat' (conv => whnf) <;> first | exact True.intro | (refine if_ ?_ ?_ <;> intro h <;> first | exact h.elim | (exfalso; omega) | skip) | refine vs_ ?_ | refine dv_ ?_ | exact fin_ | (show ∃ _, _ ∧ _; refine ex_ ?_) | refine ex2_ ?_ | fail)
theorem c_valid1 (hV : C_isVector P N) (hf : isFn P N.impl_valid_1 (ir_impl_valid_1 N) = true) : C_valid1 P N := by
  intro sz l e off a v ha hv
  have hV' := hV (n := a.n) (p := a.p) hv
  refine can_of hf rfl rfl ?_
  (repeat' (conv => whnf) <;> first | exact True.intro | (refine if_ ?_ ?_ <;> intro h <;> first | exact h.elim | (exfalso; omega) | skip) | refine vs_ ?_ | refine dv_ ?_ | exact fin_ | (show ∃ _, _ ∧ _; refine ex_ ?_ (by first | with_reducible exact rfl | exact hV' | exact rd_)) | refine ex2_ ?_ (by first | with_reducible exact rfl | exact hV' | exact rd_) | fail)
theorem contains_no {P : Program} {f : FuncId} {as : List D} {q : Nat → Bool} {m : Nat} (h : Can P f as (.val (.bool (decide (0 ≤ idxF q m))))) (hq : ∀ i, i < m → q i = false) : Can P f as (.val (.bool false)) := by
  rwa [idxF_none hq, show decide (0 ≤ (-1 : Int)) = false from rfl] at h
theorem contains_yes {P : Program} {f : FuncId} {as : List D} {q : Nat → Bool} {m : Nat} (h : Can P f as (.val (.bool (decide (0 ≤ idxF q m))))) (hq : ∃ i, i < m ∧ q i = true) : Can P f as (.val (.bool true)) := by
  rcases idxF_cases q m with ⟨_, h2⟩ | ⟨i, _, h2, _⟩
  · obtain ⟨i, hi, h3⟩ := hq
    rw [h2 i hi] at h3; cases h3
  · rwa [h2, decide_eq_true (by omega)] at h
theorem not_allSm {a : Alg} {m : Nat} {s : Nat → Nat → Int} (h : ¬ AllSm a m s) : ∃ i, i < m ∧ (!decide (Small (s i) a.n a.p)) = true := by
  apply Classical.byContradiction
  intro g
  refine h fun i hi => ?_
  apply Classical.byContradiction
  intro g2
  exact g ⟨i, hi, by simp [g2]⟩
theorem c_validL (hA : C_IsAlgebra P N) (hC : C_ContainsVec P N) (h1 : C_valid1 P N) (hf : isFn P N.impl_valid (ir_impl_valid N) = true) : C_validL P N := by
  intro a q s hi hq hs
  have ha := algAt_one a
  have hal := ha.all
  have hA' := hA (a := a) hi.b hi.ok
  have hC' := hC (m := q) (f := s) (g := N.impl_valid_1) (c := .pd (algL a).length [algL a] 0 0) (q := fun i => !decide (Small (s i) a.n a.p)) hq (fun i _ => h1 ha (hs i))
  refine can_of hf rfl rfl ?_
  by_cases g : IsAlgP a
  · have hA2 := can_t hA' g
    by_cases c : AllSm a q s
    · have hC2 := contains_no hC' (fun i hi => by simp [c i hi])
      rw [dB_t ⟨g, c⟩, if_pos rfl]
      (repeat' (conv => whnf) <;> first | exact True.intro | (refine if_ ?_ ?_ <;> intro h <;> first | exact h.elim | (exfalso; omega) | skip) | refine vs_ ?_ | refine dv_ ?_ | exact fin_ | (show ∃ _, _ ∧ _; refine ex_ ?_ (by first | with_reducible exact rfl | with_reducible exact hal | exact hA2 | exact hC2 | exact rd_)) | refine ex2_ ?_ (by first | with_reducible exact rfl | with_reducible exact hal | exact hA2 | exact hC2 | exact rd_) | fail)
    · have hC2 := contains_yes hC' (not_allSm c)
      rw [dB_f (fun h => c h.2), if_neg (by simp)]
      (repeat' (conv => whnf) <;> first | exact True.intro | (refine if_ ?_ ?_ <;> intro h <;> first | exact h.elim | (exfalso; omega) | skip) | refine vs_ ?_ | refine dv_ ?_ | exact fin_ | (show ∃ _, _ ∧ _; refine ex_ ?_ (by first | with_reducible exact rfl | with_reducible exact hal | exact hA2 | exact hC2 | exact rd_)) | refine ex2_ ?_ (by first | with_reducible exact rfl | with_reducible exact hal | exact hA2 | exact hC2 | exact rd_) | fail)
  · have hA2 := can_f hA' g
    rw [dB_f (fun h => g h.1), if_neg (by simp)]
    (repeat' (conv => whnf) <;> first | exact True.intro | (refine if_ ?_ ?_ <;> intro h <;> first | exact h.elim | (exfalso; omega) | skip) | refine vs_ ?_ | refine dv_ ?_ | exact fin_ | (show ∃ _, _ ∧ _; refine ex_ ?_ (by first | with_reducible exact rfl | with_reducible exact hal | exact hA2 | exact rd_)) | refine ex2_ ?_ (by first | with_reducible exact rfl | with_reducible exact hal | exact hA2 | exact rd_) | fail)
theorem c_listOk1 (hV : C_isVector P N) (hf : isFn P N.impl_Algebra_listOk_1 (ir_impl_Algebra_listOk_1 N) = true) : C_listOk1 P N := by
  intro sz l e off a v ha hv
  have hV' := hV (n := a.n) (p := a.p) hv
  refine can_of hf rfl rfl ?_
  (repeat' (conv => whnf) <;> first | exact True.intro | (refine if_ ?_ ?_ <;> intro h <;> first | exact h.elim | (exfalso; omega) | skip) | refine vs_ ?_ | refine dv_ ?_ | exact fin_ | (show ∃ _, _ ∧ _; refine ex_ ?_ (by first | with_reducible exact rfl | exact hV' | exact rd_)) | refine ex2_ ?_ (by first | with_reducible exact rfl | exact hV' | exact rd_) | fail)
theorem c_listOk (hN : C_n P N) (hC : C_ContainsVec P N) (h1 : C_listOk1 P N) (hf : isFn P N.impl_Algebra_listOk (ir_impl_Algebra_listOk N) = true) : C_listOk P N := by
  intro sz l e off a m s hat ha hm hs
  have hl : (arr m fun i => vecL (s i)).length = m := arr_len ..
  have hn := ha.n
  have hN' := hN (sz := sz) hat
  refine can_of hf rfl rfl ?_
  by_cases g : m = a.n.toNat
  · have hC' := hC (m := m) (f := s) (g := N.impl_Algebra_listOk_1) (c := .pd 1 [[.pd sz l e off]] 0 0) (q := fun i => !decide (Small (s i) a.n a.p)) (by omega) (fun i _ => h1 hat (hs i))
    by_cases c : AllSm a m s
    · have hC2 := contains_no hC' (fun i hi => by simp [c i hi])
      rw [dB_t ⟨g, c⟩]
      (repeat' (conv => whnf) <;> first | exact True.intro | (refine if_ ?_ ?_ <;> intro h <;> first | exact h.elim | (exfalso; omega) | skip) | refine vs_ ?_ | refine dv_ ?_ | exact fin_ | (show ∃ _, _ ∧ _; refine ex_ ?_ (by first | with_reducible exact rfl | exact hN' | exact hC2 | exact rd_)) | refine ex2_ ?_ (by first | with_reducible exact rfl | exact hN' | exact hC2 | exact rd_) | fail)
    · have hC2 := contains_yes hC' (not_allSm c)
      rw [dB_f (fun h => c h.2)]
      (repeat' (conv => whnf) <;> first | exact True.intro | (refine if_ ?_ ?_ <;> intro h <;> first | exact h.elim | (exfalso; omega) | skip) | refine vs_ ?_ | refine dv_ ?_ | exact fin_ | (show ∃ _, _ ∧ _; refine ex_ ?_ (by first | with_reducible exact rfl | exact hN' | exact hC2 | exact rd_)) | refine ex2_ ?_ (by first | with_reducible exact rfl | exact hN' | exact hC2 | exact rd_) | fail)
  · rw [dB_f (fun h => g h.1)]
    (repeat' (conv => whnf) <;> first | exact True.intro | (refine if_ ?_ ?_ <;> intro h <;> first | exact h.elim | (exfalso; omega) | skip) | refine vs_ ?_ | refine dv_ ?_ | exact fin_ | (show ∃ _, _ ∧ _; refine ex_ ?_ (by first | with_reducible exact rfl | exact hN' | exact rd_)) | refine ex2_ ?_ (by first | with_reducible exact rfl | exact hN' | exact rd_) | fail)
theorem c_listed (hV : C_validL P N) (hL : C_listOk P N) (hf : isFn P N.impl_listed (ir_impl_listed N) = true) : C_listed P N := by
  intro a m q s t hi hm hq hs ht
  have ha := algAt_one a
  have hal := ha.all
  have hV' := hV (s := t) hi hq ht
  refine can_of hf rfl rfl ?_
  by_cases g : IsAlgP a ∧ AllSm a q t
  · have hL' := hL (sz := (algL a).length) (m := m) (s := s) ha (hi.alg g.1) hm hs
    rw [dB_t g, if_pos rfl] at hV'
    rw [dB_t g]
    generalize dB (m = a.n.toNat ∧ AllSm a m s) = y at *
    cases y <;> (repeat' (conv => whnf) <;> first | exact True.intro | (refine if_ ?_ ?_ <;> intro h <;> first | exact h.elim | (exfalso; omega) | skip) | refine vs_ ?_ | refine dv_ ?_ | exact fin_ | (show ∃ _, _ ∧ _; refine ex_ ?_ (by first | with_reducible exact rfl | with_reducible exact hal | exact hV' | exact hL' | exact rd_)) | refine ex2_ ?_ (by first | with_reducible exact rfl | with_reducible exact hal | exact hV' | exact hL' | exact rd_) | fail)
  · rw [dB_f g, if_neg (by simp)] at hV'
    rw [dB_f g]
    (repeat' (conv => whnf) <;> first | exact True.intro | (refine if_ ?_ ?_ <;> intro h <;> first | exact h.elim | (exfalso; omega) | skip) | refine vs_ ?_ | refine dv_ ?_ | exact fin_ | (show ∃ _, _ ∧ _; refine ex_ ?_ (by first | with_reducible exact rfl | with_reducible exact hal | exact hV' | exact rd_)) | refine ex2_ ?_ (by first | with_reducible exact rfl | with_reducible exact hal | exact hV' | exact rd_) | fail)
end Go.X
