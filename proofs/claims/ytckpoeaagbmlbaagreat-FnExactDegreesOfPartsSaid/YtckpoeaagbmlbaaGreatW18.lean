import Derived.Test.YtckpoeaagbmlbaaGreatW17
set_option linter.all false
namespace Go.X
open Go Go.RowKit
set_option maxRecDepth 100000
set_option maxHeartbeats 8000000
set_option linter.unusedVariables false
variable {P : Program} {N : FN}
theorem c_CFInt (hI : C_IdxInt P N) (hf : isFn P N.slices_ContainsFunc_Lint64_int64 (ir_slices_ContainsFunc_Lint64_int64 N) = true) : C_CFInt P N := by
  intro m f g q hm hq
  have hI' := hI hm hq
  refine can_of hf rfl rfl ?_
  (repeat' (conv => whnf) <;> first | exact True.intro | (refine if_ ?_ ?_ <;> intro h <;> first | exact h.elim | (exfalso; omega) | skip) | refine vs_ ?_ | refine dv_ ?_ | exact fin_ | (show ∃ _, _ ∧ _; refine ex_ ?_ (by first | with_reducible exact rfl | exact hI' | exact rd_)) | (show ∃ _ _, _ ∧ _; refine ex2_ ?_ (by first | with_reducible exact rfl | exact hI' | exact rd_)) | fail)
theorem c_split1 (hf : isFn P N.impl_Algebra_split_1 (ir_impl_Algebra_split_1 N) = true) : C_split1 P N := by
  intro x
  refine can_of hf rfl rfl ?_
  (repeat' (conv => whnf) <;> first | exact True.intro | (refine if_ ?_ ?_ <;> intro h <;> first | exact h.elim | (exfalso; omega) | skip) | refine vs_ ?_ | refine dv_ ?_ | exact fin_ | (show ∃ _, _ ∧ _; refine ex_ ?_) | (show ∃ _ _, _ ∧ _; refine ex2_ ?_) | fail)
theorem split_idx {a : Alg} : dB (SplitP a) = !(Cm.geq.int (idxF (fun i => szF a true i != 1) (primI a).length) 0) := by
  rcases idxF_cases (fun i => szF a true i != 1) (primI a).length with ⟨e, h⟩ | ⟨q, hq, e, h, _⟩
  · rw [e, dB_t (p := SplitP a) fun i hi => by have := h i hi; simpa using this]; rfl
  · rw [e, dB_f (p := SplitP a) fun hs => by have := hs q hq; simp [this] at h]
    have : Cm.geq.int (q : Int) 0 = true := decide_eq_true (show (0 : Int) ≤ (q : Int) by omega)
    rw [this]; rfl
theorem c_split (hD : C_degrees P N) (hC : C_CFInt P N) (h1 : C_split1 P N) (hf : isFn P N.impl_Algebra_split (ir_impl_Algebra_split N) = true) : C_split P N := by
  intro sz l e off a hat hca
  have hle := prims_le hca
  have hD' := hD (sz := sz) hat hca
  have hC' := hC (m := (primI a).length) (f := szF a true) (g := N.impl_Algebra_split_1) (q := fun i => szF a true i != 1) (by omega) (fun i _ => h1)
  refine can_of hf rfl rfl ?_
  rw [split_idx]
  (repeat' (conv => whnf) <;> first | exact True.intro | (refine if_ ?_ ?_ <;> intro h <;> first | exact h.elim | (exfalso; omega) | skip) | refine vs_ ?_ | refine dv_ ?_ | exact fin_ | (show ∃ _, _ ∧ _; refine ex_ ?_ (by first | with_reducible exact rfl | exact hD' | exact hC' | exact rd_)) | (show ∃ _ _, _ ∧ _; refine ex2_ ?_ (by first | with_reducible exact rfl | exact hD' | exact hC' | exact rd_)) | fail)
theorem c_sSplit (hS : C_sSizes P N) (hf : isFn P N.spec_l05Split (ir_spec_l05Split N) = true) : C_sSplit P N := by
  intro a hca
  have hat := algAt_one a
  have hal := hat.all
  have hle := prims_le hca
  have hS' := hS (b := true) hca
  have hrl : (row (primI a).length (szF a true)).length = (primI a).length := row_len ..
  refine can_of hf rfl rfl ?_
  (repeat' (conv => whnf) <;> first | exact True.intro | (refine if_ ?_ ?_ <;> intro h <;> first | exact h.elim | (exfalso; omega) | skip) | refine vs_ ?_ | refine dv_ ?_ | exact fin_ | (show ∃ _, _ ∧ _; refine ex_ ?_ (by first | with_reducible exact rfl | with_reducible exact hal | exact hS' | exact rd_)) | (show ∃ _ _, _ ∧ _; refine ex2_ ?_ (by first | with_reducible exact rfl | with_reducible exact hal | exact hS' | exact rd_)) | fail)
  conv => whnf
  refine vc_loop (α := Nat) 0 (fun i => (primI a).length - i) (fun i => i ≤ (primI a).length ∧ ∀ q, q < i → szF a true q = 1) [] (fun i => [(4, .d (.int .i64 i))]) (fun i => []) lp_ ?_ ?_
  · (repeat' (conv => whnf) <;> first | exact True.intro | (refine if_ ?_ ?_ <;> intro h <;> first | exact h.elim | (exfalso; omega) | skip) | refine vs_ ?_ | refine dv_ ?_ | exact fin_ | (show ∃ _, _ ∧ _; refine ex_ ?_) | (show ∃ _ _, _ ∧ _; refine ex2_ ?_) | fail)
  · rintro i ⟨hi, hall⟩
    by_cases hlt : i < (primI a).length
    · by_cases c : szF a true i = 1
      · (repeat' (conv => whnf) <;> first | exact True.intro | (refine if_ ?_ ?_ <;> intro h <;> first | exact h.elim | (exfalso; omega) | skip) | refine vs_ ?_ | refine dv_ ?_ | exact fin_ | (show ∃ _, _ ∧ _; refine ex_ ?_) | (show ∃ _ _, _ ∧ _; refine ex2_ ?_) | fail)
        conv => whnf
        refine ⟨i + 1, ⟨by omega, all_succ hall c⟩, by omega, ?_⟩
        (repeat' (conv => whnf) <;> first | exact True.intro | (refine if_ ?_ ?_ <;> intro h <;> first | exact h.elim | (exfalso; omega) | skip) | refine vs_ ?_ | refine dv_ ?_ | exact fin_ | (show ∃ _, _ ∧ _; refine ex_ ?_) | (show ∃ _ _, _ ∧ _; refine ex2_ ?_) | fail)
      · rw [dB_f (p := SplitP a) fun h => c (h i hlt)]
        (repeat' (conv => whnf) <;> first | exact True.intro | (refine if_ ?_ ?_ <;> intro h <;> first | exact h.elim | (exfalso; omega) | skip) | refine vs_ ?_ | refine dv_ ?_ | exact fin_ | (show ∃ _, _ ∧ _; refine ex_ ?_) | (show ∃ _ _, _ ∧ _; refine ex2_ ?_) | fail)
    · rw [dB_t (p := SplitP a) fun q hq => hall q (by omega)]
      (repeat' (conv => whnf) <;> first | exact True.intro | (refine if_ ?_ ?_ <;> intro h <;> first | exact h.elim | (exfalso; omega) | skip) | refine vs_ ?_ | refine dv_ ?_ | exact fin_ | (show ∃ _, _ ∧ _; refine ex_ ?_) | (show ∃ _ _, _ ∧ _; refine ex2_ ?_) | fail)
theorem c_DegreesOf (hC : C_commutes P N) (hD : C_degrees P N) (hf : isFn P N.impl_DegreesOfParts (ir_impl_DegreesOfParts N) = true) : C_DegreesOf P N := by
  intro a hi
  have hat := algAt_one a
  have hal := hat.all
  have hC' := commutesE hC hi
  unfold szR
  by_cases g : IsAlgP a
  · have ha := hi.alg g
    by_cases c : CommP a
    · have hca := ca_of hi.s ((alg_iff hi).1 g) ((comm_iff ha).1 c)
      have hD' := hD (sz := (algL a).length) hat hca
      rw [dB_t g, dB_t c] at hC' ⊢
      change Can P _ _ (.val (.int .i64 0)) at hC'
      change Can P _ _ (.tupO 1 (row (primI a).length (szF a true)) [] [.int .i64 0])
      refine can_of hf rfl rfl ?_
      (repeat' (conv => whnf) <;> first | exact True.intro | (refine if_ ?_ ?_ <;> intro h <;> first | exact h.elim | (exfalso; omega) | skip) | refine vs_ ?_ (by first | exact .inr flat_row | exact sd_) | refine dv_ ?_ | exact fin_ | (show ∃ _, _ ∧ _; refine ex_ ?_ (by first | with_reducible exact rfl | with_reducible exact hal | exact hC' | exact hD' | exact rd_)) | (show ∃ _ _, _ ∧ _; refine ex2_ ?_ (by first | with_reducible exact rfl | with_reducible exact hal | exact hC' | exact hD' | exact rd_)) | fail)
      all_goals exact Nat.le_refl 2
    · rw [dB_t g, dB_f c] at hC' ⊢
      change Can P _ _ (.val (.int .i64 5)) at hC'
      change Can P _ _ (.tupO 1 [] [] [.int .i64 5])
      refine can_tupO_emp (can_of hf rfl rfl ?_)
      (repeat' (conv => whnf) <;> first | exact True.intro | (refine if_ ?_ ?_ <;> intro h <;> first | exact h.elim | (exfalso; omega) | skip) | refine vs_ ?_ | refine dv_ ?_ | exact fin_ | (show ∃ _, _ ∧ _; refine ex_ ?_ (by first | with_reducible exact rfl | with_reducible exact hal | exact hC' | exact rd_)) | (show ∃ _ _, _ ∧ _; refine ex2_ ?_ (by first | with_reducible exact rfl | with_reducible exact hal | exact hC' | exact rd_)) | fail)
  · rw [dB_f g] at hC' ⊢
    change Can P _ _ (.val (.int .i64 1)) at hC'
    change Can P _ _ (.tupO 1 [] [] [.int .i64 1])
    refine can_tupO_emp (can_of hf rfl rfl ?_)
    (repeat' (conv => whnf) <;> first | exact True.intro | (refine if_ ?_ ?_ <;> intro h <;> first | exact h.elim | (exfalso; omega) | skip) | refine vs_ ?_ | refine dv_ ?_ | exact fin_ | (show ∃ _, _ ∧ _; refine ex_ ?_ (by first | with_reducible exact rfl | with_reducible exact hal | exact hC' | exact rd_)) | (show ∃ _ _, _ ∧ _; refine ex2_ ?_ (by first | with_reducible exact rfl | with_reducible exact hal | exact hC' | exact rd_)) | fail)
theorem c_sDegreesOf (hC : C_sCode5 P N) (hS : C_sSizes P N) (hf : isFn P N.spec_DegreesOfParts (ir_spec_DegreesOfParts N) = true) : C_sDegreesOf P N := by
  intro a hi
  have hat := algAt_one a
  have hal := hat.all
  have hC' := sCode5E hC hi
  unfold szR
  by_cases g : sAlgP a
  · by_cases c : sCommP a
    · have hca := ca_of hi g c
      have hS' := hS (b := true) hca
      rw [dB_t g, dB_t c] at hC' ⊢
      change Can P _ _ (.val (.int .i64 0)) at hC'
      change Can P _ _ (.tupO 1 (row (primI a).length (szF a true)) [] [.int .i64 0])
      refine can_of hf rfl rfl ?_
      (repeat' (conv => whnf) <;> first | exact True.intro | (refine if_ ?_ ?_ <;> intro h <;> first | exact h.elim | (exfalso; omega) | skip) | refine vs_ ?_ | refine dv_ ?_ | exact fin_ | (show ∃ _, _ ∧ _; refine ex_ ?_ (by first | with_reducible exact rfl | with_reducible exact hal | exact hC' | exact hS' | exact rd_)) | (show ∃ _ _, _ ∧ _; refine ex2_ ?_ (by first | with_reducible exact rfl | with_reducible exact hal | exact hC' | exact hS' | exact rd_)) | fail)
      all_goals exact Nat.le_refl 2
    · rw [dB_t g, dB_f c] at hC' ⊢
      change Can P _ _ (.val (.int .i64 5)) at hC'
      change Can P _ _ (.tupO 1 [] [] [.int .i64 5])
      refine can_tupO_emp (can_of hf rfl rfl ?_)
      (repeat' (conv => whnf) <;> first | exact True.intro | (refine if_ ?_ ?_ <;> intro h <;> first | exact h.elim | (exfalso; omega) | skip) | refine vs_ ?_ | refine dv_ ?_ | exact fin_ | (show ∃ _, _ ∧ _; refine ex_ ?_ (by first | with_reducible exact rfl | with_reducible exact hal | exact hC' | exact rd_)) | (show ∃ _ _, _ ∧ _; refine ex2_ ?_ (by first | with_reducible exact rfl | with_reducible exact hal | exact hC' | exact rd_)) | fail)
  · rw [dB_f g] at hC' ⊢
    change Can P _ _ (.val (.int .i64 1)) at hC'
    change Can P _ _ (.tupO 1 [] [] [.int .i64 1])
    refine can_tupO_emp (can_of hf rfl rfl ?_)
    (repeat' (conv => whnf) <;> first | exact True.intro | (refine if_ ?_ ?_ <;> intro h <;> first | exact h.elim | (exfalso; omega) | skip) | refine vs_ ?_ | refine dv_ ?_ | exact fin_ | (show ∃ _, _ ∧ _; refine ex_ ?_ (by first | with_reducible exact rfl | with_reducible exact hal | exact hC' | exact rd_)) | (show ∃ _ _, _ ∧ _; refine ex2_ ?_ (by first | with_reducible exact rfl | with_reducible exact hal | exact hC' | exact rd_)) | fail)
theorem c_IsSplit (hC : C_commutes P N) (hS : C_split P N) (hf : isFn P N.impl_IsSplit (ir_impl_IsSplit N) = true) : C_IsSplit P N := by
  intro a hi
  have hat := algAt_one a
  have hal := hat.all
  have hC' := commutesE hC hi
  refine can_of hf rfl rfl ?_
  unfold isPR
  by_cases g : IsAlgP a
  · have ha := hi.alg g
    by_cases c : CommP a
    · have hca := ca_of hi.s ((alg_iff hi).1 g) ((comm_iff ha).1 c)
      have hS' := hS (sz := (algL a).length) hat hca
      rw [dB_t g, dB_t c] at hC' ⊢
      change Can P _ _ (.val (.int .i64 0)) at hC'
      (repeat' (conv => whnf) <;> first | exact True.intro | (refine if_ ?_ ?_ <;> intro h <;> first | exact h.elim | (exfalso; omega) | skip) | refine vs_ ?_ | refine dv_ ?_ | exact fin_ | (show ∃ _, _ ∧ _; refine ex_ ?_ (by first | with_reducible exact rfl | with_reducible exact hal | exact hC' | exact hS' | exact rd_)) | (show ∃ _ _, _ ∧ _; refine ex2_ ?_ (by first | with_reducible exact rfl | with_reducible exact hal | exact hC' | exact hS' | exact rd_)) | fail)
    · rw [dB_t g, dB_f c] at hC' ⊢
      change Can P _ _ (.val (.int .i64 5)) at hC'
      (repeat' (conv => whnf) <;> first | exact True.intro | (refine if_ ?_ ?_ <;> intro h <;> first | exact h.elim | (exfalso; omega) | skip) | refine vs_ ?_ | refine dv_ ?_ | exact fin_ | (show ∃ _, _ ∧ _; refine ex_ ?_ (by first | with_reducible exact rfl | with_reducible exact hal | exact hC' | exact rd_)) | (show ∃ _ _, _ ∧ _; refine ex2_ ?_ (by first | with_reducible exact rfl | with_reducible exact hal | exact hC' | exact rd_)) | fail)
  · rw [dB_f g] at hC' ⊢
    change Can P _ _ (.val (.int .i64 1)) at hC'
    (repeat' (conv => whnf) <;> first | exact True.intro | (refine if_ ?_ ?_ <;> intro h <;> first | exact h.elim | (exfalso; omega) | skip) | refine vs_ ?_ | refine dv_ ?_ | exact fin_ | (show ∃ _, _ ∧ _; refine ex_ ?_ (by first | with_reducible exact rfl | with_reducible exact hal | exact hC' | exact rd_)) | (show ∃ _ _, _ ∧ _; refine ex2_ ?_ (by first | with_reducible exact rfl | with_reducible exact hal | exact hC' | exact rd_)) | fail)
theorem c_sIsSplit (hC : C_sCode5 P N) (hS : C_sSplit P N) (hf : isFn P N.spec_IsSplit (ir_spec_IsSplit N) = true) : C_sIsSplit P N := by
  intro a hi
  have hat := algAt_one a
  have hal := hat.all
  have hC' := sCode5E hC hi
  refine can_of hf rfl rfl ?_
  unfold isPR
  by_cases g : sAlgP a
  · by_cases c : sCommP a
    · have hca := ca_of hi g c
      have hS' := hS hca
      rw [dB_t g, dB_t c] at hC' ⊢
      change Can P _ _ (.val (.int .i64 0)) at hC'
      (repeat' (conv => whnf) <;> first | exact True.intro | (refine if_ ?_ ?_ <;> intro h <;> first | exact h.elim | (exfalso; omega) | skip) | refine vs_ ?_ | refine dv_ ?_ | exact fin_ | (show ∃ _, _ ∧ _; refine ex_ ?_ (by first | with_reducible exact rfl | with_reducible exact hal | exact hC' | exact hS' | exact rd_)) | (show ∃ _ _, _ ∧ _; refine ex2_ ?_ (by first | with_reducible exact rfl | with_reducible exact hal | exact hC' | exact hS' | exact rd_)) | fail)
    · rw [dB_t g, dB_f c] at hC' ⊢
      change Can P _ _ (.val (.int .i64 5)) at hC'
      (repeat' (conv => whnf) <;> first | exact True.intro | (refine if_ ?_ ?_ <;> intro h <;> first | exact h.elim | (exfalso; omega) | skip) | refine vs_ ?_ | refine dv_ ?_ | exact fin_ | (show ∃ _, _ ∧ _; refine ex_ ?_ (by first | with_reducible exact rfl | with_reducible exact hal | exact hC' | exact rd_)) | (show ∃ _ _, _ ∧ _; refine ex2_ ?_ (by first | with_reducible exact rfl | with_reducible exact hal | exact hC' | exact rd_)) | fail)
  · rw [dB_f g] at hC' ⊢
    change Can P _ _ (.val (.int .i64 1)) at hC'
    (repeat' (conv => whnf) <;> first | exact True.intro | (refine if_ ?_ ?_ <;> intro h <;> first | exact h.elim | (exfalso; omega) | skip) | refine vs_ ?_ | refine dv_ ?_ | exact fin_ | (show ∃ _, _ ∧ _; refine ex_ ?_ (by first | with_reducible exact rfl | with_reducible exact hal | exact hC' | exact rd_)) | (show ∃ _ _, _ ∧ _; refine ex2_ ?_ (by first | with_reducible exact rfl | with_reducible exact hal | exact hC' | exact rd_)) | fail)
end Go.X
