import Derived.Test.YtckpoeaagbmlbaaGreatW16
set_option linter.all false
namespace Go.X
open Go Go.RowKit
set_option maxRecDepth 100000
set_option maxHeartbeats 8000000
set_option linter.unusedVariables false
variable {P : Program} {N : FN}
theorem c_CFInt (hI : C_IdxInt P N) (hf : isFn P N.slices_ContainsFunc_Lint64_int64 (ir_slices_ContainsFunc_Lint64_int64 N) = true) : C_CFInt P N := by
  intro m f g q hm hq
  have hI' := hI hm hq
  refine can_of hf rfl rfl ?_
  (repeat' (conv => whnf)<;>first|exact True.intro|(refine if_ ?_ ?_<;>intro h<;>first|exact h.elim|(exfalso; omega)|skip)|refine vs_ ?_|refine dv_ ?_|exact fin_|(show ∃ _, _ ∧ _; refine ex_ ?_ (by first|with_reducible exact rfl|exact hI'|exact rd_))|(show ∃ _ _, _ ∧ _; refine ex2_ ?_ (by first|with_reducible exact rfl|exact hI'|exact rd_)))
theorem c_split1 (hf : isFn P N.impl_Algebra_split_1 (ir_impl_Algebra_split_1 N) = true) : C_split1 P N := by
  intro x
  refine can_of hf rfl rfl ?_
  (repeat' (conv => whnf)<;>first|exact True.intro|(refine if_ ?_ ?_<;>intro h<;>first|exact h.elim|(exfalso; omega)|skip)|refine vs_ ?_|refine dv_ ?_|exact fin_|(show ∃ _, _ ∧ _; refine ex_ ?_)|(show ∃ _ _, _ ∧ _; refine ex2_ ?_))
theorem split_idx {a : Alg} : dB (SplitP a) = !(Cm.geq.int (idxF (fun i => szF a true i != 1) (primI a).length) 0) := by
  rcases idxF_cases (fun i => szF a true i != 1) (primI a).length with ⟨e, h⟩ | ⟨q, hq, e, h, _⟩
  · rw [e, dB_t (p := SplitP a) fun i hi => by have := h i hi; simpa using this]; rfl
  · rw [e, dB_f (p := SplitP a) fun hs => by have := hs q hq; simp [this] at h]
    have : Cm.geq.int (q : Int) 0 = true := decide_eq_true (show (0 : Int) ≤ (q : Int) by omega)
    rw [this]; rfl
theorem c_split (hD : C_degrees P N) (hC : C_CFInt P N) (h1 : C_split1 P N) (hf : isFn P N.impl_Algebra_split (ir_impl_Algebra_split N) = true) : C_split P N := by
  intro sz l e off a hat hca
  have hle := prims_le hca
  have hD' := hD (sz := sz) hat hca
  have hC' := hC (m := (primI a).length) (f := szF a true) (g := N.impl_Algebra_split_1) (q := fun i => szF a true i != 1) (by omega) (fun i _ => h1)
  refine can_of hf rfl rfl ?_
  rw [split_idx]
  (repeat' (conv => whnf)<;>first|exact True.intro|(refine if_ ?_ ?_<;>intro h<;>first|exact h.elim|(exfalso; omega)|skip)|refine vs_ ?_|refine dv_ ?_|exact fin_|(show ∃ _, _ ∧ _; refine ex_ ?_ (by first|with_reducible exact rfl|exact hD'|exact hC'|exact rd_))|(show ∃ _ _, _ ∧ _; refine ex2_ ?_ (by first|with_reducible exact rfl|exact hD'|exact hC'|exact rd_)))
theorem c_sSplit (hS : C_sSizes P N) (hf : isFn P N.spec_l05Split (ir_spec_l05Split N) = true) : C_sSplit P N := by
  intro a hca
  have hat := algAt_one a
  have hal := hat.all
  have hle := prims_le hca
  have hS' := hS (b := true) hca
  have hrl : (row (primI a).length (szF a true)).length = (primI a).length := row_len ..
  refine can_of hf rfl rfl ?_
  (repeat' (conv => whnf)<;>first|exact True.intro|(refine if_ ?_ ?_<;>intro h<;>first|exact h.elim|(exfalso; omega)|skip)|refine vs_ ?_|refine dv_ ?_|exact fin_|(show ∃ _, _ ∧ _; refine ex_ ?_ (by first|with_reducible exact rfl|with_reducible exact hal|exact hS'|exact rd_))|(show ∃ _ _, _ ∧ _; refine ex2_ ?_ (by first|with_reducible exact rfl|with_reducible exact hal|exact hS'|exact rd_)))
  conv => whnf
  refine vc_loop (α := Nat) 0 (fun i => (primI a).length - i) (fun i => i ≤ (primI a).length ∧ ∀ q, q < i → szF a true q = 1) [] (fun i => [(4, .d (.int .i64 i))]) (fun i => []) lp_ ?_ ?_
  · (repeat' (conv => whnf)<;>first|exact True.intro|(refine if_ ?_ ?_<;>intro h<;>first|exact h.elim|(exfalso; omega)|skip)|refine vs_ ?_|refine dv_ ?_|exact fin_|(show ∃ _, _ ∧ _; refine ex_ ?_)|(show ∃ _ _, _ ∧ _; refine ex2_ ?_))
  · rintro i ⟨hi, hall⟩
    by_cases hlt : i < (primI a).length
    · by_cases c : szF a true i = 1
      · (repeat' (conv => whnf)<;>first|exact True.intro|(refine if_ ?_ ?_<;>intro h<;>first|exact h.elim|(exfalso; omega)|skip)|refine vs_ ?_|refine dv_ ?_|exact fin_|(show ∃ _, _ ∧ _; refine ex_ ?_)|(show ∃ _ _, _ ∧ _; refine ex2_ ?_))
        conv => whnf
        refine ⟨i + 1, ⟨by omega, all_succ hall c⟩, by omega, ?_⟩
        (repeat' (conv => whnf)<;>first|exact True.intro|(refine if_ ?_ ?_<;>intro h<;>first|exact h.elim|(exfalso; omega)|skip)|refine vs_ ?_|refine dv_ ?_|exact fin_|(show ∃ _, _ ∧ _; refine ex_ ?_)|(show ∃ _ _, _ ∧ _; refine ex2_ ?_))
      · rw [dB_f (p := SplitP a) fun h => c (h i hlt)]
        (repeat' (conv => whnf)<;>first|exact True.intro|(refine if_ ?_ ?_<;>intro h<;>first|exact h.elim|(exfalso; omega)|skip)|refine vs_ ?_|refine dv_ ?_|exact fin_|(show ∃ _, _ ∧ _; refine ex_ ?_)|(show ∃ _ _, _ ∧ _; refine ex2_ ?_))
    · rw [dB_t (p := SplitP a) fun q hq => hall q (by omega)]
      (repeat' (conv => whnf)<;>first|exact True.intro|(refine if_ ?_ ?_<;>intro h<;>first|exact h.elim|(exfalso; omega)|skip)|refine vs_ ?_|refine dv_ ?_|exact fin_|(show ∃ _, _ ∧ _; refine ex_ ?_)|(show ∃ _ _, _ ∧ _; refine ex2_ ?_))
end Go.X
