import Derived.Test.YtiefibobgdbcdaaM1
set_option linter.all false
namespace Go.X
open Go Go.RowKit
set_option maxRecDepth 100000
set_option maxHeartbeats 8000000
set_option linter.unusedSimpArgs false
set_option linter.unusedVariables false
variable {P : Program} {N : FN}
theorem c_in (hf : isFn P N.impl_in (ir_impl_in N) = true) : C_in P N := by
  intro n lo hi
  refine can_of hf rfl rfl ?_
  (repeat' (conv => whnf)<;>first|exact True.intro|(refine if_ ?_ ?_<;>intro h<;>first|exact h.elim|(exfalso; omega)|skip)|refine vs_ ?_|refine dv_ ?_|exact fin_|(show ∃ _, _ ∧ _; refine ex_ ?_)|(show ∃ _ _, _ ∧ _; refine ex2_ ?_))
  all_goals (conv => whnf) <;> refine congrArg D.bool ?_ <;> (rw [Bool.eq_iff_iff]; simp only [Bool.not_true, Bool.not_false, Cm.int, decide_eq_true_eq, beq_iff_eq, bne_iff_ne, ne_eq, reduceCtorEq, true_iff, iff_true, false_iff, iff_false, Bool.false_eq_true, Bool.true_eq_false] <;> omega)
theorem c_sIn (hf : isFn P N.spec_l01In (ir_spec_l01In N) = true) : C_sIn P N := by
  intro n lo hi
  refine can_of hf rfl rfl ?_
  (repeat' (conv => whnf)<;>first|exact True.intro|(refine if_ ?_ ?_<;>intro h<;>first|exact h.elim|(exfalso; omega)|skip)|refine vs_ ?_|refine dv_ ?_|exact fin_|(show ∃ _, _ ∧ _; refine ex_ ?_)|(show ∃ _ _, _ ∧ _; refine ex2_ ?_))
  all_goals (conv => whnf) <;> refine congrArg D.bool ?_ <;> (rw [Bool.eq_iff_iff]; simp only [Bool.not_true, Bool.not_false, Cm.int, decide_eq_true_eq, beq_iff_eq, bne_iff_ne, ne_eq, reduceCtorEq, true_iff, iff_true, false_iff, iff_false, Bool.false_eq_true, Bool.true_eq_false] <;> omega)
theorem c_Index (hf : isFn P N.slices_Index_Lint64_int64 (ir_slices_Index_Lint64_int64 N) = true) : C_Index P N := by
  intro m f x hm
  refine can_of hf rfl rfl ?_
  (repeat' (conv => whnf)<;>first|exact True.intro|(refine if_ ?_ ?_<;>intro h<;>first|exact h.elim|(exfalso; omega)|skip)|refine vs_ ?_|refine dv_ ?_|exact fin_|(show ∃ _, _ ∧ _; refine ex_ ?_)|(show ∃ _ _, _ ∧ _; refine ex2_ ?_))
  conv => whnf
  refine vc_loop (α := Nat) 0 (fun i => m - i) (fun i => i ≤ m ∧ ∀ j, j < i → f j ≠ x) [] (fun i => [(7, .d (.int .i64 m)), (8, .d (.int .i64 i))]) (fun i => []) lp_ ?_ ?_
  · (repeat' (conv => whnf)<;>first|exact True.intro|(refine if_ ?_ ?_<;>intro h<;>first|exact h.elim|(exfalso; omega)|skip)|refine vs_ ?_|refine dv_ ?_|exact fin_|(show ∃ _, _ ∧ _; refine ex_ ?_)|(show ∃ _ _, _ ∧ _; refine ex2_ ?_))
  · rintro i ⟨hi, hx⟩
    (repeat' (conv => whnf)<;>first|exact True.intro|(refine if_ ?_ ?_<;>intro h<;>first|exact h.elim|(exfalso; omega)|skip)|refine vs_ ?_|refine dv_ ?_|exact fin_|(show ∃ _, _ ∧ _; refine ex_ ?_)|(show ∃ _ _, _ ∧ _; refine ex2_ ?_))
    · conv => whnf
      exact congrArg (D.int .i64) (idxF_some (by omega) (by simp [*]) (fun j hj => by simp [hx j hj])).symm
    · conv => whnf
      refine ⟨i + 1, ⟨by omega, fun j hj => ?_⟩, by omega, ?_⟩
      · rcases Nat.lt_or_ge j i with h1 | h1
        · exact hx j h1
        · have : j = i := by omega
          subst this; exact fun e => absurd e.symm ‹_›
      · (repeat' (conv => whnf)<;>first|exact True.intro|(refine if_ ?_ ?_<;>intro h<;>first|exact h.elim|(exfalso; omega)|skip)|refine vs_ ?_|refine dv_ ?_|exact fin_|(show ∃ _, _ ∧ _; refine ex_ ?_)|(show ∃ _ _, _ ∧ _; refine ex2_ ?_))
    · conv => whnf
      exact congrArg (D.int .i64) (idxF_none (fun j hj => by simp [hx j (by omega)])).symm
theorem c_Contains (h1 : C_Index P N) (hf : isFn P N.slices_Contains_Lint64_int64 (ir_slices_Contains_Lint64_int64 N) = true) : C_Contains P N := by
  intro m f x hm
  refine can_of hf rfl rfl ?_
  (repeat' (conv => whnf)<;>first|exact True.intro|(refine if_ ?_ ?_<;>intro h<;>first|exact h.elim|(exfalso; omega)|skip)|refine vs_ ?_|refine dv_ ?_|exact fin_|(show ∃ _, _ ∧ _; refine ex_ ?_ (by first|with_reducible exact rfl|exact h1 (by omega)|exact rd_))|(show ∃ _ _, _ ∧ _; refine ex2_ ?_ (by first|with_reducible exact rfl|exact h1 (by omega)|exact rd_)))
theorem c_isPrime (h1 : C_Contains P N) (hf : isFn P N.impl_isPrime (ir_impl_isPrime N) = true) : C_isPrime P N := by
  intro p
  refine can_of hf rfl rfl ?_
  (repeat' (conv => whnf)<;>first|exact True.intro|(refine if_ ?_ ?_<;>intro h<;>first|exact h.elim|(exfalso; omega)|skip)|refine vs_ ?_|refine dv_ ?_|exact fin_|(show ∃ _, _ ∧ _; refine ex_ ?_ (by first|with_reducible exact rfl|exact h1 (m := 6) (f := fun i => primes.getD i 0) (by omega)|exact rd_))|(show ∃ _ _, _ ∧ _; refine ex2_ ?_ (by first|with_reducible exact rfl|exact h1 (m := 6) (f := fun i => primes.getD i 0) (by omega)|exact rd_)))
  conv => whnf
  refine congrArg D.bool ?_
  rw [Bool.eq_iff_iff, decide_eq_true_eq, decide_eq_true_eq]
  exact idx_primes p
theorem c_sPrime (hf : isFn P N.spec_l01Prime (ir_spec_l01Prime N) = true) : C_sPrime P N := by
  intro p
  refine can_of hf rfl rfl ?_
  (repeat' (conv => whnf)<;>first|exact True.intro|(refine if_ ?_ ?_<;>intro h<;>first|exact h.elim|(exfalso; omega)|skip)|refine vs_ ?_|refine dv_ ?_|exact fin_|(show ∃ _, _ ∧ _; refine ex_ ?_)|(show ∃ _ _, _ ∧ _; refine ex2_ ?_))
  all_goals (conv => whnf) <;> refine congrArg D.bool ?_ <;> (rw [Bool.eq_iff_iff]; simp only [Bool.not_true, Bool.not_false, Cm.int, decide_eq_true_eq, beq_iff_eq, bne_iff_ne, ne_eq, reduceCtorEq, true_iff, iff_true, false_iff, iff_false, Bool.false_eq_true, Bool.true_eq_false, mem_primes] <;> omega)
end Go.X
namespace Go.X
open Go Go.RowKit
set_option maxRecDepth 100000
set_option maxHeartbeats 8000000
set_option linter.unusedSimpArgs false
set_option linter.unusedVariables false
variable {P : Program} {N : FN}
end Go.X
