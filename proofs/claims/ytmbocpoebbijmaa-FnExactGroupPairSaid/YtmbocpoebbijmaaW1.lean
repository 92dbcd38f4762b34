import Derived.Test.YtmbocpoebbijmaaM1
set_option linter.all false
namespace Go.X
open Go Go.RowKit
set_option maxRecDepth 100000
set_option maxHeartbeats 8000000
set_option linter.unusedSimpArgs false
set_option linter.unusedVariables false
variable {P : Program} {N : FN}
theorem c_in (hf : isFn P N.impl_in (ir_impl_in N) = true) : C_in P N := by
  intro n lo hi
  refine can_of hf rfl rfl ?_
  (repeat' (conv => whnf)<;>first|exact True.intro|(refine if_ ?_ ?_<;>intro h<;>first|exact h.elim|(exfalso; omega)|skip)|refine vs_ ?_|refine dv_ ?_|exact fin_|(show ∃ _, _ ∧ _; refine ex_ ?_)|(show ∃ _ _, _ ∧ _; refine ex2_ ?_))
  all_goals (conv => whnf) <;> refine congrArg D.bool ?_ <;> (rw [Bool.eq_iff_iff]; simp only [Bool.not_true, Bool.not_false, Cm.int, decide_eq_true_eq, beq_iff_eq, bne_iff_ne, ne_eq, reduceCtorEq, true_iff, iff_true, false_iff, iff_false, Bool.false_eq_true, Bool.true_eq_false] <;> omega)
theorem c_sIn (hf : isFn P N.spec_l01In (ir_spec_l01In N) = true) : C_sIn P N := by
  intro n lo hi
  refine can_of hf rfl rfl ?_
  (repeat' (conv => whnf)<;>first|exact True.intro|(refine if_ ?_ ?_<;>intro h<;>first|exact h.elim|(exfalso; omega)|skip)|refine vs_ ?_|refine dv_ ?_|exact fin_|(show ∃ _, _ ∧ _; refine ex_ ?_)|(show ∃ _ _, _ ∧ _; refine ex2_ ?_))
  all_goals (conv => whnf) <;> refine congrArg D.bool ?_ <;> (rw [Bool.eq_iff_iff]; simp only [Bool.not_true, Bool.not_false, Cm.int, decide_eq_true_eq, beq_iff_eq, bne_iff_ne, ne_eq, reduceCtorEq, true_iff, iff_true, false_iff, iff_false, Bool.false_eq_true, Bool.true_eq_false] <;> omega)
theorem c_Index (hf : isFn P N.slices_Index_Lint64_int64 (ir_slices_Index_Lint64_int64 N) = true) : C_Index P N := by
  intro m f x hm
  refine can_of hf rfl rfl ?_
  (repeat' (conv => whnf)<;>first|exact True.intro|(refine if_ ?_ ?_<;>intro h<;>first|exact h.elim|(exfalso; omega)|skip)|refine vs_ ?_|refine dv_ ?_|exact fin_|(show ∃ _, _ ∧ _; refine ex_ ?_)|(show ∃ _ _, _ ∧ _; refine ex2_ ?_))
  conv => whnf
  refine vc_loop (α := Nat) 0 (fun i => m - i) (fun i => i ≤ m ∧ ∀ j, j < i → f j ≠ x) [] (fun i => [(7, .d (.int .i64 m)), (8, .d (.int .i64 i))]) (fun i => []) lp_ ?_ ?_
  · (repeat' (conv => whnf)<;>first|exact True.intro|(refine if_ ?_ ?_<;>intro h<;>first|exact h.elim|(exfalso; omega)|skip)|refine vs_ ?_|refine dv_ ?_|exact fin_|(show ∃ _, _ ∧ _; refine ex_ ?_)|(show ∃ _ _, _ ∧ _; refine ex2_ ?_))
  · rintro i ⟨hi, hx⟩
    (repeat' (conv => whnf)<;>first|exact True.intro|(refine if_ ?_ ?_<;>intro h<;>first|exact h.elim|(exfalso; omega)|skip)|refine vs_ ?_|refine dv_ ?_|exact fin_|(show ∃ _, _ ∧ _; refine ex_ ?_)|(show ∃ _ _, _ ∧ _; refine ex2_ ?_))
    · conv => whnf
      exact congrArg (D.int .i64) (idxF_some (by omega) (by simp [*]) (fun j hj => by simp [hx j hj])).symm
    · conv => whnf
      refine ⟨i + 1, ⟨by omega, fun j hj => ?_⟩, by omega, ?_⟩
      · rcases Nat.lt_or_ge j i with h1 | h1
        · exact hx j h1
        · have : j = i := by omega
          subst this; exact fun e => absurd e.symm ‹_›
      · (repeat' (conv => whnf)<;>first|exact True.intro|(refine if_ ?_ ?_<;>intro h<;>first|exact h.elim|(exfalso; omega)|skip)|refine vs_ ?_|refine dv_ ?_|exact fin_|(show ∃ _, _ ∧ _; refine ex_ ?_)|(show ∃ _ _, _ ∧ _; refine ex2_ ?_))
    · conv => whnf
      exact congrArg (D.int .i64) (idxF_none (fun j hj => by simp [hx j (by omega)])).symm
theorem c_Contains (h1 : C_Index P N) (hf : isFn P N.slices_Contains_Lint64_int64 (ir_slices_Contains_Lint64_int64 N) = true) : C_Contains P N := by
  intro m f x hm
  refine can_of hf rfl rfl ?_
  (repeat' (conv => whnf)<;>first|exact True.intro|(refine if_ ?_ ?_<;>intro h<;>first|exact h.elim|(exfalso; omega)|skip)|refine vs_ ?_|refine dv_ ?_|exact fin_|(show ∃ _, _ ∧ _; refine ex_ ?_ (by first|with_reducible exact rfl|exact h1 (by omega)|exact rd_))|(show ∃ _ _, _ ∧ _; refine ex2_ ?_ (by first|with_reducible exact rfl|exact h1 (by omega)|exact rd_)))
theorem c_isPrime (h1 : C_Contains P N) (hf : isFn P N.impl_isPrime (ir_impl_isPrime N) = true) : C_isPrime P N := by
  intro p
  refine can_of hf rfl rfl ?_
  (repeat' (conv => whnf)<;>first|exact True.intro|(refine if_ ?_ ?_<;>intro h<;>first|exact h.elim|(exfalso; omega)|skip)|refine vs_ ?_|refine dv_ ?_|exact fin_|(show ∃ _, _ ∧ _; refine ex_ ?_ (by first|with_reducible exact rfl|exact h1 (m := 6) (f := fun i => primes.getD i 0) (by omega)|exact rd_))|(show ∃ _ _, _ ∧ _; refine ex2_ ?_ (by first|with_reducible exact rfl|exact h1 (m := 6) (f := fun i => primes.getD i 0) (by omega)|exact rd_)))
  conv => whnf
  refine congrArg D.bool ?_
  rw [Bool.eq_iff_iff, decide_eq_true_eq, decide_eq_true_eq]
  exact idx_primes p
theorem c_sPrime (hf : isFn P N.spec_l01Prime (ir_spec_l01Prime N) = true) : C_sPrime P N := by
  intro p
  refine can_of hf rfl rfl ?_
  (repeat' (conv => whnf)<;>first|exact True.intro|(refine if_ ?_ ?_<;>intro h<;>first|exact h.elim|(exfalso; omega)|skip)|refine vs_ ?_|refine dv_ ?_|exact fin_|(show ∃ _, _ ∧ _; refine ex_ ?_)|(show ∃ _ _, _ ∧ _; refine ex2_ ?_))
  all_goals (conv => whnf) <;> refine congrArg D.bool ?_ <;> (rw [Bool.eq_iff_iff]; simp only [Bool.not_true, Bool.not_false, Cm.int, decide_eq_true_eq, beq_iff_eq, bne_iff_ne, ne_eq, reduceCtorEq, true_iff, iff_true, false_iff, iff_false, Bool.false_eq_true, Bool.true_eq_false, mem_primes] <;> omega)
theorem c_sMod (hf : isFn P N.spec_l01Mod (ir_spec_l01Mod N) = true) : C_sMod P N := by
  intro x p hx hp
  have h1 := tmod_bd (x := x) hp.1
  refine can_of hf rfl rfl ?_
  (repeat' (conv => whnf)<;>first|exact True.intro|(refine if_ ?_ ?_<;>intro h<;>first|exact h.elim|(exfalso; omega)|skip)|refine vs_ ?_|refine dvT_ ?_|exact fin_|(show ∃ _, _ ∧ _; refine ex_ ?_)|(show ∃ _ _, _ ∧ _; refine ex2_ ?_))
  conv => whnf
  exact congrArg (D.int .i64) (tmod_mod' hp.1)
theorem c_power (hf : isFn P N.impl_power (ir_impl_power N) = true) : C_power P N := by
  intro x k p hx hk hp
  refine can_of hf rfl rfl ?_
  (repeat' (conv => whnf)<;>first|exact True.intro|(refine if_ ?_ ?_<;>intro h<;>first|exact h.elim|(exfalso; omega)|skip)|refine vs_ ?_|refine dv_ ?_|exact fin_|(show ∃ _, _ ∧ _; refine ex_ ?_)|(show ∃ _ _, _ ∧ _; refine ex2_ ?_))
  conv => whnf
  refine vc_loop (α := Nat) 0 (fun i => k.toNat - i) (fun i => i ≤ k.toNat) [] (fun i => [(9, .d (.int .i64 i)), (7, .d (.int .i64 (powR x p i)))]) (fun i => []) lp_ ?_ ?_
  · (repeat' (conv => whnf)<;>first|exact True.intro|(refine if_ ?_ ?_<;>intro h<;>first|exact h.elim|(exfalso; omega)|skip)|refine vs_ ?_|refine dv_ ?_|exact fin_|(show ∃ _, _ ∧ _; refine ex_ ?_)|(show ∃ _ _, _ ∧ _; refine ex2_ ?_))
  · intro i hi
    have h1 := powR_bd (n := x) hp.1 i
    have h2 := mul_bd (A := 1000) (B := 1000) ⟨h1.1, by omega⟩ hx
    (repeat' (conv => whnf)<;>first|exact True.intro|(refine if_ ?_ ?_<;>intro h<;>first|exact h.elim|(exfalso; omega)|skip)|refine vs_ ?_|refine dv_ ?_|exact fin_|(show ∃ _, _ ∧ _; refine ex_ ?_)|(show ∃ _ _, _ ∧ _; refine ex2_ ?_))
    · conv => whnf
      refine ⟨i + 1, by omega, by omega, ?_⟩
      (repeat' (conv => whnf)<;>first|exact True.intro|(refine if_ ?_ ?_<;>intro h<;>first|exact h.elim|(exfalso; omega)|skip)|refine vs_ ?_|refine dv_ ?_|exact fin_|(show ∃ _, _ ∧ _; refine ex_ ?_)|(show ∃ _ _, _ ∧ _; refine ex2_ ?_))
    · conv => whnf
      rw [show k.toNat = i by omega]
theorem c_inverse (h1 : C_power P N) (hf : isFn P N.impl_inverse (ir_impl_inverse N) = true) : C_inverse P N := by
  intro x p hp hx
  have h2 := prime_bd hp
  refine can_of hf rfl rfl ?_
  (repeat' (conv => whnf)<;>first|exact True.intro|(refine if_ ?_ ?_<;>intro h<;>first|exact h.elim|(exfalso; omega)|skip)|refine vs_ ?_|refine dv_ ?_|exact fin_|(show ∃ _, _ ∧ _; refine ex_ ?_ (by first|with_reducible exact rfl|exact h1 (by omega) (by omega) (by omega)|exact rd_))|(show ∃ _ _, _ ∧ _; refine ex2_ ?_ (by first|with_reducible exact rfl|exact h1 (by omega) (by omega) (by omega)|exact rd_)))
  conv => whnf
  exact congrArg (D.int .i64) (inv_pow hp hx)
theorem inv_found {p x : Int} {i : Nat} (h0 : 1 ≤ i) (hi : (i : Int) < p) (hq : (i : Int) * (x % p) % p = 1) (h : ∀ j : Nat, 1 ≤ j → j < i → (j : Int) * (x % p) % p ≠ 1) : invF p x = i := by
  unfold invF
  have : (List.range p.toNat).find? (fun k => decide (1 ≤ k) && (((k : Nat) : Int) * (x % p) % p == 1)) = some i := by
    rw [List.find?_eq_some_iff_getElem]
    refine ⟨by simp [h0, hq], i, by simp; omega, by simp, fun j hj => ?_⟩
    rcases Nat.eq_zero_or_pos j with h1 | h1
    · simp [h1]
    · simp [h j h1 hj]
  rw [this]
theorem inv_none {p x : Int} (h : ∀ j : Nat, 1 ≤ j → (j : Int) < p → (j : Int) * (x % p) % p ≠ 1) : invF p x = 0 := by
  unfold invF
  have : (List.range p.toNat).find? (fun k => decide (1 ≤ k) && (((k : Nat) : Int) * (x % p) % p == 1)) = none := by
    rw [List.find?_eq_none]
    intro j hj
    simp at hj
    simp
    intro h1
    exact h j (by omega) (by omega)
  rw [this]
theorem c_sInverse (h1 : C_sMod P N) (hf : isFn P N.spec_l01Inverse (ir_spec_l01Inverse N) = true) : C_sInverse P N := by
  intro x p hp hx
  refine can_of hf rfl rfl ?_
  (repeat' (conv => whnf)<;>first|exact True.intro|(refine if_ ?_ ?_<;>intro h<;>first|exact h.elim|(exfalso; omega)|skip)|refine vs_ ?_|refine dv_ ?_|exact fin_|(show ∃ _, _ ∧ _; refine ex_ ?_)|(show ∃ _ _, _ ∧ _; refine ex2_ ?_))
  conv => whnf
  refine vc_loop (α := Nat) 1 (fun i => p.toNat - i) (fun i => 1 ≤ i ∧ (i : Int) ≤ p ∧ ∀ j : Nat, 1 ≤ j → j < i → (j : Int) * (x % p) % p ≠ 1) [] (fun i => [(5, .d (.int .i64 i))]) (fun i => []) lp_ ?_ ?_
  · (repeat' (conv => whnf)<;>first|exact True.intro|(refine if_ ?_ ?_<;>intro h<;>first|exact h.elim|(exfalso; omega)|skip)|refine vs_ ?_|refine dv_ ?_|exact fin_|(show ∃ _, _ ∧ _; refine ex_ ?_)|(show ∃ _ _, _ ∧ _; refine ex2_ ?_))
  · rintro i ⟨hi0, hi, hn⟩
    have h2 := mod_bd x (show 1 ≤ p by omega)
    have h3 := mul_bd (x := (i : Int)) (A := 1000) (B := 1000) ⟨by omega, by omega⟩ ⟨h2.1, by omega⟩
    (repeat' (conv => whnf)<;>first|exact True.intro|(refine if_ ?_ ?_<;>intro h<;>first|exact h.elim|(exfalso; omega)|skip)|refine vs_ ?_|refine dv_ ?_|exact fin_|(show ∃ _, _ ∧ _; refine ex_ ?_ (by first|with_reducible exact rfl|exact h1 (by omega) (by omega)|exact rd_))|(show ∃ _ _, _ ∧ _; refine ex2_ ?_ (by first|with_reducible exact rfl|exact h1 (by omega) (by omega)|exact rd_)))
    · conv => whnf
      exact congrArg (D.int .i64) (inv_found hi0 (by omega) (by simpa [Cm.int] using ‹_›) hn).symm
    · conv => whnf
      refine ⟨i + 1, ⟨by omega, by omega, fun j hj0 hj => ?_⟩, by omega, ?_⟩
      · rcases Nat.lt_or_ge j i with h4 | h4
        · exact hn j hj0 h4
        · have : j = i := by omega
          subst this; assumption
      · (repeat' (conv => whnf)<;>first|exact True.intro|(refine if_ ?_ ?_<;>intro h<;>first|exact h.elim|(exfalso; omega)|skip)|refine vs_ ?_|refine dv_ ?_|exact fin_|(show ∃ _, _ ∧ _; refine ex_ ?_)|(show ∃ _ _, _ ∧ _; refine ex2_ ?_))
    · conv => whnf
      exact congrArg (D.int .i64) (inv_none fun j hj0 hj => hn j hj0 (by omega)).symm
end Go.X
