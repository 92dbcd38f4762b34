import Derived.Test.YtghlfoeiplaanaaGreatW3
import Derived.Test.YtghlfoeiplaanaaGreatK16
import Derived.Test.YtghlfoeiplaanaaGreatW15
import Derived.Test.YtghlfoeiplaanaaGreatW11
import Derived.Test.YtghlfoeiplaanaaGreatK5
import Derived.Test.YtghlfoeiplaanaaGreatW6
import Derived.Test.YtghlfoeiplaanaaGreatW7
set_option linter.all false
namespace Go.X
open Go Go.RowKit
set_option maxRecDepth 100000
set_option maxHeartbeats 8000000
set_option linter.unusedSimpArgs false
set_option linter.unusedVariables false
variable {P : Program} {N : FN}
theorem c_equationsM (hN : C_n P N) (hB : C_basis P N) (hf : isFn P N.impl_Algebra_equations (ir_impl_Algebra_equations N) = true) : C_equationsM P N := by
  intro sz l e off a m g c d M hat ha hm hM hmap
  have hn := ha.n
  have hN' : Can P N.impl_Algebra_n [.pd sz l e off] (.val (.int .i64 a.n)) := hN hat
  have hml := mapsL_len m g c d
  refine can_of hf rfl rfl ?_
  (repeat' (conv => whnf) <;> first | exact True.intro | (refine if_ ?_ ?_ <;> intro h <;> first | exact h.elim | (exfalso; omega) | skip) | refine vs_ ?_ | refine dv_ ?_ | exact fin_ | (show ∃ _, _ ∧ _; refine ex_ ?_) | (show ∃ _ _, _ ∧ _; refine ex2_ ?_) | fail)
  conv => whnf
  generalize hnn : a.n.toNat = n at *
  have hn' : a.n = (n : Int) := by omega
  rw [hn'] at hN'
  refine vc_loop (α := Nat) 0 (fun q => m - q) (fun q => q ≤ m) [] (fun q => [(5, .row 6 1), (12, .d (.lst 1 (mapsL m g c d))), (13, .d (.int .i64 m)), (14, .d (.int .i64 q))]) (fun q => [(6, .nest 1 (arr (q * n) fun r => row n (eqR M n r)) none)]) lp_ ?_ ?_
  · (repeat' (conv => whnf) <;> first | exact True.intro | (refine if_ ?_ ?_ <;> intro h <;> first | exact h.elim | (exfalso; omega) | skip) | refine vs_ ?_ (by first | (refine congrArg (fun x => AV.d (D.int .i64 x)) ?_; rw [hml]) | (rw [Nat.zero_mul]; rfl) | exact sd_) | refine dv_ ?_ | exact fin_ | (show ∃ _, _ ∧ _; refine ex_ ?_) | (show ∃ _ _, _ ∧ _; refine ex2_ ?_) | fail)
  · intro q hq
    by_cases hlt : q < m
    · have hmn : (q + 1) * n ≤ m * n := Nat.mul_le_mul_right _ (by omega)
      have hmn2 : m * n ≤ 100 * 6 := Nat.mul_le_mul (by omega) (by omega)
      have hsucc : (q + 1) * n = q * n + n := by rw [Nat.add_mul, Nat.one_mul]
      (repeat' (conv => whnf) <;> first | exact True.intro | (refine if_ ?_ ?_ <;> intro h <;> first | exact h.elim | (exfalso; omega) | skip) | refine vs_ ?_ (by first | exact ⟨rfl, by omega, by rw [hml]; omega⟩ | exact sd_) | refine dv_ ?_ | exact fin_ | (show ∃ _, _ ∧ _; refine ex_ ?_ (by first | with_reducible exact rfl | exact rd_map hlt | exact hN' | exact rd_)) | (show ∃ _ _, _ ∧ _; refine ex2_ ?_ (by first | with_reducible exact rfl | exact rd_map hlt | exact hN' | exact rd_)) | fail)
      conv => whnf
      refine vc_loop (α := Nat) 0 (fun k => n - k) (fun k => k ≤ n) [] (fun k => [(5, .row 6 1), (7, .d (.fn (g q) [] [c q, d q])), (12, .d (.lst 1 (mapsL m g c d))), (13, .d (.int .i64 m)), (14, .d (.int .i64 q)), (19, .d (.int .i64 n)), (20, .d (.int .i64 k))]) (fun k => [(6, .nest 1 (arr (q * n + k) fun r => row n (eqR M n r)) none)]) lp_ ?_ ?_
      · (repeat' (conv => whnf) <;> first | exact True.intro | (refine if_ ?_ ?_ <;> intro h <;> first | exact h.elim | (exfalso; omega) | skip) | refine vs_ ?_ | refine dv_ ?_ | exact fin_ | (show ∃ _, _ ∧ _; refine ex_ ?_) | (show ∃ _ _, _ ∧ _; refine ex2_ ?_) | fail)
      · intro k hk
        by_cases hlt2 : k < n
        · have hdiv : (q * n + k) / n = q := by rw [Nat.mul_comm, Nat.mul_add_div (by omega), Nat.div_eq_of_lt hlt2, Nat.add_zero]
          have hmod : (q * n + k) % n = k := by rw [Nat.mul_comm, Nat.mul_add_mod, Nat.mod_eq_of_lt hlt2]
          have he : ∀ i, eqR M n (q * n + k) i = M q i k := fun i => by unfold eqR; rw [hdiv, hmod]
          (repeat' (conv => whnf) <;> first | exact True.intro | (refine if_ ?_ ?_ <;> intro h <;> first | exact h.elim | (exfalso; omega) | skip) | refine vs_ ?_ | refine dv_ ?_ | exact fin_ | (show ∃ _, _ ∧ _; refine ex_ ?_ (by first | with_reducible exact rfl | exact hN' | exact rd_)) | (show ∃ _ _, _ ∧ _; refine ex2_ ?_ (by first | with_reducible exact rfl | exact hN' | exact rd_)) | fail)
          conv => whnf
          refine vc_loop (α := Nat) 0 (fun i => n - i) (fun i => i ≤ n) [] (fun i => [(5, .row 6 1), (7, .d (.fn (g q) [] [c q, d q])), (8, .d (.int .i64 k)), (9, .row 10 1), (12, .d (.lst 1 (mapsL m g c d))), (13, .d (.int .i64 m)), (14, .d (.int .i64 q)), (19, .d (.int .i64 n)), (20, .d (.int .i64 k)), (25, .d (.int .i64 n)), (26, .d (.int .i64 i))]) (fun i => [(6, .nest 1 (arr (q * n + k) fun r => row n (eqR M n r)) none), (10, .data 1 (row i (eqR M n (q * n + k))))]) lp_ ?_ ?_
          · (repeat' (conv => whnf) <;> first | exact True.intro | (refine if_ ?_ ?_ <;> intro h <;> first | exact h.elim | (exfalso; omega) | skip) | refine vs_ ?_ | refine dv_ ?_ | exact fin_ | (show ∃ _, _ ∧ _; refine ex_ ?_) | (show ∃ _ _, _ ∧ _; refine ex2_ ?_) | fail)
          · intro i hi
            have hb := hM q i k
            by_cases hlt3 : i < n
            · (repeat' (conv => whnf) <;> first | exact True.intro | (refine if_ ?_ ?_ <;> intro h <;> first | exact h.elim | (exfalso; omega) | skip) | refine vs_ ?_ | refine dv_ ?_ | exact fin_ | (show ∃ _, _ ∧ _; refine ex_ ?_ (by first | with_reducible exact rfl | exact hB (by omega) | exact hmap q i hlt hlt3 | exact rd_idx (by omega) | exact rd_)) | (show ∃ _ _, _ ∧ _; refine ex2_ ?_ (by first | with_reducible exact rfl | exact hB (by omega) | exact hmap q i hlt hlt3 | exact rd_idx (by omega) | exact rd_)) | fail)
              conv => whnf
              refine ⟨i + 1, by omega, by omega, ?_⟩
              (repeat' (conv => whnf) <;> first | exact True.intro | (refine if_ ?_ ?_ <;> intro h <;> first | exact h.elim | (exfalso; omega) | skip) | refine vs_ ?_ (by first | exact row_app (he i).symm | exact sd_) | refine dv_ ?_ | exact fin_ | (show ∃ _, _ ∧ _; refine ex_ ?_) | (show ∃ _ _, _ ∧ _; refine ex2_ ?_) | fail)
            · have : i = n := by omega
              (repeat' (conv => whnf) <;> first | exact True.intro | (refine if_ ?_ ?_ <;> intro h <;> first | exact h.elim | (exfalso; omega) | skip) | refine vs_ ?_ | refine dv_ ?_ | exact fin_ | (show ∃ _, _ ∧ _; refine ex_ ?_) | (show ∃ _ _, _ ∧ _; refine ex2_ ?_) | fail)
              conv => whnf
              refine ⟨k + 1, by omega, by omega, ?_⟩
              (repeat' (conv => whnf) <;> first | exact True.intro | (refine if_ ?_ ?_ <;> intro h <;> first | exact h.elim | (exfalso; omega) | skip) | refine vs_ ?_ (by first | exact nest_putA (by rw [this]) | exact sd_) | refine dv_ ?_ | exact fin_ | (show ∃ _, _ ∧ _; refine ex_ ?_) | (show ∃ _ _, _ ∧ _; refine ex2_ ?_) | fail)
        · have : k = n := by omega
          (repeat' (conv => whnf) <;> first | exact True.intro | (refine if_ ?_ ?_ <;> intro h <;> first | exact h.elim | (exfalso; omega) | skip) | refine vs_ ?_ | refine dv_ ?_ | exact fin_ | (show ∃ _, _ ∧ _; refine ex_ ?_) | (show ∃ _ _, _ ∧ _; refine ex2_ ?_) | fail)
          conv => whnf
          refine ⟨q + 1, by omega, by omega, ?_⟩
          (repeat' (conv => whnf) <;> first | exact True.intro | (refine if_ ?_ ?_ <;> intro h <;> first | exact h.elim | (exfalso; omega) | skip) | refine vs_ ?_ (by first | (rw [this, hsucc]) | exact sd_) | refine dv_ ?_ | exact fin_ | (show ∃ _, _ ∧ _; refine ex_ ?_) | (show ∃ _ _, _ ∧ _; refine ex2_ ?_) | fail)
    · have : q = m := by omega
      (repeat' (conv => whnf) <;> first | exact True.intro | (refine if_ ?_ ?_ <;> intro h <;> first | exact h.elim | (exfalso; omega) | skip) | refine vs_ ?_ | refine dv_ ?_ | exact fin_ | (show ∃ _, _ ∧ _; refine ex_ ?_) | (show ∃ _ _, _ ∧ _; refine ex2_ ?_) | fail)
      conv => whnf
      rw [this]
end Go.X
namespace Go.X
open Go Go.RowKit
set_option maxRecDepth 100000
set_option maxHeartbeats 8000000
set_option linter.unusedVariables false
variable {P : Program} {N : FN}
end Go.X
