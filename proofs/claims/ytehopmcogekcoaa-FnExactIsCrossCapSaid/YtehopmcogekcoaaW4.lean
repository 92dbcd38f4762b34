import Derived.Test.YtehopmcogekcoaaM3
set_option linter.all false
namespace Go.X
open Go Go.RowKit
set_option maxRecDepth 100000
set_option maxHeartbeats 8000000
set_option linter.unusedSimpArgs false
set_option linter.unusedVariables false
variable {P : Program} {N : FN}
theorem c_frobenius (hN : C_n P N) (hT : C_table P N) (hR : C_reduce P N) (hf : isFn P N.impl_Algebra_frobenius (ir_impl_Algebra_frobenius N) = true) : C_frobenius P N := by
  intro sz l e off a hat ha
  have hn := ha.n
  have hl := tabL_len a a.n.toNat
  refine can_of hf rfl rfl ?_
  (repeat' (conv => whnf) <;> first | exact True.intro | (refine if_ ?_ ?_ <;> intro h <;> first | exact h.elim | (exfalso; omega) | skip) | refine vs_ ?_ | refine dv_ ?_ | exact fin_ | (show ∃ _, _ ∧ _; refine ex_ ?_ (by first | with_reducible exact rfl | exact hN hat | exact hT hat ha | exact hR (by omega) (by omega) ha.p (tabL_rw ha _) | exact rd_)) | refine ex2_ ?_ (by first | with_reducible exact rfl | exact hN hat | exact hT hat ha | exact hR (by omega) (by omega) ha.p (tabL_rw ha _) | exact rd_) | fail)
  (conv => whnf) <;> refine congrArg D.bool ?_ <;> (rw [Bool.eq_iff_iff]; simp only [Bool.not_true, Bool.not_false, Cm.int, decide_eq_true_eq, beq_iff_eq, bne_iff_ne, ne_eq, reduceCtorEq, true_iff, iff_true, false_iff, iff_false, Bool.false_eq_true, Bool.true_eq_false, rowsL_len] <;> omega)
theorem c_symmetric (hT : C_table P N) (hf : isFn P N.impl_Algebra_symmetric (ir_impl_Algebra_symmetric N) = true) : C_symmetric P N := by
  intro sz l e off a hat ha
  have hn := ha.n
  have hl := tabL_len a a.n.toNat
  have hT' : Can P N.impl_Algebra_table [.pd sz l e off] (.val (rowsD a.n.toNat (tabL a a.n.toNat))) := hT hat ha
  refine can_of hf rfl rfl ?_
  (repeat' (conv => whnf) <;> first | exact True.intro | (refine if_ ?_ ?_ <;> intro h <;> first | exact h.elim | (exfalso; omega) | skip) | refine vs_ ?_ | refine dv_ ?_ | exact fin_ | (show ∃ _, _ ∧ _; refine ex_ ?_ (by first | with_reducible exact rfl | exact hT' | exact rd_)) | refine ex2_ ?_ (by first | with_reducible exact rfl | exact hT' | exact rd_) | fail)
  conv => whnf
  refine vc_loop (α := Nat) 0 (fun i => a.n.toNat - i) (fun i => i ≤ a.n.toNat ∧ ∀ i' : Nat, i' < i → ∀ j : Nat, j < a.n.toNat → tabR a j i' = tabR a i' j) [] (fun i => [(3, .d (rowsD a.n.toNat (tabL a a.n.toNat))), (10, .d (rowsD a.n.toNat (tabL a a.n.toNat))), (11, .d (.int .i64 a.n.toNat)), (12, .d (.int .i64 i))]) (fun i => []) lp_ ?_ ?_
  · (repeat' (conv => whnf) <;> first | exact True.intro | (refine if_ ?_ ?_ <;> intro h <;> first | exact h.elim | (exfalso; omega) | skip) | refine vs_ ?_ | refine dv_ ?_ | exact fin_ | (show ∃ _, _ ∧ _; refine ex_ ?_) | refine ex2_ ?_ | fail)
  · rintro i ⟨hi, hx⟩
    by_cases hlt : i < a.n.toNat
    · have g1 := tabL_get (a := a) hlt
      have g2 : get2 (rowsL a.n.toNat (tabL a a.n.toNat)) ((i : Nat) : Int).toNat 0 = some (rowD a.n.toNat (tabR a i)) := by rw [rd_rows (by omega), g1]
      (repeat' (conv => whnf) <;> first | exact True.intro | (refine if_ ?_ ?_ <;> intro h <;> first | exact h.elim | (exfalso; omega) | skip) | refine vs_ ?_ | refine dv_ ?_ | exact fin_ | (show ∃ _, _ ∧ _; refine ex_ ?_ (by first | with_reducible exact rfl | exact g2 | exact rd_)) | refine ex2_ ?_ (by first | with_reducible exact rfl | exact g2 | exact rd_) | fail)
      conv => whnf
      refine vc_loop (α := Nat) 0 (fun j => a.n.toNat - j) (fun j => j ≤ a.n.toNat ∧ ∀ j' : Nat, j' < j → tabR a j' i = tabR a i j') [] (fun j => [(3, .d (rowsD a.n.toNat (tabL a a.n.toNat))), (4, .d (.int .i64 i)), (10, .d (rowsD a.n.toNat (tabL a a.n.toNat))), (11, .d (.int .i64 a.n.toNat)), (12, .d (.int .i64 i)), (17, .d (rowD a.n.toNat (tabR a i))), (18, .d (.int .i64 a.n.toNat)), (19, .d (.int .i64 j))]) (fun j => []) lp_ ?_ ?_
      · (repeat' (conv => whnf) <;> first | exact True.intro | (refine if_ ?_ ?_ <;> intro h <;> first | exact h.elim | (exfalso; omega) | skip) | refine vs_ ?_ | refine dv_ ?_ | exact fin_ | (show ∃ _, _ ∧ _; refine ex_ ?_) | refine ex2_ ?_ | fail)
      · rintro j ⟨hj, hy⟩
        by_cases hlt2 : j < a.n.toNat
        · have g3 : get2 (rowsL a.n.toNat (tabL a a.n.toNat)) ((j : Nat) : Int).toNat 0 = some (rowD a.n.toNat (tabR a j)) := by rw [rd_rows (by omega), tabL_get hlt2]
          (repeat' (conv => whnf) <;> first | exact True.intro | (refine if_ ?_ ?_ <;> intro h <;> first | exact h.elim | (exfalso; omega) | skip) | refine vs_ ?_ | refine dv_ ?_ | exact fin_ | (show ∃ _, _ ∧ _; refine ex_ ?_ (by first | with_reducible exact rfl | exact g3 | exact rd_)) | refine ex2_ ?_ (by first | with_reducible exact rfl | exact g3 | exact rd_) | fail)
          · conv => whnf
            exact no (fun h => absurd (h i j hlt hlt2) ‹_›)
          · conv => whnf
            have hq : tabR a j i = tabR a i j := by assumption
            refine ⟨j + 1, ⟨by omega, all_succ hy hq⟩, by omega, ?_⟩
            (repeat' (conv => whnf) <;> first | exact True.intro | (refine if_ ?_ ?_ <;> intro h <;> first | exact h.elim | (exfalso; omega) | skip) | refine vs_ ?_ | refine dv_ ?_ | exact fin_ | (show ∃ _, _ ∧ _; refine ex_ ?_) | refine ex2_ ?_ | fail)
        · have hq : ∀ j : Nat, j < a.n.toNat → tabR a j i = tabR a i j := fun j' hj' => hy j' (by omega)
          (repeat' (conv => whnf) <;> first | exact True.intro | (refine if_ ?_ ?_ <;> intro h <;> first | exact h.elim | (exfalso; omega) | skip) | refine vs_ ?_ | refine dv_ ?_ | exact fin_ | (show ∃ _, _ ∧ _; refine ex_ ?_) | refine ex2_ ?_ | fail)
          conv => whnf
          refine ⟨i + 1, ⟨by omega, all_succ hx hq⟩, by omega, ?_⟩
          (repeat' (conv => whnf) <;> first | exact True.intro | (refine if_ ?_ ?_ <;> intro h <;> first | exact h.elim | (exfalso; omega) | skip) | refine vs_ ?_ | refine dv_ ?_ | exact fin_ | (show ∃ _, _ ∧ _; refine ex_ ?_) | refine ex2_ ?_ | fail)
    · (repeat' (conv => whnf) <;> first | exact True.intro | (refine if_ ?_ ?_ <;> intro h <;> first | exact h.elim | (exfalso; omega) | skip) | refine vs_ ?_ | refine dv_ ?_ | exact fin_ | (show ∃ _, _ ∧ _; refine ex_ ?_) | refine ex2_ ?_ | fail)
      conv => whnf
      exact yes (fun i' j h1 h2 => hx i' (by omega) j h2)
theorem c_sSymmetric (hT : C_sTable P N) (hf : isFn P N.spec_l10Symmetric (ir_spec_l10Symmetric N) = true) : C_sSymmetric P N := by
  intro a ha
  have hn := ha.n
  have hl := tabL_len a a.n.toNat
  have hT' : Can P N.spec_l02Table [algD a] (.val (rowsD a.n.toNat (tabL a a.n.toNat))) := hT ha
  refine can_of hf rfl rfl ?_
  (repeat' (conv => whnf) <;> first | exact True.intro | (refine if_ ?_ ?_ <;> intro h <;> first | exact h.elim | (exfalso; omega) | skip) | refine vs_ ?_ | refine dv_ ?_ | exact fin_ | (show ∃ _, _ ∧ _; refine ex_ ?_ (by first | with_reducible exact rfl | exact hT' | exact rd_)) | refine ex2_ ?_ (by first | with_reducible exact rfl | exact hT' | exact rd_) | fail)
  conv => whnf
  refine vc_loop (α := Nat) 0 (fun i => a.n.toNat - i) (fun i => i ≤ a.n.toNat ∧ ∀ i' : Nat, i' < i → ∀ j : Nat, j < i' → tabR a i' j = tabR a j i') [] (fun i => [(3, .d (rowsD a.n.toNat (tabL a a.n.toNat))), (4, .d (.int .i64 i))]) (fun i => []) lp_ ?_ ?_
  · (repeat' (conv => whnf) <;> first | exact True.intro | (refine if_ ?_ ?_ <;> intro h <;> first | exact h.elim | (exfalso; omega) | skip) | refine vs_ ?_ | refine dv_ ?_ | exact fin_ | (show ∃ _, _ ∧ _; refine ex_ ?_) | refine ex2_ ?_ | fail)
  · rintro i ⟨hi, hx⟩
    by_cases hlt : i < a.n.toNat
    · have g2 : get2 (rowsL a.n.toNat (tabL a a.n.toNat)) ((i : Nat) : Int).toNat 0 = some (rowD a.n.toNat (tabR a i)) := by rw [rd_rows (by omega), tabL_get hlt]
      (repeat' (conv => whnf) <;> first | exact True.intro | (refine if_ ?_ ?_ <;> intro h <;> first | exact h.elim | (exfalso; omega) | skip) | refine vs_ ?_ | refine dv_ ?_ | exact fin_ | (show ∃ _, _ ∧ _; refine ex_ ?_) | refine ex2_ ?_ | fail)
      conv => whnf
      refine vc_loop (α := Nat) 0 (fun j => i - j) (fun j => j ≤ i ∧ ∀ j' : Nat, j' < j → tabR a i j' = tabR a j' i) [] (fun j => [(3, .d (rowsD a.n.toNat (tabL a a.n.toNat))), (4, .d (.int .i64 i)), (5, .d (.int .i64 j))]) (fun j => []) lp_ ?_ ?_
      · (repeat' (conv => whnf) <;> first | exact True.intro | (refine if_ ?_ ?_ <;> intro h <;> first | exact h.elim | (exfalso; omega) | skip) | refine vs_ ?_ | refine dv_ ?_ | exact fin_ | (show ∃ _, _ ∧ _; refine ex_ ?_) | refine ex2_ ?_ | fail)
      · rintro j ⟨hj, hy⟩
        by_cases hlt2 : j < i
        · have g3 : get2 (rowsL a.n.toNat (tabL a a.n.toNat)) ((j : Nat) : Int).toNat 0 = some (rowD a.n.toNat (tabR a j)) := by rw [rd_rows (by omega), tabL_get (by omega)]
          (repeat' (conv => whnf) <;> first | exact True.intro | (refine if_ ?_ ?_ <;> intro h <;> first | exact h.elim | (exfalso; omega) | skip) | refine vs_ ?_ | refine dv_ ?_ | exact fin_ | (show ∃ _, _ ∧ _; refine ex_ ?_ (by first | with_reducible exact rfl | exact g2 | exact g3 | exact rd_)) | refine ex2_ ?_ (by first | with_reducible exact rfl | exact g2 | exact g3 | exact rd_) | fail)
          · conv => whnf
            exact no (fun h => absurd (h j i (by omega) hlt) ‹_›)
          · conv => whnf
            have hq : tabR a i j = tabR a j i := by assumption
            refine ⟨j + 1, ⟨by omega, all_succ hy hq⟩, by omega, ?_⟩
            (repeat' (conv => whnf) <;> first | exact True.intro | (refine if_ ?_ ?_ <;> intro h <;> first | exact h.elim | (exfalso; omega) | skip) | refine vs_ ?_ | refine dv_ ?_ | exact fin_ | (show ∃ _, _ ∧ _; refine ex_ ?_) | refine ex2_ ?_ | fail)
        · have hq : ∀ j : Nat, j < i → tabR a i j = tabR a j i := fun j' hj' => hy j' (by omega)
          (repeat' (conv => whnf) <;> first | exact True.intro | (refine if_ ?_ ?_ <;> intro h <;> first | exact h.elim | (exfalso; omega) | skip) | refine vs_ ?_ | refine dv_ ?_ | exact fin_ | (show ∃ _, _ ∧ _; refine ex_ ?_) | refine ex2_ ?_ | fail)
          conv => whnf
          refine ⟨i + 1, ⟨by omega, all_succ hx hq⟩, by omega, ?_⟩
          (repeat' (conv => whnf) <;> first | exact True.intro | (refine if_ ?_ ?_ <;> intro h <;> first | exact h.elim | (exfalso; omega) | skip) | refine vs_ ?_ | refine dv_ ?_ | exact fin_ | (show ∃ _, _ ∧ _; refine ex_ ?_) | refine ex2_ ?_ | fail)
    · (repeat' (conv => whnf) <;> first | exact True.intro | (refine if_ ?_ ?_ <;> intro h <;> first | exact h.elim | (exfalso; omega) | skip) | refine vs_ ?_ | refine dv_ ?_ | exact fin_ | (show ∃ _, _ ∧ _; refine ex_ ?_) | refine ex2_ ?_ | fail)
      conv => whnf
      refine yes (fun i' j h1 h2 => ?_)
      rcases Nat.lt_trichotomy i' j with h | h | h
      · exact hx j (by omega) i' h
      · rw [h]
      · exact (hx i' (by omega) j h).symm
theorem c_sFrobenius (hF : C_sForm P N) (hE : C_sEchelon P N) (hf : isFn P N.spec_l01Frobenius (ir_spec_l01Frobenius N) = true) : C_sFrobenius P N := by
  intro a ha
  have hn := ha.n
  have hb := ha.b
  have hp2 := prime_bd ha.p
  have hl := tabL_len a a.n.toNat
  have hE' : Can P N.spec_l01Echelon [.int .i64 a.p, rowsD a.n.toNat (tabL a a.n.toNat)] (.val (rowsD a.n.toNat (echF a.p a.n.toNat (tabL a a.n.toNat)))) := hE (by omega) (by omega) ha.p (tabL_rw ha _)
  refine can_of hf rfl rfl ?_
  (repeat' (conv => whnf) <;> first | exact True.intro | (refine if_ ?_ ?_ <;> intro h <;> first | exact h.elim | (exfalso; omega) | skip) | refine vs_ ?_ | refine dv_ ?_ | exact fin_ | (show ∃ _, _ ∧ _; refine ex_ ?_) | refine ex2_ ?_ | fail)
  conv => whnf
  refine vc_loop (α := Nat) 0 (fun i => a.n.toNat - i) (fun i => i ≤ a.n.toNat) [] (fun i => [(3, .row 4 1), (4, .d (.int .i64 i))]) (fun i => [(4, .data 1 (rowsL a.n.toNat (tabL a i)))]) lp_ ?_ ?_
  · (repeat' (conv => whnf) <;> first | exact True.intro | (refine if_ ?_ ?_ <;> intro h <;> first | exact h.elim | (exfalso; omega) | skip) | refine vs_ ?_ | refine dv_ ?_ | exact fin_ | (show ∃ _, _ ∧ _; refine ex_ ?_) | refine ex2_ ?_ | fail)
  · intro i hi
    by_cases hlt : i < a.n.toNat
    · have hli := tabL_len a i
      (repeat' (conv => whnf) <;> first | exact True.intro | (refine if_ ?_ ?_ <;> intro h <;> first | exact h.elim | (exfalso; omega) | skip) | refine vs_ ?_ | refine dv_ ?_ | exact fin_ | (show ∃ _, _ ∧ _; refine ex_ ?_) | refine ex2_ ?_ | fail)
      conv => whnf
      refine vc_loop (α := Nat) 0 (fun j => a.n.toNat - j) (fun j => j ≤ a.n.toNat) [] (fun j => [(3, .row 4 1), (4, .d (.int .i64 i)), (5, .row 6 1), (6, .d (.int .i64 j))]) (fun j => [(4, .data 1 (rowsL a.n.toNat (tabL a i))), (6, .data 1 (row j (tabR a i)))]) lp_ ?_ ?_
      · (repeat' (conv => whnf) <;> first | exact True.intro | (refine if_ ?_ ?_ <;> intro h <;> first | exact h.elim | (exfalso; omega) | skip) | refine vs_ ?_ | refine dv_ ?_ | exact fin_ | (show ∃ _, _ ∧ _; refine ex_ ?_) | refine ex2_ ?_ | fail)
      · intro j hj
        by_cases hlt2 : j < a.n.toNat
        · (repeat' (conv => whnf) <;> first | exact True.intro | (refine if_ ?_ ?_ <;> intro h <;> first | exact h.elim | (exfalso; omega) | skip) | refine vs_ ?_ | refine dv_ ?_ | exact fin_ | (show ∃ _, _ ∧ _; refine ex_ ?_ (by first | with_reducible exact rfl | exact hF hb (hb.1 i j) (by omega) | exact rd_)) | refine ex2_ ?_ (by first | with_reducible exact rfl | exact hF hb (hb.1 i j) (by omega) | exact rd_) | fail)
          conv => whnf
          refine ⟨j + 1, by omega, by omega, ?_⟩
          (repeat' (conv => whnf) <;> first | exact True.intro | (refine if_ ?_ ?_ <;> intro h <;> first | exact h.elim | (exfalso; omega) | skip) | refine vs_ ?_ | refine dv_ ?_ | exact fin_ | (show ∃ _, _ ∧ _; refine ex_ ?_) | refine ex2_ ?_ | fail)
        · have : j = a.n.toNat := by omega
          have e : tabL a (i + 1) = tabL a i ++ [tabR a i] := arr_succ ..
          rw [this]
          (repeat' (conv => whnf) <;> first | exact True.intro | (refine if_ ?_ ?_ <;> intro h <;> first | exact h.elim | (exfalso; omega) | skip) | refine vs_ ?_ | refine dv_ ?_ | exact fin_ | (show ∃ _, _ ∧ _; refine ex_ ?_) | refine ex2_ ?_ | fail)
          conv => whnf
          refine ⟨i + 1, by omega, by omega, ?_⟩
          (repeat' (conv => whnf) <;> first | exact True.intro | (refine if_ ?_ ?_ <;> intro h <;> first | exact h.elim | (exfalso; omega) | skip) | refine vs_ ?_ (by first | exact rowsL_app.trans (congrArg (fun x => Chunk.data 1 (rowsL a.n.toNat x)) e.symm) | exact sd_) | refine dv_ ?_ | exact fin_ | (show ∃ _, _ ∧ _; refine ex_ ?_) | refine ex2_ ?_ | fail)
    · have : i = a.n.toNat := by omega
      rw [this]
      (repeat' (conv => whnf) <;> first | exact True.intro | (refine if_ ?_ ?_ <;> intro h <;> first | exact h.elim | (exfalso; omega) | skip) | refine vs_ ?_ | refine dv_ ?_ | exact fin_ | (show ∃ _, _ ∧ _; refine ex_ ?_ (by first | with_reducible exact rfl | exact hE' | exact rd_)) | refine ex2_ ?_ (by first | with_reducible exact rfl | exact hE' | exact rd_) | fail)
      (conv => whnf) <;> refine congrArg D.bool ?_ <;> (rw [Bool.eq_iff_iff]; simp only [Bool.not_true, Bool.not_false, Cm.int, decide_eq_true_eq, beq_iff_eq, bne_iff_ne, ne_eq, reduceCtorEq, true_iff, iff_true, false_iff, iff_false, Bool.false_eq_true, Bool.true_eq_false, rowsL_len] <;> omega)
theorem c_sTableN (hB : C_sBasis P N) (hT : C_sTimes P N) (hF : C_sForm P N) (hf : isFn P N.spec_l02Table (ir_spec_l02Table N) = true) : C_sTableN P N := by
  intro a ha
  have hn := ha.n
  have hb := ha.b
  have hp2 := prime_bd ha.p
  have bb : ∀ i, Byts (basV i) := fun i j => by unfold basV; split <;> omega
  have hT' : ∀ i j : Nat, i < a.n.toNat → j < a.n.toNat → Can P N.spec_l01Times [algD a, vecD (basV i), vecD (basV j)] (.val (vecD (a.T i j))) := fun i j hi hj => by
    have := hT hb (bb i) (bb j) (by omega) (by omega)
    rwa [show timesV a (basV i) (basV j) = a.T i j from funext (bas_times ha (by omega) (by omega))] at this
  refine can_of hf rfl rfl ?_
  (repeat' (conv => whnf) <;> first | exact True.intro | (refine if_ ?_ ?_ <;> intro h <;> first | exact h.elim | (exfalso; omega) | skip) | refine vs_ ?_ | refine dv_ ?_ | exact fin_ | (show ∃ _, _ ∧ _; refine ex_ ?_) | refine ex2_ ?_ | fail)
  conv => whnf
  refine vc_loop (α := Nat) 0 (fun i => a.n.toNat - i) (fun i => i ≤ a.n.toNat) [] (fun i => [(3, .row 4 1), (4, .d (.int .i64 i))]) (fun i => [(4, nestC (fun i => row a.n.toNat (tabR a i)) i)]) lp_ ?_ ?_
  · (repeat' (conv => whnf) <;> first | exact True.intro | (refine if_ ?_ ?_ <;> intro h <;> first | exact h.elim | (exfalso; omega) | skip) | refine vs_ ?_ | refine dv_ ?_ | exact fin_ | (show ∃ _, _ ∧ _; refine ex_ ?_) | refine ex2_ ?_ | fail)
  · rintro (_ | i) hi
    · (repeat' (conv => whnf) <;> first | exact True.intro | (refine if_ ?_ ?_ <;> intro h <;> first | exact h.elim | (exfalso; omega) | skip) | refine vs_ ?_ | refine dv_ ?_ | exact fin_ | (show ∃ _, _ ∧ _; refine ex_ ?_) | refine ex2_ ?_ | fail)
      conv => whnf
      refine vc_loop (α := Nat) 0 (fun j => a.n.toNat - j) (fun j => j ≤ a.n.toNat) [] (fun j => [(3, .row 4 1), (4, .d (.int .i64 (0 : Nat))), (5, .row 6 1), (6, .d (.int .i64 j))]) (fun j => [(4, .data 1 []), (6, .data 1 (row j (tabR a 0)))]) lp_ ?_ ?_
      · (repeat' (conv => whnf) <;> first | exact True.intro | (refine if_ ?_ ?_ <;> intro h <;> first | exact h.elim | (exfalso; omega) | skip) | refine vs_ ?_ | refine dv_ ?_ | exact fin_ | (show ∃ _, _ ∧ _; refine ex_ ?_) | refine ex2_ ?_ | fail)
      · intro j hj
        by_cases hlt2 : j < a.n.toNat
        · (repeat' (conv => whnf) <;> first | exact True.intro | (refine if_ ?_ ?_ <;> intro h <;> first | exact h.elim | (exfalso; omega) | skip) | refine vs_ ?_ | refine dv_ ?_ | exact fin_ | (show ∃ _, _ ∧ _; refine ex_ ?_ (by first | with_reducible exact rfl | exact hB (i := 0) (by omega) | exact hB (by omega) | exact hT' 0 j (by omega) hlt2 | exact hF hb (hb.1 0 j) (by omega) | exact rd_)) | refine ex2_ ?_ (by first | with_reducible exact rfl | exact hB (i := 0) (by omega) | exact hB (by omega) | exact hT' 0 j (by omega) hlt2 | exact hF hb (hb.1 0 j) (by omega) | exact rd_) | fail)
          conv => whnf
          refine ⟨j + 1, by omega, by omega, ?_⟩
          (repeat' (conv => whnf) <;> first | exact True.intro | (refine if_ ?_ ?_ <;> intro h <;> first | exact h.elim | (exfalso; omega) | skip) | refine vs_ ?_ | refine dv_ ?_ | exact fin_ | (show ∃ _, _ ∧ _; refine ex_ ?_) | refine ex2_ ?_ | fail)
        · have : j = a.n.toNat := by omega
          (repeat' (conv => whnf) <;> first | exact True.intro | (refine if_ ?_ ?_ <;> intro h <;> first | exact h.elim | (exfalso; omega) | skip) | refine vs_ ?_ | refine dv_ ?_ | exact fin_ | (show ∃ _, _ ∧ _; refine ex_ ?_) | refine ex2_ ?_ | fail)
          conv => whnf
          refine ⟨1, by omega, by omega, ?_⟩
          (repeat' (conv => whnf) <;> first | exact True.intro | (refine if_ ?_ ?_ <;> intro h <;> first | exact h.elim | (exfalso; omega) | skip) | refine vs_ ?_ (by first | exact nest_put0 (by rw [this]) | exact sd_) | refine dv_ ?_ | exact fin_ | (show ∃ _, _ ∧ _; refine ex_ ?_) | refine ex2_ ?_ | fail)
    · by_cases hlt : i + 1 < a.n.toNat
      · (repeat' (conv => whnf) <;> first | exact True.intro | (refine if_ ?_ ?_ <;> intro h <;> first | exact h.elim | (exfalso; omega) | skip) | refine vs_ ?_ | refine dv_ ?_ | exact fin_ | (show ∃ _, _ ∧ _; refine ex_ ?_) | refine ex2_ ?_ | fail)
        conv => whnf
        refine vc_loop (α := Nat) 0 (fun j => a.n.toNat - j) (fun j => j ≤ a.n.toNat) [] (fun j => [(3, .row 4 1), (4, .d (.int .i64 (i + 1 : Nat))), (5, .row 6 1), (6, .d (.int .i64 j))]) (fun j => [(4, .nest 1 (arr (i + 1) fun i => row a.n.toNat (tabR a i)) none), (6, .data 1 (row j (tabR a (i + 1))))]) lp_ ?_ ?_
        · (repeat' (conv => whnf) <;> first | exact True.intro | (refine if_ ?_ ?_ <;> intro h <;> first | exact h.elim | (exfalso; omega) | skip) | refine vs_ ?_ | refine dv_ ?_ | exact fin_ | (show ∃ _, _ ∧ _; refine ex_ ?_) | refine ex2_ ?_ | fail)
        · intro j hj
          by_cases hlt2 : j < a.n.toNat
          · (repeat' (conv => whnf) <;> first | exact True.intro | (refine if_ ?_ ?_ <;> intro h <;> first | exact h.elim | (exfalso; omega) | skip) | refine vs_ ?_ | refine dv_ ?_ | exact fin_ | (show ∃ _, _ ∧ _; refine ex_ ?_ (by first | with_reducible exact rfl | exact hB (i := i + 1) (by omega) | exact hB (by omega) | exact hT' (i + 1) j (by omega) hlt2 | exact hF hb (hb.1 (i + 1) j) (by omega) | exact rd_)) | refine ex2_ ?_ (by first | with_reducible exact rfl | exact hB (i := i + 1) (by omega) | exact hB (by omega) | exact hT' (i + 1) j (by omega) hlt2 | exact hF hb (hb.1 (i + 1) j) (by omega) | exact rd_) | fail)
            conv => whnf
            refine ⟨j + 1, by omega, by omega, ?_⟩
            (repeat' (conv => whnf) <;> first | exact True.intro | (refine if_ ?_ ?_ <;> intro h <;> first | exact h.elim | (exfalso; omega) | skip) | refine vs_ ?_ | refine dv_ ?_ | exact fin_ | (show ∃ _, _ ∧ _; refine ex_ ?_) | refine ex2_ ?_ | fail)
          · have : j = a.n.toNat := by omega
            (repeat' (conv => whnf) <;> first | exact True.intro | (refine if_ ?_ ?_ <;> intro h <;> first | exact h.elim | (exfalso; omega) | skip) | refine vs_ ?_ | refine dv_ ?_ | exact fin_ | (show ∃ _, _ ∧ _; refine ex_ ?_) | refine ex2_ ?_ | fail)
            conv => whnf
            refine ⟨i + 2, by omega, by omega, ?_⟩
            (repeat' (conv => whnf) <;> first | exact True.intro | (refine if_ ?_ ?_ <;> intro h <;> first | exact h.elim | (exfalso; omega) | skip) | refine vs_ ?_ (by first | exact nest_put (by rw [this]) | exact sd_) | refine dv_ ?_ | exact fin_ | (show ∃ _, _ ∧ _; refine ex_ ?_) | refine ex2_ ?_ | fail)
      · have : a.n.toNat = i + 1 := by omega
        (repeat' (conv => whnf) <;> first | exact True.intro | (refine if_ ?_ ?_ <;> intro h <;> first | exact h.elim | (exfalso; omega) | skip) | refine vs_ ?_ | refine dv_ ?_ | exact fin_ | (show ∃ _, _ ∧ _; refine ex_ ?_) | refine ex2_ ?_ | fail)
        conv => whnf
        exact nest_end this
theorem c_sTable (hB : C_sBasis P N) (hT : C_sTimes P N) (hF : C_sForm P N) (hf : isFn P N.spec_l02Table (ir_spec_l02Table N) = true) : C_sTable P N := by
  intro a ha
  have hn := ha.n
  have hb := ha.b
  have hp2 := prime_bd ha.p
  have bb : ∀ i, Byts (basV i) := fun i j => by unfold basV; split <;> omega
  have hT' : ∀ i j : Nat, i < a.n.toNat → j < a.n.toNat → Can P N.spec_l01Times [algD a, vecD (basV i), vecD (basV j)] (.val (vecD (a.T i j))) := fun i j hi hj => by
    have := hT hb (bb i) (bb j) (by omega) (by omega)
    rwa [show timesV a (basV i) (basV j) = a.T i j from funext (bas_times ha (by omega) (by omega))] at this
  refine can_of hf rfl rfl ?_
  (repeat' (conv => whnf) <;> first | exact True.intro | (refine if_ ?_ ?_ <;> intro h <;> first | exact h.elim | (exfalso; omega) | skip) | refine vs_ ?_ | refine dv_ ?_ | exact fin_ | (show ∃ _, _ ∧ _; refine ex_ ?_) | refine ex2_ ?_ | fail)
  conv => whnf
  refine vc_loop (α := Nat) 0 (fun i => a.n.toNat - i) (fun i => i ≤ a.n.toNat) [] (fun i => [(3, .row 4 1), (4, .d (.int .i64 i))]) (fun i => [(4, nestC (fun i => row a.n.toNat (tabR a i)) i)]) lp_ ?_ ?_
  · (repeat' (conv => whnf) <;> first | exact True.intro | (refine if_ ?_ ?_ <;> intro h <;> first | exact h.elim | (exfalso; omega) | skip) | refine vs_ ?_ | refine dv_ ?_ | exact fin_ | (show ∃ _, _ ∧ _; refine ex_ ?_) | refine ex2_ ?_ | fail)
  · rintro (_ | i) hi
    · (repeat' (conv => whnf) <;> first | exact True.intro | (refine if_ ?_ ?_ <;> intro h <;> first | exact h.elim | (exfalso; omega) | skip) | refine vs_ ?_ | refine dv_ ?_ | exact fin_ | (show ∃ _, _ ∧ _; refine ex_ ?_) | refine ex2_ ?_ | fail)
      conv => whnf
      refine vc_loop (α := Nat) 0 (fun j => a.n.toNat - j) (fun j => j ≤ a.n.toNat) [] (fun j => [(3, .row 4 1), (4, .d (.int .i64 (0 : Nat))), (5, .row 6 1), (6, .d (.int .i64 j))]) (fun j => [(4, .data 1 []), (6, .data 1 (row j (tabR a 0)))]) lp_ ?_ ?_
      · (repeat' (conv => whnf) <;> first | exact True.intro | (refine if_ ?_ ?_ <;> intro h <;> first | exact h.elim | (exfalso; omega) | skip) | refine vs_ ?_ | refine dv_ ?_ | exact fin_ | (show ∃ _, _ ∧ _; refine ex_ ?_) | refine ex2_ ?_ | fail)
      · intro j hj
        by_cases hlt2 : j < a.n.toNat
        · (repeat' (conv => whnf) <;> first | exact True.intro | (refine if_ ?_ ?_ <;> intro h <;> first | exact h.elim | (exfalso; omega) | skip) | refine vs_ ?_ | refine dv_ ?_ | exact fin_ | (show ∃ _, _ ∧ _; refine ex_ ?_ (by first | with_reducible exact rfl | exact hB (i := 0) (by omega) | exact hB (by omega) | exact hT' 0 j (by omega) hlt2 | exact hF hb (hb.1 0 j) (by omega) | exact rd_)) | refine ex2_ ?_ (by first | with_reducible exact rfl | exact hB (i := 0) (by omega) | exact hB (by omega) | exact hT' 0 j (by omega) hlt2 | exact hF hb (hb.1 0 j) (by omega) | exact rd_) | fail)
          conv => whnf
          refine ⟨j + 1, by omega, by omega, ?_⟩
          (repeat' (conv => whnf) <;> first | exact True.intro | (refine if_ ?_ ?_ <;> intro h <;> first | exact h.elim | (exfalso; omega) | skip) | refine vs_ ?_ | refine dv_ ?_ | exact fin_ | (show ∃ _, _ ∧ _; refine ex_ ?_) | refine ex2_ ?_ | fail)
        · have : j = a.n.toNat := by omega
          (repeat' (conv => whnf) <;> first | exact True.intro | (refine if_ ?_ ?_ <;> intro h <;> first | exact h.elim | (exfalso; omega) | skip) | refine vs_ ?_ | refine dv_ ?_ | exact fin_ | (show ∃ _, _ ∧ _; refine ex_ ?_) | refine ex2_ ?_ | fail)
          conv => whnf
          refine ⟨1, by omega, by omega, ?_⟩
          (repeat' (conv => whnf) <;> first | exact True.intro | (refine if_ ?_ ?_ <;> intro h <;> first | exact h.elim | (exfalso; omega) | skip) | refine vs_ ?_ (by first | exact nest_put0 (by rw [this]) | exact sd_) | refine dv_ ?_ | exact fin_ | (show ∃ _, _ ∧ _; refine ex_ ?_) | refine ex2_ ?_ | fail)
    · by_cases hlt : i + 1 < a.n.toNat
      · (repeat' (conv => whnf) <;> first | exact True.intro | (refine if_ ?_ ?_ <;> intro h <;> first | exact h.elim | (exfalso; omega) | skip) | refine vs_ ?_ | refine dv_ ?_ | exact fin_ | (show ∃ _, _ ∧ _; refine ex_ ?_) | refine ex2_ ?_ | fail)
        conv => whnf
        refine vc_loop (α := Nat) 0 (fun j => a.n.toNat - j) (fun j => j ≤ a.n.toNat) [] (fun j => [(3, .row 4 1), (4, .d (.int .i64 (i + 1 : Nat))), (5, .row 6 1), (6, .d (.int .i64 j))]) (fun j => [(4, .nest 1 (arr (i + 1) fun i => row a.n.toNat (tabR a i)) none), (6, .data 1 (row j (tabR a (i + 1))))]) lp_ ?_ ?_
        · (repeat' (conv => whnf) <;> first | exact True.intro | (refine if_ ?_ ?_ <;> intro h <;> first | exact h.elim | (exfalso; omega) | skip) | refine vs_ ?_ | refine dv_ ?_ | exact fin_ | (show ∃ _, _ ∧ _; refine ex_ ?_) | refine ex2_ ?_ | fail)
        · intro j hj
          by_cases hlt2 : j < a.n.toNat
          · (repeat' (conv => whnf) <;> first | exact True.intro | (refine if_ ?_ ?_ <;> intro h <;> first | exact h.elim | (exfalso; omega) | skip) | refine vs_ ?_ | refine dv_ ?_ | exact fin_ | (show ∃ _, _ ∧ _; refine ex_ ?_ (by first | with_reducible exact rfl | exact hB (i := i + 1) (by omega) | exact hB (by omega) | exact hT' (i + 1) j (by omega) hlt2 | exact hF hb (hb.1 (i + 1) j) (by omega) | exact rd_)) | refine ex2_ ?_ (by first | with_reducible exact rfl | exact hB (i := i + 1) (by omega) | exact hB (by omega) | exact hT' (i + 1) j (by omega) hlt2 | exact hF hb (hb.1 (i + 1) j) (by omega) | exact rd_) | fail)
            conv => whnf
            refine ⟨j + 1, by omega, by omega, ?_⟩
            (repeat' (conv => whnf) <;> first | exact True.intro | (refine if_ ?_ ?_ <;> intro h <;> first | exact h.elim | (exfalso; omega) | skip) | refine vs_ ?_ | refine dv_ ?_ | exact fin_ | (show ∃ _, _ ∧ _; refine ex_ ?_) | refine ex2_ ?_ | fail)
          · have : j = a.n.toNat := by omega
            (repeat' (conv => whnf) <;> first | exact True.intro | (refine if_ ?_ ?_ <;> intro h <;> first | exact h.elim | (exfalso; omega) | skip) | refine vs_ ?_ | refine dv_ ?_ | exact fin_ | (show ∃ _, _ ∧ _; refine ex_ ?_) | refine ex2_ ?_ | fail)
            conv => whnf
            refine ⟨i + 2, by omega, by omega, ?_⟩
            (repeat' (conv => whnf) <;> first | exact True.intro | (refine if_ ?_ ?_ <;> intro h <;> first | exact h.elim | (exfalso; omega) | skip) | refine vs_ ?_ (by first | exact nest_put (by rw [this]) | exact sd_) | refine dv_ ?_ | exact fin_ | (show ∃ _, _ ∧ _; refine ex_ ?_) | refine ex2_ ?_ | fail)
      · have : a.n.toNat = i + 1 := by omega
        (repeat' (conv => whnf) <;> first | exact True.intro | (refine if_ ?_ ?_ <;> intro h <;> first | exact h.elim | (exfalso; omega) | skip) | refine vs_ ?_ | refine dv_ ?_ | exact fin_ | (show ∃ _, _ ∧ _; refine ex_ ?_) | refine ex2_ ?_ | fail)
        conv => whnf
        exact congrArg (D.lst 1) ((nestD_rows (m := a.n.toNat) (f := tabR a)).trans (by rw [this]; rfl))
end Go.X
namespace Go.X
open Go Go.RowKit
set_option maxRecDepth 100000
set_option maxHeartbeats 8000000
set_option linter.unusedSimpArgs false
set_option linter.unusedVariables false
variable {P : Program} {N : FN}
abbrev tabC (a : Alg) : List D := arr 216 fun q => algF a (2 + q)
abbrev tab1 (a : Alg) (i : Nat) : List D := arr 36 fun q => algF a (2 + (i * 36 + q))
theorem rd_tab {l : List (List D)} {e off : Nat} {a : Alg} (h : AlgAt l e off a) : sub2 l e (off + 2) 216 = some (tabC a) :=
  sub2_of (fun q hq => by rw [← h _ (by omega)]; congr 1; omega) (by omega)
theorem rd_tab1 {a : Alg} {i : Nat} (hi : i < 6) : cut (tabC a) (((i : Nat) : Int).toNat * 36) 36 = some (tab1 a i) := by
  rw [Int.toNat_natCast]; exact arr_cut (by omega)
theorem rd_tab2 {a : Alg} {i j : Nat} (hi : i < 6) (hj : j < 6) : cut (tab1 a i) (((j : Nat) : Int).toNat * 6) 6 = some (vecL (a.T i j)) := by
  rw [Int.toNat_natCast]
  refine (arr_cut (by omega)).trans (congrArg some (arr_ext fun k hk => ?_))
  rw [← algF_T a hi hj hk]; congr 1; omega
theorem rd_stallL {m : Nat} {z l : List D} (hz : z.length = m) (hl : l.length = m) : sub2 ([z].set 0 (splice z 0 l)) 0 0 m = some l := by
  have e : splice z 0 l = l := by
    unfold splice
    rw [List.take_zero, List.nil_append, hl, List.drop_eq_nil_of_le (by omega), List.append_nil]
  rw [e]
  simp only [sub2, cut, List.set_cons_zero, List.getElem?_cons_zero, Option.bind_some, hl, Nat.zero_add, Nat.le_refl, if_true, List.drop_zero]
  rw [List.take_of_length_le (by omega)]
theorem c_tableOk (hV : C_isVector P N) (hN : C_n P N) (hf : isFn P N.impl_Algebra_tableOk (ir_impl_Algebra_tableOk N) = true) : C_tableOk P N := by
  intro sz l e off a hat hb
  have hN' : Can P N.impl_Algebra_n [.pd sz l e off] (.val (.int .i64 a.n)) := hN hat
  refine can_of hf rfl rfl ?_
  (repeat' (conv => whnf) <;> first | exact True.intro | (refine if_ ?_ ?_ <;> intro h <;> first | exact h.elim | (exfalso; omega) | skip) | refine vs_ ?_ | refine dv_ ?_ | exact fin_ | (show ∃ _, _ ∧ _; refine ex_ ?_ (by first | with_reducible exact rfl | exact rd_tab hat | exact rd_)) | refine ex2_ ?_ (by first | with_reducible exact rfl | exact rd_tab hat | exact rd_) | fail)
  conv => whnf
  refine vc_loop (α := Nat) 0 (fun i => 6 - i) (fun i => i ≤ 6 ∧ ∀ i' : Nat, i' < i → ∀ j : Nat, j < 6 → Small (a.T i' j) a.n a.p ∧ (a.n ≤ (i' : Int) ∨ a.n ≤ (j : Int) → VEq (a.T i' j) Z)) [] (fun i => [(10, .d (.agg (tabC a))), (11, .d (.int .i64 i))]) (fun i => []) lp_ ?_ ?_
  · (repeat' (conv => whnf) <;> first | exact True.intro | (refine if_ ?_ ?_ <;> intro h <;> first | exact h.elim | (exfalso; omega) | skip) | refine vs_ ?_ | refine dv_ ?_ | exact fin_ | (show ∃ _, _ ∧ _; refine ex_ ?_) | refine ex2_ ?_ | fail)
  · rintro i ⟨hi, hx⟩
    by_cases hlt : i < 6
    · (repeat' (conv => whnf) <;> first | exact True.intro | (refine if_ ?_ ?_ <;> intro h <;> first | exact h.elim | (exfalso; omega) | skip) | refine vs_ ?_ | refine dv_ ?_ | exact fin_ | (show ∃ _, _ ∧ _; refine ex_ ?_ (by first | with_reducible exact rfl | exact rd_tab1 (by omega) | exact rd_stallL rfl (arr_len ..) | exact rd_)) | refine ex2_ ?_ (by first | with_reducible exact rfl | exact rd_tab1 (by omega) | exact rd_stallL rfl (arr_len ..) | exact rd_) | fail)
      conv => whnf
      refine vc_loop (α := Nat) 0 (fun j => 6 - j) (fun j => j ≤ 6 ∧ ∀ j' : Nat, j' < j → Small (a.T i j') a.n a.p ∧ (a.n ≤ (i : Int) ∨ a.n ≤ (j' : Int) → VEq (a.T i j') Z)) [] (fun j => [(3, .d (.int .i64 i)), (10, .d (.agg (tabC a))), (11, .d (.int .i64 i)), (15, .d (.agg (tab1 a i))), (16, .d (.int .i64 j))]) (fun j => []) lp_ ?_ ?_
      · (repeat' (conv => whnf) <;> first | exact True.intro | (refine if_ ?_ ?_ <;> intro h <;> first | exact h.elim | (exfalso; omega) | skip) | refine vs_ ?_ | refine dv_ ?_ | exact fin_ | (show ∃ _, _ ∧ _; refine ex_ ?_) | refine ex2_ ?_ | fail)
      · rintro j ⟨hj, hy⟩
        (repeat' (conv => whnf) <;> first | exact True.intro | (refine if_ ?_ ?_ <;> intro h <;> first | exact h.elim | (exfalso; omega) | skip) | refine vs_ ?_ (by first | exact ⟨conf_vec _, conf_vec Z⟩ | exact sd_) | refine dv_ ?_ | exact fin_ | (show ∃ _, _ ∧ _; refine ex_ ?_ (by first | with_reducible exact rfl | exact rd_tab2 hlt (by omega) | exact hV (hb.1 i j) | exact hN' | exact eq_vec (w := Z) | exact rd_)) | refine ex2_ ?_ (by first | with_reducible exact rfl | exact rd_tab2 hlt (by omega) | exact hV (hb.1 i j) | exact hN' | exact eq_vec (w := Z) | exact rd_) | fail)
        all_goals (conv => whnf)
        all_goals first
          | exact no (fun hs => absurd (hs.1 i j hlt (by omega)).1 ‹_›)
          | exact no (fun hs => absurd ((hs.1 i j hlt (by omega)).2 (by omega)) ‹_›)
          | (have hq : Small (a.T i j) a.n a.p ∧ (a.n ≤ (i : Int) ∨ a.n ≤ (j : Int) → VEq (a.T i j) Z) := ⟨by assumption, fun h9 => by first | assumption | (exfalso; omega)⟩
             refine ⟨j + 1, ⟨by omega, all_succ hy hq⟩, by omega, ?_⟩
             (repeat' (conv => whnf) <;> first | exact True.intro | (refine if_ ?_ ?_ <;> intro h <;> first | exact h.elim | (exfalso; omega) | skip) | refine vs_ ?_ | refine dv_ ?_ | exact fin_ | (show ∃ _, _ ∧ _; refine ex_ ?_) | refine ex2_ ?_ | fail))
          | (have h7 : ∀ j' : Nat, j' < 6 → Small (a.T i j') a.n a.p ∧ (a.n ≤ (i : Int) ∨ a.n ≤ (j' : Int) → VEq (a.T i j') Z) := fun j' hj' => hy j' (by omega)
             refine ⟨i + 1, ⟨by omega, all_succ hx h7⟩, by omega, ?_⟩
             (repeat' (conv => whnf) <;> first | exact True.intro | (refine if_ ?_ ?_ <;> intro h <;> first | exact h.elim | (exfalso; omega) | skip) | refine vs_ ?_ | refine dv_ ?_ | exact fin_ | (show ∃ _, _ ∧ _; refine ex_ ?_) | refine ex2_ ?_ | fail))
    · have hall : ∀ i' j : Nat, i' < 6 → j < 6 → Small (a.T i' j) a.n a.p ∧ (a.n ≤ (i' : Int) ∨ a.n ≤ (j : Int) → VEq (a.T i' j) Z) := fun i' j h1 h2 => hx i' (by omega) j h2
      by_cases hsm : Small a.f a.n a.p
      · have hv1 : Can P N.impl_isVector [vecD a.f, .int .i64 a.n, .int .i64 a.p] (.val (.bool true)) := by have := hV (n := a.n) (p := a.p) hb.2; rwa [decide_eq_true hsm] at this
        (repeat' (conv => whnf) <;> first | exact True.intro | (refine if_ ?_ ?_ <;> intro h <;> first | exact h.elim | (exfalso; omega) | skip) | refine vs_ ?_ | refine dv_ ?_ | exact fin_ | (show ∃ _, _ ∧ _; refine ex_ ?_ (by first | with_reducible exact rfl | exact hv1 | exact rd_)) | refine ex2_ ?_ (by first | with_reducible exact rfl | exact hv1 | exact rd_) | fail)
        conv => whnf
        exact yes ⟨hall, hsm⟩
      · have hv1 : Can P N.impl_isVector [vecD a.f, .int .i64 a.n, .int .i64 a.p] (.val (.bool false)) := by have := hV (n := a.n) (p := a.p) hb.2; rwa [decide_eq_false hsm] at this
        (repeat' (conv => whnf) <;> first | exact True.intro | (refine if_ ?_ ?_ <;> intro h <;> first | exact h.elim | (exfalso; omega) | skip) | refine vs_ ?_ | refine dv_ ?_ | exact fin_ | (show ∃ _, _ ∧ _; refine ex_ ?_ (by first | with_reducible exact rfl | exact hv1 | exact rd_)) | refine ex2_ ?_ (by first | with_reducible exact rfl | exact hv1 | exact rd_) | fail)
        conv => whnf
        exact no (fun h => hsm h.2)
end Go.X
namespace Go.X
open Go Go.RowKit
set_option maxRecDepth 100000
set_option maxHeartbeats 8000000
set_option linter.unusedSimpArgs false
set_option linter.unusedVariables false
variable {P : Program} {N : FN}
def tS (a : Alg) (v w : Nat → Int) (i j : Nat) : Nat → Int := fun k => if (k : Int) < a.n then tsum a v w k i + sumN j fun j => v i * w j * a.T i j k else 0
theorem tS_bd {a : Alg} {v w : Nat → Int} (hb : AlgB a) (hv : Byts v) (hw : Byts w) (hn6 : 0 ≤ a.n ∧ a.n ≤ 6) {i j : Nat} (hi : i ≤ 6) (hj : j ≤ 6) (k : Nat) : 0 ≤ tS a v w i j k ∧ tS a v w i j k ≤ 700000000 := by
  unfold tS
  split
  · have hc : ∀ i j, 0 ≤ v i * w j * a.T i j k ∧ v i * w j * a.T i j k ≤ 255 * 255 * 255 := fun i j => mul_bd (mul_bd (hv i) (hw j)) (hb.1 i j k)
    have h1 := sumN_bd (f := fun j => v i * w j * a.T i j k) (hc i) j
    have h2 : ∀ i, 0 ≤ sumN a.n.toNat (fun j => v i * w j * a.T i j k) ∧ sumN a.n.toNat (fun j => v i * w j * a.T i j k) ≤ 100000000 := fun i => by
      have := sumN_bd (f := fun j => v i * w j * a.T i j k) (hc i) a.n.toNat
      omega
    have h3 := sumN_bd h2 i
    unfold tsum
    omega
  · omega
theorem tS_zero {a : Alg} {v w : Nat → Int} {i j : Nat} (h : v i * w j = 0) : cel .i64 6 (tS a v w i j) = cel .i64 6 (tS a v w i (j + 1)) := cel_ext fun k _ => by
  unfold tS; simp only [sumN, h, Int.zero_mul, Int.add_zero]
theorem tS_next {a : Alg} {v w : Nat → Int} {i j k : Nat} (h : (k : Int) < a.n) : tS a v w i j k + v i * w j * a.T i j k = tS a v w i (j + 1) k := by
  unfold tS; simp only [h, if_true, sumN]; omega
theorem tS_prog {a : Alg} {v w : Nat → Int} {i j k : Nat} (h : a.n ≤ (k : Int)) : cel .i64 6 (prog k (tS a v w i (j + 1)) (tS a v w i j)) = cel .i64 6 (tS a v w i (j + 1)) := cel_ext fun q _ => by
  unfold prog
  split
  · rfl
  · unfold tS; rw [if_neg (by omega), if_neg (by omega)]
theorem tS_row {a : Alg} {v w : Nat → Int} {i j : Nat} (h : a.n ≤ (j : Int)) (hj : j ≤ a.n.toNat) : cel .i64 6 (tS a v w i j) = cel .i64 6 (tS a v w (i + 1) 0) := cel_ext fun q _ => by
  have : j = a.n.toNat := by omega
  subst this
  unfold tS tsum; simp only [sumN]; split <;> omega
theorem tS_end {a : Alg} {v w : Nat → Int} {i k : Nat} (h : a.n ≤ (i : Int)) (hi : i ≤ a.n.toNat) : tS a v w i 0 k % a.p = timesV a v w k := by
  have : i = a.n.toNat := by omega
  subst this
  unfold tS timesV; simp only [sumN, Int.add_zero]
  split
  · rfl
  · simp
theorem c_times (hn : C_n P N) (hf : isFn P N.impl_Algebra_times (ir_impl_Algebra_times N) = true) : C_times P N := by
  intro sz l e off a v w ha hb hv hw hp hn6
  refine can_of hf rfl rfl ?_
  (repeat' (conv => whnf) <;> first | exact True.intro | (refine if_ ?_ ?_ <;> intro h <;> first | exact h.elim | (exfalso; omega) | skip) | refine vs_ ?_ | refine dv_ ?_ | exact fin_ | (show ∃ _, _ ∧ _; refine ex_ ?_ (by first | with_reducible exact rfl | exact hn ‹_› | exact rd_)) | refine ex2_ ?_ (by first | with_reducible exact rfl | exact hn ‹_› | exact rd_) | fail)
  conv => whnf
  refine vc_loop (α := Nat) 0 (fun i => a.n.toNat - i) (fun i => i ≤ a.n.toNat) [] (fun i => [(4, .ptr 5 6 0 0), (5, .ptr 6 6 0 0), (7, .ptr 8 6 0 0), (17, .d (.int .i64 a.n)), (18, .d (.int .i64 i))]) (fun i => [(5, .data 6 [vecL v]), (6, .data 6 [vecL w]), (8, .data 6 [cel .i64 6 (tS a v w i 0)])]) lp_ ?_ ?_
  · (repeat' (conv => whnf) <;> first | exact True.intro | (refine if_ ?_ ?_ <;> intro h <;> first | exact h.elim | (exfalso; omega) | skip) | refine vs_ ?_ (by first | exact zeros6 (fun i _ => by simp [tS, tsum, sumN]) | exact sd_) | refine dv_ ?_ | exact fin_ | (show ∃ _, _ ∧ _; refine ex_ ?_) | refine ex2_ ?_ | fail)
  · intro i hi
    (repeat' (conv => whnf) <;> first | exact True.intro | (refine if_ ?_ ?_ <;> intro h <;> first | exact h.elim | (exfalso; omega) | skip) | refine vs_ ?_ | refine dv_ ?_ | exact fin_ | (show ∃ _, _ ∧ _; refine ex_ ?_ (by first | with_reducible exact rfl | exact hn ‹_› | exact rd_)) | refine ex2_ ?_ (by first | with_reducible exact rfl | exact hn ‹_› | exact rd_) | fail)
    · conv => whnf
      refine vc_loop (α := Nat) 0 (fun j => a.n.toNat - j) (fun j => j ≤ a.n.toNat) [] (fun j => [(4, .ptr 5 6 0 0), (5, .ptr 6 6 0 0), (7, .ptr 8 6 0 0), (17, .d (.int .i64 a.n)), (18, .d (.int .i64 i)), (8, .d (.int .i64 i)), (22, .d (.int .i64 a.n)), (23, .d (.int .i64 j))]) (fun j => [(5, .data 6 [vecL v]), (6, .data 6 [vecL w]), (8, .data 6 [cel .i64 6 (tS a v w i j)])]) lp_ ?_ ?_
      · (repeat' (conv => whnf) <;> first | exact True.intro | (refine if_ ?_ ?_ <;> intro h <;> first | exact h.elim | (exfalso; omega) | skip) | refine vs_ ?_ | refine dv_ ?_ | exact fin_ | (show ∃ _, _ ∧ _; refine ex_ ?_) | refine ex2_ ?_ | fail)
      · intro j hj
        have h1 := hv i
        have h2 := hw j
        have h3 := mul_bd h1 h2
        (repeat' (conv => whnf) <;> first | exact True.intro | (refine if_ ?_ ?_ <;> intro h <;> first | exact h.elim | (exfalso; omega) | skip) | refine vs_ ?_ | refine dv_ ?_ | exact fin_ | (show ∃ _, _ ∧ _; refine ex_ ?_ (by first | with_reducible exact rfl | exact hn ‹_› | exact rd_)) | refine ex2_ ?_ (by first | with_reducible exact rfl | exact hn ‹_› | exact rd_) | fail)
        · conv => whnf
          refine ⟨j + 1, by omega, by omega, ?_⟩
          (repeat' (conv => whnf) <;> first | exact True.intro | (refine if_ ?_ ?_ <;> intro h <;> first | exact h.elim | (exfalso; omega) | skip) | refine vs_ ?_ (by first | exact congrArg (fun x => Chunk.data 6 [x]) (tS_zero ‹_›) | exact sd_) | refine dv_ ?_ | exact fin_ | (show ∃ _, _ ∧ _; refine ex_ ?_) | refine ex2_ ?_ | fail)
        · conv => whnf
          refine vc_loop (α := Nat) 0 (fun k => a.n.toNat - k) (fun k => k ≤ a.n.toNat) [] (fun k => [(4, .ptr 5 6 0 0), (5, .ptr 6 6 0 0), (7, .ptr 8 6 0 0), (17, .d (.int .i64 a.n)), (18, .d (.int .i64 i)), (8, .d (.int .i64 i)), (22, .d (.int .i64 a.n)), (23, .d (.int .i64 j)), (9, .d (.int .i64 j)), (10, .d (.int .i64 (v i * w j))), (38, .d (.int .i64 a.n)), (39, .d (.int .i64 k))]) (fun k => [(5, .data 6 [vecL v]), (6, .data 6 [vecL w]), (8, .data 6 [cel .i64 6 (prog k (tS a v w i (j + 1)) (tS a v w i j))])]) lp_ ?_ ?_
          · (repeat' (conv => whnf) <;> first | exact True.intro | (refine if_ ?_ ?_ <;> intro h <;> first | exact h.elim | (exfalso; omega) | skip) | refine vs_ ?_ (by first | exact congrArg (fun x => Chunk.data 6 [x]) cel_prog0.symm | exact sd_) | refine dv_ ?_ | exact fin_ | (show ∃ _, _ ∧ _; refine ex_ ?_) | refine ex2_ ?_ | fail)
          · intro k hk
            have h4 := tS_bd hb hv hw hn6 (i := i) (j := j) (by omega) (by omega) k
            have h5 := mul_bd h3 (hb.1 i j k)
            have h6 := hb.1 i j k
            (repeat' (conv => whnf) <;> first | exact True.intro | (refine if_ ?_ ?_ <;> intro h <;> first | exact h.elim | (exfalso; omega) | skip) | refine vs_ ?_ | refine dv_ ?_ | exact fin_ | (show ∃ _, _ ∧ _; refine ex_ ?_) | refine ex2_ ?_ | fail)
            · conv => whnf
              refine ⟨k + 1, by omega, by omega, ?_⟩
              (repeat' (conv => whnf) <;> first | exact True.intro | (refine if_ ?_ ?_ <;> intro h <;> first | exact h.elim | (exfalso; omega) | skip) | refine vs_ ?_ (by first | exact st_prog (tS_next ‹_›) | exact sd_) | refine dv_ ?_ | exact fin_ | (show ∃ _, _ ∧ _; refine ex_ ?_) | refine ex2_ ?_ | fail)
            · conv => whnf
              refine ⟨j + 1, by omega, by omega, ?_⟩
              (repeat' (conv => whnf) <;> first | exact True.intro | (refine if_ ?_ ?_ <;> intro h <;> first | exact h.elim | (exfalso; omega) | skip) | refine vs_ ?_ (by first | exact congrArg (fun x => Chunk.data 6 [x]) (tS_prog ‹_›) | exact sd_) | refine dv_ ?_ | exact fin_ | (show ∃ _, _ ∧ _; refine ex_ ?_) | refine ex2_ ?_ | fail)
        · conv => whnf
          refine ⟨i + 1, by omega, by omega, ?_⟩
          (repeat' (conv => whnf) <;> first | exact True.intro | (refine if_ ?_ ?_ <;> intro h <;> first | exact h.elim | (exfalso; omega) | skip) | refine vs_ ?_ (by first | exact congrArg (fun x => Chunk.data 6 [x]) (tS_row ‹_› hj) | exact sd_) | refine dv_ ?_ | exact fin_ | (show ∃ _, _ ∧ _; refine ex_ ?_) | refine ex2_ ?_ | fail)
    · conv => whnf
      refine vc_loop (α := Nat) 0 (fun q => 6 - q) (fun q => q ≤ 6) [] (fun q => [(12, .ptr 13 6 0 0), (64, .d (.agg (cel .i64 6 (tS a v w i 0)))), (65, .d (.int .i64 q))]) (fun q => [(13, .data 6 [vecL (prog q (timesV a v w) Z)])]) lp_ ?_ ?_
      · (repeat' (conv => whnf) <;> first | exact True.intro | (refine if_ ?_ ?_ <;> intro h <;> first | exact h.elim | (exfalso; omega) | skip) | refine vs_ ?_ (by first | exact zeros6 (fun i _ => by simp [prog, Z]) | exact sd_) | refine dv_ ?_ | exact fin_ | (show ∃ _, _ ∧ _; refine ex_ ?_) | refine ex2_ ?_ | fail)
      · intro q hq
        have h4 := tS_bd hb hv hw hn6 (i := i) (j := 0) (by omega) (by omega) q
        have h5 := mod_bd (tS a v w i 0 q) hp.1
        (repeat' (conv => whnf) <;> first | exact True.intro | (refine if_ ?_ ?_ <;> intro h <;> first | exact h.elim | (exfalso; omega) | skip) | refine vs_ ?_ | refine dv_ ?_ | exact fin_ | (show ∃ _, _ ∧ _; refine ex_ ?_) | refine ex2_ ?_ | fail)
        · conv => whnf
          refine ⟨q + 1, by omega, by omega, ?_⟩
          (repeat' (conv => whnf) <;> first | exact True.intro | (refine if_ ?_ ?_ <;> intro h <;> first | exact h.elim | (exfalso; omega) | skip) | refine vs_ ?_ (by first | exact st_prog (tS_end ‹_› hi) | exact sd_) | refine dv_ ?_ | exact fin_ | (show ∃ _, _ ∧ _; refine ex_ ?_) | refine ex2_ ?_ | fail)
end Go.X
