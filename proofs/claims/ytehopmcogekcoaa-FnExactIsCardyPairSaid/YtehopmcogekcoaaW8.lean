import Derived.Test.YtehopmcogekcoaaM3
set_option linter.all false
namespace Go.X
open Go Go.RowKit
set_option maxRecDepth 100000
set_option maxHeartbeats 8000000
set_option linter.unusedSimpArgs false
set_option linter.unusedVariables false
variable {P : Program} {N : FN}
theorem c_sSolve (hE : C_sEchelon P N) (hLd : C_sLead P N) (hf : isFn P N.spec_l01Solve (ir_spec_l01Solve N) = true) : C_sSolve P N := by
  intro n L p hn hL hp hR
  have hp2 := prime_bd hp
  have hE' := hE (m := n + 1) (by omega) hL hp hR
  obtain ⟨⟨ld, rr⟩, _⟩ := echN_rr (m := n + 1) hp hR _ (Nat.le_refl _)
  change RR p (n + 1) (echF p (n + 1) L) ld at rr
  by_cases h0 : L = []
  · have e : sSolveF p n L = none := by unfold sSolveF; rw [if_neg (fun h => h.1 h0)]
    rw [e]
    subst h0
    refine can_of hf rfl rfl ?_
    (repeat' (conv => whnf) <;> first | exact True.intro | (with_reducible show (_ → _) ∧ (_ → _); refine if_ ?_ ?_ <;> intro h <;> first | exact h.elim | (exfalso; omega) | skip) | (show _ ∧ _; refine an_ ?_) | (show ∃ _, _ ∧ _; refine ex_ ?_) | (show ∃ _ _, _ ∧ _; refine ex2_ ?_) | (show Ar.int _ _ _ _ _; refine ar_ ?_) | (show wrapK _ _ _; refine wk_ ?_) | exact fin_ | fail)
  · have hpos : 0 < L.length := List.length_pos_iff.2 h0
    by_cases h1 : (echF p (n + 1) L).length = n
    · by_cases h2 : ∀ i : Nat, i < n → leadF (n + 1) ((echF p (n + 1) L).getD i Z) = i
      · have e : sSolveF p n L = some fun i => (echF p (n + 1) L).getD i Z n := by unfold sSolveF; rw [if_pos ⟨h0, h1, h2⟩]
        rw [e]
        refine can_of hf rfl rfl ?_
        (repeat' (conv => whnf) <;> first | exact True.intro | (with_reducible show (_ → _) ∧ (_ → _); refine if_ ?_ ?_ <;> intro h <;> first | exact h.elim | (exfalso; omega) | skip) | (show _ ∧ _; refine an_ ?_) | (show ∃ _, _ ∧ _; refine ex_ ?_ (by first | with_reducible exact rfl | exact hE' | exact rd_rows (i := 0) hpos | exact rd_)) | (show ∃ _ _, _ ∧ _; refine ex2_ ?_ (by first | with_reducible exact rfl | exact hE' | exact rd_rows (i := 0) hpos | exact rd_)) | (show Ar.int _ _ _ _ _; refine ar_ ?_) | (show wrapK _ _ _; refine wk_ ?_) | exact fin_ | fail)
        conv => whnf
        refine vc_loop (α := Nat) 0 (fun i => n - i) (fun i => i ≤ n) [] (fun i => [(6, .d (.int .i64 n)), (7, .d (rowsD (n + 1) (echF p (n + 1) L))), (8, .row 9 1), (9, .d (.int .i64 i))]) (fun i => [(9, .data 1 (row i fun i => (echF p (n + 1) L).getD i Z n))]) lp_ ?_ ?_
        · (repeat' (conv => whnf) <;> first | exact True.intro | (with_reducible show (_ → _) ∧ (_ → _); refine if_ ?_ ?_ <;> intro h <;> first | exact h.elim | (exfalso; omega) | skip) | (show _ ∧ _; refine an_ ?_) | (show ∃ _, _ ∧ _; refine ex_ ?_) | (show ∃ _ _, _ ∧ _; refine ex2_ ?_) | (show Ar.int _ _ _ _ _; refine ar_ ?_) | (show wrapK _ _ _; refine wk_ ?_) | exact fin_ | fail)
        · intro i hi
          by_cases hlt : i < n
          · have hl : Can P N.spec_l01Lead [rowD (n + 1) ((echF p (n + 1) L).getD i Z)] (.val (.int .i64 i)) := by rw [← h2 i hlt]; exact hLd (by omega)
            (repeat' (conv => whnf) <;> first | exact True.intro | (with_reducible show (_ → _) ∧ (_ → _); refine if_ ?_ ?_ <;> intro h <;> first | exact h.elim | (exfalso; omega) | skip) | (show _ ∧ _; refine an_ ?_) | (show ∃ _, _ ∧ _; refine ex_ ?_ (by first | with_reducible exact rfl | exact hl | exact rd_)) | (show ∃ _ _, _ ∧ _; refine ex2_ ?_ (by first | with_reducible exact rfl | exact hl | exact rd_)) | (show Ar.int _ _ _ _ _; refine ar_ ?_) | (show wrapK _ _ _; refine wk_ ?_) | exact fin_ | fail)
            conv => whnf
            refine ⟨i + 1, by omega, by omega, ?_⟩
            (repeat' (conv => whnf) <;> first | exact True.intro | (with_reducible show (_ → _) ∧ (_ → _); refine if_ ?_ ?_ <;> intro h <;> first | exact h.elim | (exfalso; omega) | skip) | (show _ ∧ _; refine an_ ?_) | (show ∃ _, _ ∧ _; refine ex_ ?_) | (show ∃ _ _, _ ∧ _; refine ex2_ ?_) | (show Ar.int _ _ _ _ _; refine ar_ ?_) | (show wrapK _ _ _; refine wk_ ?_) | exact fin_ | fail)
          · have : i = n := by omega
            rw [this]
            (repeat' (conv => whnf) <;> first | exact True.intro | (with_reducible show (_ → _) ∧ (_ → _); refine if_ ?_ ?_ <;> intro h <;> first | exact h.elim | (exfalso; omega) | skip) | (show _ ∧ _; refine an_ ?_) | (show ∃ _, _ ∧ _; refine ex_ ?_) | (show ∃ _ _, _ ∧ _; refine ex2_ ?_) | (show Ar.int _ _ _ _ _; refine ar_ ?_) | (show wrapK _ _ _; refine wk_ ?_) | exact fin_ | fail)
      · have e : sSolveF p n L = none := by unfold sSolveF; rw [if_neg (fun h => h2 h.2.2)]
        rw [e]
        refine can_of hf rfl rfl ?_
        (repeat' (conv => whnf) <;> first | exact True.intro | (with_reducible show (_ → _) ∧ (_ → _); refine if_ ?_ ?_ <;> intro h <;> first | exact h.elim | (exfalso; omega) | skip) | (show _ ∧ _; refine an_ ?_) | (show ∃ _, _ ∧ _; refine ex_ ?_ (by first | with_reducible exact rfl | exact hE' | exact rd_rows (i := 0) hpos | exact rd_)) | (show ∃ _ _, _ ∧ _; refine ex2_ ?_ (by first | with_reducible exact rfl | exact hE' | exact rd_rows (i := 0) hpos | exact rd_)) | (show Ar.int _ _ _ _ _; refine ar_ ?_) | (show wrapK _ _ _; refine wk_ ?_) | exact fin_ | fail)
        conv => whnf
        refine vc_loop (α := Nat) 0 (fun i => n - i) (fun i => i ≤ n ∧ ∀ j, j < i → leadF (n + 1) ((echF p (n + 1) L).getD j Z) = (j : Nat)) [] (fun i => [(6, .d (.int .i64 n)), (7, .d (rowsD (n + 1) (echF p (n + 1) L))), (8, .row 9 1), (9, .d (.int .i64 i))]) (fun i => [(9, .data 1 (row i fun i => (echF p (n + 1) L).getD i Z n))]) lp_ ?_ ?_
        · (repeat' (conv => whnf) <;> first | exact True.intro | (with_reducible show (_ → _) ∧ (_ → _); refine if_ ?_ ?_ <;> intro h <;> first | exact h.elim | (exfalso; omega) | skip) | (show _ ∧ _; refine an_ ?_) | (show ∃ _, _ ∧ _; refine ex_ ?_) | (show ∃ _ _, _ ∧ _; refine ex2_ ?_) | (show Ar.int _ _ _ _ _; refine ar_ ?_) | (show wrapK _ _ _; refine wk_ ?_) | exact fin_ | fail)
        · rintro i ⟨hi, hx⟩
          have hi2 : i < n := by
            rcases Nat.lt_or_ge i n with h | h
            · exact h
            · exact absurd (fun j hj => hx j (by omega)) h2
          (repeat' (conv => whnf) <;> first | exact True.intro | (with_reducible show (_ → _) ∧ (_ → _); refine if_ ?_ ?_ <;> intro h <;> first | exact h.elim | (exfalso; omega) | skip) | (show _ ∧ _; refine an_ ?_) | (show ∃ _, _ ∧ _; refine ex_ ?_ (by first | with_reducible exact rfl | exact hLd (by omega) | exact rd_)) | (show ∃ _ _, _ ∧ _; refine ex2_ ?_ (by first | with_reducible exact rfl | exact hLd (by omega) | exact rd_)) | (show Ar.int _ _ _ _ _; refine ar_ ?_) | (show wrapK _ _ _; refine wk_ ?_) | exact fin_ | fail)
          conv => whnf
          refine ⟨i + 1, ⟨by omega, all_succ hx ‹_›⟩, by omega, ?_⟩
          (repeat' (conv => whnf) <;> first | exact True.intro | (with_reducible show (_ → _) ∧ (_ → _); refine if_ ?_ ?_ <;> intro h <;> first | exact h.elim | (exfalso; omega) | skip) | (show _ ∧ _; refine an_ ?_) | (show ∃ _, _ ∧ _; refine ex_ ?_) | (show ∃ _ _, _ ∧ _; refine ex2_ ?_) | (show Ar.int _ _ _ _ _; refine ar_ ?_) | (show wrapK _ _ _; refine wk_ ?_) | exact fin_ | fail)
    · have e : sSolveF p n L = none := by unfold sSolveF; rw [if_neg (fun h => h1 h.2.1)]
      rw [e]
      refine can_of hf rfl rfl ?_
      (repeat' (conv => whnf) <;> first | exact True.intro | (with_reducible show (_ → _) ∧ (_ → _); refine if_ ?_ ?_ <;> intro h <;> first | exact h.elim | (exfalso; omega) | skip) | (show _ ∧ _; refine an_ ?_) | (show ∃ _, _ ∧ _; refine ex_ ?_ (by first | with_reducible exact rfl | exact hE' | exact rd_rows (i := 0) hpos | exact rd_)) | (show ∃ _ _, _ ∧ _; refine ex2_ ?_ (by first | with_reducible exact rfl | exact hE' | exact rd_rows (i := 0) hpos | exact rd_)) | (show Ar.int _ _ _ _ _; refine ar_ ?_) | (show wrapK _ _ _; refine wk_ ?_) | exact fin_ | fail)
theorem c_sCommutative (hf : isFn P N.spec_l01Commutative (ir_spec_l01Commutative N) = true) : C_sCommutative P N := by
  intro a
  refine can_of hf rfl rfl ?_
  (repeat' (conv => whnf) <;> first | exact True.intro | (with_reducible show (_ → _) ∧ (_ → _); refine if_ ?_ ?_ <;> intro h <;> first | exact h.elim | (exfalso; omega) | skip) | (show _ ∧ _; refine an_ ?_) | (show ∃ _, _ ∧ _; refine ex_ ?_) | (show ∃ _ _, _ ∧ _; refine ex2_ ?_) | (show Ar.int _ _ _ _ _; refine ar_ ?_) | (show wrapK _ _ _; refine wk_ ?_) | exact fin_ | fail)
  conv => whnf
  refine vc_loop (α := Nat) 0 (fun i => 6 - i) (fun i => i ≤ 6 ∧ ∀ i', i' < i → ∀ j, j < i' → VEq (a.T i' j) (a.T j i')) [] (fun i => [(3, .d (.int .i64 i))]) (fun i => []) lp_ ?_ ?_
  · (repeat' (conv => whnf) <;> first | exact True.intro | (with_reducible show (_ → _) ∧ (_ → _); refine if_ ?_ ?_ <;> intro h <;> first | exact h.elim | (exfalso; omega) | skip) | (show _ ∧ _; refine an_ ?_) | (show ∃ _, _ ∧ _; refine ex_ ?_) | (show ∃ _ _, _ ∧ _; refine ex2_ ?_) | (show Ar.int _ _ _ _ _; refine ar_ ?_) | (show wrapK _ _ _; refine wk_ ?_) | exact fin_ | fail)
  · rintro i ⟨hi, hx⟩
    (repeat' (conv => whnf) <;> first | exact True.intro | (with_reducible show (_ → _) ∧ (_ → _); refine if_ ?_ ?_ <;> intro h <;> first | exact h.elim | (exfalso; omega) | skip) | (show _ ∧ _; refine an_ ?_) | (show ∃ _, _ ∧ _; refine ex_ ?_) | (show ∃ _ _, _ ∧ _; refine ex2_ ?_) | (show Ar.int _ _ _ _ _; refine ar_ ?_) | (show wrapK _ _ _; refine wk_ ?_) | exact fin_ | fail)
    · conv => whnf
      refine vc_loop (α := Nat) 0 (fun j => i - j) (fun j => j ≤ i ∧ ∀ j', j' < j → VEq (a.T i j') (a.T j' i)) [] (fun j => [(3, .d (.int .i64 i)), (4, .d (.int .i64 j))]) (fun j => []) lp_ ?_ ?_
      · (repeat' (conv => whnf) <;> first | exact True.intro | (with_reducible show (_ → _) ∧ (_ → _); refine if_ ?_ ?_ <;> intro h <;> first | exact h.elim | (exfalso; omega) | skip) | (show _ ∧ _; refine an_ ?_) | (show ∃ _, _ ∧ _; refine ex_ ?_) | (show ∃ _ _, _ ∧ _; refine ex2_ ?_) | (show Ar.int _ _ _ _ _; refine ar_ ?_) | (show wrapK _ _ _; refine wk_ ?_) | exact fin_ | fail)
      · rintro j ⟨hj, hy⟩
        (repeat' (conv => whnf) <;> first | exact True.intro | (with_reducible show (_ → _) ∧ (_ → _); refine if_ ?_ ?_ <;> intro h <;> first | exact h.elim | (exfalso; omega) | skip) | (show _ ∧ _; refine an_ ?_ (by first | exact ⟨conf_vec _, conf_vec _⟩ | exact sd_)) | (show ∃ _, _ ∧ _; refine ex_ ?_ (by first | with_reducible exact rfl | exact eq_vec | exact rd_)) | (show ∃ _ _, _ ∧ _; refine ex2_ ?_ (by first | with_reducible exact rfl | exact eq_vec | exact rd_)) | (show Ar.int _ _ _ _ _; refine ar_ ?_) | (show wrapK _ _ _; refine wk_ ?_) | exact fin_ | fail)
        · conv => whnf
          refine congrArg D.bool (decide_eq_false fun h => ?_).symm
          exact absurd (h i (by omega) j (by omega)) ‹_›
        · conv => whnf
          refine ⟨j + 1, ⟨by omega, all_succ hy ‹_›⟩, by omega, ?_⟩
          (repeat' (conv => whnf) <;> first | exact True.intro | (with_reducible show (_ → _) ∧ (_ → _); refine if_ ?_ ?_ <;> intro h <;> first | exact h.elim | (exfalso; omega) | skip) | (show _ ∧ _; refine an_ ?_) | (show ∃ _, _ ∧ _; refine ex_ ?_) | (show ∃ _ _, _ ∧ _; refine ex2_ ?_) | (show Ar.int _ _ _ _ _; refine ar_ ?_) | (show wrapK _ _ _; refine wk_ ?_) | exact fin_ | fail)
        · conv => whnf
          have : j = i := by omega
          subst this
          refine ⟨j + 1, ⟨by omega, all_succ hx hy⟩, by omega, ?_⟩
          (repeat' (conv => whnf) <;> first | exact True.intro | (with_reducible show (_ → _) ∧ (_ → _); refine if_ ?_ ?_ <;> intro h <;> first | exact h.elim | (exfalso; omega) | skip) | (show _ ∧ _; refine an_ ?_) | (show ∃ _, _ ∧ _; refine ex_ ?_) | (show ∃ _ _, _ ∧ _; refine ex2_ ?_) | (show Ar.int _ _ _ _ _; refine ar_ ?_) | (show wrapK _ _ _; refine wk_ ?_) | exact fin_ | fail)
    · conv => whnf
      exact congrArg D.bool (decide_eq_true fun i' hi' j hj => hx i' (by omega) j hj).symm
end Go.X
