import Derived.Test.YtehopmcogekcoaaM3
set_option linter.all false
namespace Go.X
open Go Go.RowKit
set_option maxRecDepth 100000
set_option maxHeartbeats 8000000
set_option linter.unusedSimpArgs false
set_option linter.unusedVariables false
variable {P : Program} {N : FN}
theorem del_rows (h : C_Delete P N) {m : Nat} {L : List Row} {k : Nat} (hk : k < L.length) (hL : L.length ≤ 1000000) :
    Can P N.slices_Delete_LLint64_Lint64 [.ownA 1 (rowsL m L), .int .i64 k, .int .i64 (k + 1)] (.post none (.own 1 (rowsL m (L.take k ++ L.drop (k + 1))))) := by
  have := h (l := rowsL m L) (i := k) (j := k + 1) ⟨by omega, by rw [rowsL_len]; omega, by rw [rowsL_len]; exact hL⟩
  rw [show rowsL m (L.take k ++ L.drop (k + 1)) = (rowsL m L).take k ++ (rowsL m L).drop (k + 1) by simp [rowsL, List.map_take, List.map_drop]]
  exact this
theorem rows_done {m z i : Nat} {g : Row → Row} {L M : List Row} (h : (L.length : Int) ≤ (i : Int)) (hM : M = L.map g) : Chunk.data z (rowsL m (mapN i g L)) = .data z (rowsL m M) := by
  rw [mapN_all (by omega), hM]
theorem c_reduce (hC : C_Clone P N) (hD : C_Delete P N) (hI : C_IdxRows P N) (h1 : C_reduce1 P N) (hv : C_inverse P N) (hs : C_scaled P N) (hl : C_lessTimes P N) (hf : isFn P N.impl_reduce (ir_impl_reduce N) = true) : C_reduce P N := by
  intro m L p hm hL hp hR
  have hp2 := prime_bd hp
  have inv := redN_inv (p := p) (rows := L) (by omega) hR
  refine can_of hf rfl rfl ?_
  (repeat' (conv => whnf) <;> first | exact True.intro | (with_reducible show (_ → _) ∧ (_ → _); refine if_ ?_ ?_ <;> intro h <;> first | exact h.elim | (exfalso; omega) | skip) | (show _ ∧ _; refine an_ ?_) | (show ∃ _, _ ∧ _; refine ex_ ?_ (by first | with_reducible exact rfl | exact hC ⟨by rw [rowsL_len]; omega, by rw [rowsL_len]; omega⟩ | exact rd_rows (i := 0) (by omega) | exact rd_)) | (show ∃ _ _, _ ∧ _; refine ex2_ ?_ (by first | with_reducible exact rfl | exact hC ⟨by rw [rowsL_len]; omega, by rw [rowsL_len]; omega⟩ | exact rd_rows (i := 0) (by omega) | exact rd_)) | (show Ar.int _ _ _ _ _; refine ar_ ?_) | (show wrapK _ _ _; refine wk_ ?_) | exact fin_ | fail)
  · conv => whnf
    have : L = [] := List.eq_nil_of_length_eq_zero (by omega)
    subst this
    unfold redF; rw [redN_nil]; rfl
  · conv => whnf
    refine vc_loop (α := Nat) 0 (fun c => m - c) (fun c => c ≤ m) [] (fun c => [(5, .row 6 1), (6, .row 7 1), (24, .d (.int .i64 m)), (25, .d (.int .i64 c))]) (fun c => [(6, .data 1 (rowsL m (redN p L c).2)), (7, .data 1 (rowsL m (redN p L c).1))]) lp_ ?_ ?_
    · (repeat' (conv => whnf) <;> first | exact True.intro | (with_reducible show (_ → _) ∧ (_ → _); refine if_ ?_ ?_ <;> intro h <;> first | exact h.elim | (exfalso; omega) | skip) | (show _ ∧ _; refine an_ ?_) | (show ∃ _, _ ∧ _; refine ex_ ?_) | (show ∃ _ _, _ ∧ _; refine ex2_ ?_) | (show Ar.int _ _ _ _ _; refine ar_ ?_) | (show wrapK _ _ _; refine wk_ ?_) | exact fin_ | fail)
    · intro c hc
      obtain ⟨i1, i2, i3⟩ := inv c
      generalize hst : redN p L c = st at *
      obtain ⟨left, out⟩ := st
      dsimp only at *
      rcases idxF_cases (fun i => left.getD i Z c != 0) left.length with ⟨ek, hn⟩ | ⟨k, hk, ek, hq, hn⟩
      · (repeat' (conv => whnf) <;> first | exact True.intro | (with_reducible show (_ → _) ∧ (_ → _); refine if_ ?_ ?_ <;> intro h <;> first | exact h.elim | (exfalso; omega) | skip) | (show _ ∧ _; refine an_ ?_) | (show ∃ _, _ ∧ _; refine ex_ ?_ (by first | with_reducible exact rfl | exact (ek ▸ hI (q := fun i => left.getD i Z c != 0) (by omega) (fun i _ => h1 (by omega))) | exact rd_)) | (show ∃ _ _, _ ∧ _; refine ex2_ ?_ (by first | with_reducible exact rfl | exact (ek ▸ hI (q := fun i => left.getD i Z c != 0) (by omega) (fun i _ => h1 (by omega))) | exact rd_)) | (show Ar.int _ _ _ _ _; refine ar_ ?_) | (show wrapK _ _ _; refine wk_ ?_) | exact fin_ | fail)
        · conv => whnf
          refine ⟨c + 1, by omega, by omega, ?_⟩
          have e0 : redN p L (c + 1) = (left, out) := by
            rw [redN, hst]; exact redStep_none fun i hi => by simpa using hn i hi
          (repeat' (conv => whnf) <;> first | exact True.intro | (with_reducible show (_ → _) ∧ (_ → _); refine if_ ?_ ?_ <;> intro h <;> first | exact h.elim | (exfalso; omega) | skip) | (show _ ∧ _; refine an_ ?_ (by first | exact congrArg (fun s => Chunk.data 1 (rowsL m (Prod.fst s))) e0.symm | exact congrArg (fun s => Chunk.data 1 (rowsL m (Prod.snd s))) e0.symm | exact sd_)) | (show ∃ _, _ ∧ _; refine ex_ ?_) | (show ∃ _ _, _ ∧ _; refine ex2_ ?_) | (show Ar.int _ _ _ _ _; refine ar_ ?_) | (show wrapK _ _ _; refine wk_ ?_) | exact fin_ | fail)
        · conv => whnf
          have : c = m := by omega
          subst this
          unfold redF; rw [hst]
      · have e1 : left.getD k Z c ≠ 0 := by simpa using hq
        have e2 := i1.get (by omega) k
        have e3 := e2 c
        have e4 := inv_mul hp ⟨by omega, e3.2⟩
        have e0 : redN p L (c + 1) = redStep p c (left, out) := by rw [redN, hst]
        rw [redStep_some (s := (left, out)) hk e1 fun i hi => by simpa using hn i hi] at e0
        dsimp only at e0
        generalize hpiv : scaleR p (invF p (left.getD k Z c)) (left.getD k Z) = piv at *
        have rp : Rw p piv := hpiv ▸ scaleR_rw (by omega)
        (repeat' (conv => whnf) <;> first | exact True.intro | (with_reducible show (_ → _) ∧ (_ → _); refine if_ ?_ ?_ <;> intro h <;> first | exact h.elim | (exfalso; omega) | skip) | (show _ ∧ _; refine an_ ?_) | (show ∃ _, _ ∧ _; refine ex_ ?_ (by first | with_reducible exact rfl | exact (ek ▸ hI (q := fun i => left.getD i Z c != 0) (by omega) (fun i _ => h1 (by omega))) | exact hv hp ⟨by omega, e3.2⟩ | exact hpiv ▸ hs (by omega) (e2.bd (by omega)) (by omega) (by omega) | exact del_rows hD hk (by omega) | exact rd_)) | (show ∃ _ _, _ ∧ _; refine ex2_ ?_ (by first | with_reducible exact rfl | exact (ek ▸ hI (q := fun i => left.getD i Z c != 0) (by omega) (fun i _ => h1 (by omega))) | exact hv hp ⟨by omega, e3.2⟩ | exact hpiv ▸ hs (by omega) (e2.bd (by omega)) (by omega) (by omega) | exact del_rows hD hk (by omega) | exact rd_)) | (show Ar.int _ _ _ _ _; refine ar_ ?_) | (show wrapK _ _ _; refine wk_ ?_) | exact fin_ | fail)
        · conv => whnf
          have hl2 : (left.take k ++ left.drop (k + 1)).length + 1 = left.length := by simp; omega
          have i4 : RwL p (left.take k ++ left.drop (k + 1)) := fun r hr => by
            rcases List.mem_append.1 hr with h | h
            · exact i1 r (List.mem_of_mem_take h)
            · exact i1 r (List.mem_of_mem_drop h)
          generalize left.take k ++ left.drop (k + 1) = lf at *
          refine vc_loop (α := Nat) 0 (fun i => lf.length - i) (fun i => i ≤ lf.length) [] (fun i => [(5, .row 6 1), (6, .row 7 1), (7, .ptr 8 1 0 0), (9, .d (rowD m piv)), (24, .d (.int .i64 m)), (25, .d (.int .i64 c)), (53, .row 7 1), (54, .d (.int .i64 lf.length)), (55, .d (.int .i64 i))]) (fun i => [(6, .data 1 (rowsL m out)), (7, .data 1 (rowsL m (mapN i (elimR p c piv) lf))), (8, .data 1 [[.int .i64 c]])]) lp_ ?_ ?_
          · (repeat' (conv => whnf) <;> first | exact True.intro | (with_reducible show (_ → _) ∧ (_ → _); refine if_ ?_ ?_ <;> intro h <;> first | exact h.elim | (exfalso; omega) | skip) | (show _ ∧ _; refine an_ ?_ (by first | exact congrArg (fun x => Chunk.data 1 (rowsL m x)) (mapN_zero _ _).symm | exact sd_)) | (show ∃ _, _ ∧ _; refine ex_ ?_) | (show ∃ _ _, _ ∧ _; refine ex2_ ?_) | (show Ar.int _ _ _ _ _; refine ar_ ?_) | (show wrapK _ _ _; refine wk_ ?_) | exact fin_ | fail)
          · intro i hi
            have e5 := i4.get (by omega) i
            have e6 := e5 c
            (repeat' (conv => whnf) <;> first | exact True.intro | (with_reducible show (_ → _) ∧ (_ → _); refine if_ ?_ ?_ <;> intro h <;> first | exact h.elim | (exfalso; omega) | skip) | (show _ ∧ _; refine an_ ?_) | (show ∃ _, _ ∧ _; refine ex_ ?_ (by first | with_reducible exact rfl | exact hl (by omega) (e5.bd (by omega)) (rp.bd (by omega)) (by omega) (by omega) | exact rd_)) | (show ∃ _ _, _ ∧ _; refine ex2_ ?_ (by first | with_reducible exact rfl | exact hl (by omega) (e5.bd (by omega)) (rp.bd (by omega)) (by omega) (by omega) | exact rd_)) | (show Ar.int _ _ _ _ _; refine ar_ ?_) | (show wrapK _ _ _; refine wk_ ?_) | exact fin_ | fail)
            · conv => whnf
              refine ⟨i + 1, by omega, by omega, ?_⟩
              (repeat' (conv => whnf) <;> first | exact True.intro | (with_reducible show (_ → _) ∧ (_ → _); refine if_ ?_ ?_ <;> intro h <;> first | exact h.elim | (exfalso; omega) | skip) | (show _ ∧ _; refine an_ ?_ (by first | exact rowsL_set (g := elimR p c piv) (by omega) rfl rfl | exact sd_)) | (show ∃ _, _ ∧ _; refine ex_ ?_) | (show ∃ _ _, _ ∧ _; refine ex2_ ?_) | (show Ar.int _ _ _ _ _; refine ar_ ?_) | (show wrapK _ _ _; refine wk_ ?_) | exact fin_ | fail)
            · conv => whnf
              refine vc_loop (α := Nat) 0 (fun j => out.length - j) (fun j => j ≤ out.length) [] (fun j => [(5, .row 6 1), (6, .row 7 1), (7, .ptr 8 1 0 0), (9, .d (rowD m piv)), (24, .d (.int .i64 m)), (25, .d (.int .i64 c)), (72, .row 6 1), (73, .d (.int .i64 out.length)), (74, .d (.int .i64 j))]) (fun j => [(6, .data 1 (rowsL m (mapN j (elimR p c piv) out))), (7, .data 1 (rowsL m (lf.map (elimR p c piv)))), (8, .data 1 [[.int .i64 c]])]) lp_ ?_ ?_
              · (repeat' (conv => whnf) <;> first | exact True.intro | (with_reducible show (_ → _) ∧ (_ → _); refine if_ ?_ ?_ <;> intro h <;> first | exact h.elim | (exfalso; omega) | skip) | (show _ ∧ _; refine an_ ?_ (by first | exact congrArg (fun x => Chunk.data 1 (rowsL m x)) (mapN_zero _ _).symm | exact rows_done (by omega) rfl | exact sd_)) | (show ∃ _, _ ∧ _; refine ex_ ?_) | (show ∃ _ _, _ ∧ _; refine ex2_ ?_) | (show Ar.int _ _ _ _ _; refine ar_ ?_) | (show wrapK _ _ _; refine wk_ ?_) | exact fin_ | fail)
              · intro j hj
                have e7 := i2.get (by omega) j
                have e8 := e7 c
                (repeat' (conv => whnf) <;> first | exact True.intro | (with_reducible show (_ → _) ∧ (_ → _); refine if_ ?_ ?_ <;> intro h <;> first | exact h.elim | (exfalso; omega) | skip) | (show _ ∧ _; refine an_ ?_) | (show ∃ _, _ ∧ _; refine ex_ ?_ (by first | with_reducible exact rfl | exact hl (by omega) (e7.bd (by omega)) (rp.bd (by omega)) (by omega) (by omega) | exact rd_)) | (show ∃ _ _, _ ∧ _; refine ex2_ ?_ (by first | with_reducible exact rfl | exact hl (by omega) (e7.bd (by omega)) (rp.bd (by omega)) (by omega) (by omega) | exact rd_)) | (show Ar.int _ _ _ _ _; refine ar_ ?_) | (show wrapK _ _ _; refine wk_ ?_) | exact fin_ | fail)
                · conv => whnf
                  refine ⟨j + 1, by omega, by omega, ?_⟩
                  (repeat' (conv => whnf) <;> first | exact True.intro | (with_reducible show (_ → _) ∧ (_ → _); refine if_ ?_ ?_ <;> intro h <;> first | exact h.elim | (exfalso; omega) | skip) | (show _ ∧ _; refine an_ ?_ (by first | exact rowsL_set (g := elimR p c piv) (by omega) rfl rfl | exact sd_)) | (show ∃ _, _ ∧ _; refine ex_ ?_) | (show ∃ _ _, _ ∧ _; refine ex2_ ?_) | (show Ar.int _ _ _ _ _; refine ar_ ?_) | (show wrapK _ _ _; refine wk_ ?_) | exact fin_ | fail)
                · have e9 : mapN j (elimR p c piv) out = out.map (elimR p c piv) := mapN_all (by omega)
                  rw [e9]
                  (repeat' (conv => whnf) <;> first | exact True.intro | (with_reducible show (_ → _) ∧ (_ → _); refine if_ ?_ ?_ <;> intro h <;> first | exact h.elim | (exfalso; omega) | skip) | (show _ ∧ _; refine an_ ?_) | (show ∃ _, _ ∧ _; refine ex_ ?_) | (show ∃ _ _, _ ∧ _; refine ex2_ ?_) | (show Ar.int _ _ _ _ _; refine ar_ ?_) | (show wrapK _ _ _; refine wk_ ?_) | exact fin_ | fail)
                  conv => whnf
                  refine ⟨c + 1, by omega, by omega, ?_⟩
                  (repeat' (conv => whnf) <;> first | exact True.intro | (with_reducible show (_ → _) ∧ (_ → _); refine if_ ?_ ?_ <;> intro h <;> first | exact h.elim | (exfalso; omega) | skip) | (show _ ∧ _; refine an_ ?_ (by first | exact congrArg (fun s => Chunk.data 1 (rowsL m (Prod.fst s))) e0.symm | exact rowsL_app.trans (congrArg (fun s => Chunk.data 1 (rowsL m (Prod.snd s))) e0.symm) | exact sd_)) | (show ∃ _, _ ∧ _; refine ex_ ?_) | (show ∃ _ _, _ ∧ _; refine ex2_ ?_) | (show Ar.int _ _ _ _ _; refine ar_ ?_) | (show wrapK _ _ _; refine wk_ ?_) | exact fin_ | fail)
        · conv => whnf
          have : c = m := by omega
          subst this
          unfold redF; rw [hst]
end Go.X
