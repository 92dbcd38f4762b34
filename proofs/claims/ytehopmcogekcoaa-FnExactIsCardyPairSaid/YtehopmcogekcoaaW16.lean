import Derived.Test.YtehopmcogekcoaaM3
set_option linter.all false
namespace Go.X
open Go Go.RowKit
set_option maxRecDepth 100000
set_option maxHeartbeats 8000000
set_option linter.unusedSimpArgs false
set_option linter.unusedVariables false
variable {P : Program} {N : FN}
theorem row_upd {m i z : Nat} {f : Nat → Int} {x : Int} : Chunk.data z ((row m f).set ((i : Nat) : Int).toNat (([.int .i64 (f i)] : List D).set 0 (.int .i64 x))) = .data z (row m (upd f i x)) := row_set fun j _ => rfl
theorem repl_row {n : Nat} : List.replicate n ([.int .i64 0] : List D) = row n Z := arr_replicate ..
theorem repl_chunk {n z : Nat} : Chunk.data z (List.replicate ((n : Nat) : Int).toNat ([.int .i64 0] : List D)) = .data z (row n Z) := by rw [Int.toNat_natCast, repl_row]
theorem solN_none {n : Nat} {L : List Row} {i : Nat} (h : solN n L i = none) : ∀ j, i ≤ j → solN n L j = none := by
  intro j hj
  induction j with
  | zero => rw [show 0 = i by omega]; exact h
  | succ j ih =>
    rcases Nat.lt_or_ge i (j + 1) with h1 | h1
    · unfold solN; rw [ih (by omega)]
    · rw [show j + 1 = i by omega]; exact h
theorem c_solve (hR : C_reduce P N) (hL : C_leader P N) (hf : isFn P N.impl_solve (ir_impl_solve N) = true) : C_solve P N := by
  intro n L p hn hLl hp hRL
  have hp2 := prime_bd hp
  obtain ⟨ld, rr⟩ := redF_rr (m := n + 1) hp hRL
  have hR' : Can P N.impl_reduce [rowsD (n + 1) L, .int .i64 p] (.val (rowsD (n + 1) (redF p (n + 1) L))) := hR (by omega) hLl hp hRL
  have hlen : (redF p (n + 1) L).length ≤ 1000 := by have := (redN_inv (p := p) (rows := L) (by omega) hRL (n + 1)).2.2; unfold redF; omega
  refine can_of hf rfl (by cases iSolveF p n L <;> rfl) ?_
  unfold iSolveF
  generalize redF p (n + 1) L = R at *
  (repeat' (conv => whnf) <;> first | exact True.intro | (with_reducible show (_ → _) ∧ (_ → _); refine if_ ?_ ?_ <;> intro h <;> first | exact h.elim | (exfalso; omega) | skip) | (show _ ∧ _; refine an_ ?_) | (show ∃ _, _ ∧ _; refine ex_ ?_ (by first | with_reducible exact rfl | exact hR' | exact rd_)) | (show ∃ _ _, _ ∧ _; refine ex2_ ?_ (by first | with_reducible exact rfl | exact hR' | exact rd_)) | (show Ar.int _ _ _ _ _; refine ar_ ?_) | (show wrapK _ _ _; refine wk_ ?_) | exact fin_ | fail)
  conv => whnf
  refine vc_loop (α := Nat) 0 (fun i => R.length - i) (fun i => i ≤ R.length ∧ (solN n R i).isSome = true) [] (fun i => [(8, .row 9 1), (16, .d (rowsD (n + 1) R)), (17, .d (.int .i64 R.length)), (18, .d (.int .i64 i))]) (fun i => [(9, .data 1 (row n ((solN n R i).getD Z)))]) lp_ ?_ ?_
  · (repeat' (conv => whnf) <;> first | exact True.intro | (with_reducible show (_ → _) ∧ (_ → _); refine if_ ?_ ?_ <;> intro h <;> first | exact h.elim | (exfalso; omega) | skip) | (show _ ∧ _; refine an_ ?_ (by first | exact repl_chunk | exact sd_)) | (show ∃ _, _ ∧ _; refine ex_ ?_) | (show ∃ _ _, _ ∧ _; refine ex2_ ?_) | (show Ar.int _ _ _ _ _; refine ar_ ?_) | (show wrapK _ _ _; refine wk_ ?_) | exact fin_ | fail)
  · rintro i ⟨hi, hs⟩
    obtain ⟨o, ho⟩ := Option.isSome_iff_exists.1 hs
    by_cases hlt : i < R.length
    · have e1 := (rr.lead i hlt).leadF
      have e2 := (rr.lead i hlt).1
      have hl : Can P N.impl_leader [rowD (n + 1) (R.getD i Z)] (.val (.int .i64 (ld i))) := by rw [← e1]; exact hL (by omega)
      have e3 : solN n R (i + 1) = if leadF (n + 1) (R.getD i Z) = n then none else some (upd o (leadF (n + 1) (R.getD i Z)).toNat (R.getD i Z n)) := by
        show (match solN n R i with | none => none | some o => _) = _
        rw [ho]
      rw [e1] at e3
      rw [ho]
      (repeat' (conv => whnf) <;> first | exact True.intro | (with_reducible show (_ → _) ∧ (_ → _); refine if_ ?_ ?_ <;> intro h <;> first | exact h.elim | (exfalso; omega) | skip) | (show _ ∧ _; refine an_ ?_) | (show ∃ _, _ ∧ _; refine ex_ ?_ (by first | with_reducible exact rfl | exact hl | exact rd_)) | (show ∃ _ _, _ ∧ _; refine ex2_ ?_ (by first | with_reducible exact rfl | exact hl | exact rd_)) | (show Ar.int _ _ _ _ _; refine ar_ ?_) | (show wrapK _ _ _; refine wk_ ?_) | exact fin_ | fail)
      · have e4 : solN n R (i + 1) = none := by rw [e3, if_pos (by omega)]
        rw [solN_none e4 R.length (by omega)]
        (repeat' (conv => whnf) <;> first | exact True.intro | (with_reducible show (_ → _) ∧ (_ → _); refine if_ ?_ ?_ <;> intro h <;> first | exact h.elim | (exfalso; omega) | skip) | (show _ ∧ _; refine an_ ?_) | (show ∃ _, _ ∧ _; refine ex_ ?_) | (show ∃ _ _, _ ∧ _; refine ex2_ ?_) | (show Ar.int _ _ _ _ _; refine ar_ ?_) | (show wrapK _ _ _; refine wk_ ?_) | exact fin_ | fail)
      · rw [if_neg (by omega)] at e3
        conv => whnf
        refine ⟨i + 1, ⟨by omega, by rw [e3]; rfl⟩, by omega, ?_⟩
        rw [e3]
        (repeat' (conv => whnf) <;> first | exact True.intro | (with_reducible show (_ → _) ∧ (_ → _); refine if_ ?_ ?_ <;> intro h <;> first | exact h.elim | (exfalso; omega) | skip) | (show _ ∧ _; refine an_ ?_ (by first | exact row_upd | exact sd_)) | (show ∃ _, _ ∧ _; refine ex_ ?_) | (show ∃ _ _, _ ∧ _; refine ex2_ ?_) | (show Ar.int _ _ _ _ _; refine ar_ ?_) | (show wrapK _ _ _; refine wk_ ?_) | exact fin_ | fail)
    · have : i = R.length := by omega
      rw [← this, ho]
      (repeat' (conv => whnf) <;> first | exact True.intro | (with_reducible show (_ → _) ∧ (_ → _); refine if_ ?_ ?_ <;> intro h <;> first | exact h.elim | (exfalso; omega) | skip) | (show _ ∧ _; refine an_ ?_) | (show ∃ _, _ ∧ _; refine ex_ ?_) | (show ∃ _ _, _ ∧ _; refine ex2_ ?_) | (show Ar.int _ _ _ _ _; refine ar_ ?_) | (show wrapK _ _ _; refine wk_ ?_) | exact fin_ | fail)
end Go.X
