import Derived.Test.YtehopmcogekcoaaM3
set_option linter.all false
namespace Go.X
open Go Go.RowKit
set_option maxRecDepth 100000
set_option maxHeartbeats 8000000
set_option linter.unusedSimpArgs false
set_option linter.unusedVariables false
variable {P : Program} {N : FN}
theorem c_sLessO (h1 : C_sMod P N) (hf : isFn P N.spec_l01Less (ir_spec_l01Less N) = true) : C_sLessO P N := by
  intro m r o k p hm hr ho hk hp
  refine can_of hf rfl rfl ?_
  (repeat' (conv => whnf) <;> first | exact True.intro | (with_reducible show (_ → _) ∧ (_ → _); refine if_ ?_ ?_ <;> intro h <;> first | exact h.elim | (exfalso; omega) | skip) | (show _ ∧ _; refine an_ ?_) | (show ∃ _, _ ∧ _; refine ex_ ?_) | (show ∃ _ _, _ ∧ _; refine ex2_ ?_) | (show Ar.int _ _ _ _ _; refine ar_ ?_) | (show wrapK _ _ _; refine wk_ ?_) | exact fin_ | fail)
  conv => whnf
  refine vc_loop (α := Nat) 0 (fun i => m - i) (fun i => i ≤ m) [] (fun i => [(10, .d (.int .i64 i)), (9, .row 10 1)]) (fun i => [(10, .data 1 (row i (lessR p k r o)))]) lp_ ?_ ?_
  · (repeat' (conv => whnf) <;> first | exact True.intro | (with_reducible show (_ → _) ∧ (_ → _); refine if_ ?_ ?_ <;> intro h <;> first | exact h.elim | (exfalso; omega) | skip) | (show _ ∧ _; refine an_ ?_) | (show ∃ _, _ ∧ _; refine ex_ ?_) | (show ∃ _ _, _ ∧ _; refine ex2_ ?_) | (show Ar.int _ _ _ _ _; refine ar_ ?_) | (show wrapK _ _ _; refine wk_ ?_) | exact fin_ | fail)
  · intro i hi
    have h2 := hr i
    have h3 := ho i
    have h4 := mul_bd hk h3
    (repeat' (conv => whnf) <;> first | exact True.intro | (with_reducible show (_ → _) ∧ (_ → _); refine if_ ?_ ?_ <;> intro h <;> first | exact h.elim | (exfalso; omega) | skip) | (show _ ∧ _; refine an_ ?_) | (show ∃ _, _ ∧ _; refine ex_ ?_ (by first | with_reducible exact rfl | exact h1 (by omega) (by omega) | exact rd_)) | (show ∃ _ _, _ ∧ _; refine ex2_ ?_ (by first | with_reducible exact rfl | exact h1 (by omega) (by omega) | exact rd_)) | (show Ar.int _ _ _ _ _; refine ar_ ?_) | (show wrapK _ _ _; refine wk_ ?_) | exact fin_ | fail)
    · conv => whnf
      refine ⟨i + 1, by omega, by omega, ?_⟩
      (repeat' (conv => whnf) <;> first | exact True.intro | (with_reducible show (_ → _) ∧ (_ → _); refine if_ ?_ ?_ <;> intro h <;> first | exact h.elim | (exfalso; omega) | skip) | (show _ ∧ _; refine an_ ?_) | (show ∃ _, _ ∧ _; refine ex_ ?_) | (show ∃ _ _, _ ∧ _; refine ex2_ ?_) | (show Ar.int _ _ _ _ _; refine ar_ ?_) | (show wrapK _ _ _; refine wk_ ?_) | exact fin_ | fail)
    · conv => whnf
      rw [show i = m by omega]
theorem rowsL_app2 {m z : Nat} {L : List Row} {a b : Row} : Chunk.data z (rowsL m L ++ [[rowD m a]] ++ [[rowD m b]]) = .data z (rowsL m (L ++ [a] ++ [b])) := by simp [rowsL]
theorem c_sEchelon (hO : C_sOwn P N) (hLd : C_sLead P N) (hL1 : C_sLess P N) (hL2 : C_sLessO P N) (hI : C_sInverse P N) (hf : isFn P N.spec_l01Echelon (ir_spec_l01Echelon N) = true) : C_sEchelon P N := by
  intro m L p hm hL hp hR
  have hp2 := prime_bd hp
  refine can_of hf rfl rfl ?_
  (repeat' (conv => whnf) <;> first | exact True.intro | (with_reducible show (_ → _) ∧ (_ → _); refine if_ ?_ ?_ <;> intro h <;> first | exact h.elim | (exfalso; omega) | skip) | (show _ ∧ _; refine an_ ?_) | (show ∃ _, _ ∧ _; refine ex_ ?_) | (show ∃ _ _, _ ∧ _; refine ex2_ ?_) | (show Ar.int _ _ _ _ _; refine ar_ ?_) | (show wrapK _ _ _; refine wk_ ?_) | exact fin_ | fail)
  conv => whnf
  refine vc_loop (α := Nat) 0 (fun i => L.length - i) (fun i => i ≤ L.length) [] (fun i => [(5, .row 6 1), (6, .d (.int .i64 i))]) (fun i => [(6, .data 1 (rowsL m (echN p m L i)))]) lp_ ?_ ?_
  · (repeat' (conv => whnf) <;> first | exact True.intro | (with_reducible show (_ → _) ∧ (_ → _); refine if_ ?_ ?_ <;> intro h <;> first | exact h.elim | (exfalso; omega) | skip) | (show _ ∧ _; refine an_ ?_) | (show ∃ _, _ ∧ _; refine ex_ ?_) | (show ∃ _ _, _ ∧ _; refine ex2_ ?_) | (show Ar.int _ _ _ _ _; refine ar_ ?_) | (show wrapK _ _ _; refine wk_ ?_) | exact fin_ | fail)
  · intro i hi
    by_cases hlt : L.length ≤ i
    · have : i = L.length := by omega
      subst this
      (repeat' (conv => whnf) <;> first | exact True.intro | (with_reducible show (_ → _) ∧ (_ → _); refine if_ ?_ ?_ <;> intro h <;> first | exact h.elim | (exfalso; omega) | skip) | (show _ ∧ _; refine an_ ?_) | (show ∃ _, _ ∧ _; refine ex_ ?_) | (show ∃ _ _, _ ∧ _; refine ex2_ ?_) | (show Ar.int _ _ _ _ _; refine ar_ ?_) | (show wrapK _ _ _; refine wk_ ?_) | exact fin_ | fail)
    obtain ⟨⟨ld, rr⟩, hlen⟩ := echN_rr (m := m) hp hR i (by omega)
    have hrow : Rw p (L.getD i Z) := hR _ (getD_mem (by omega))
    have e0 : echN p m L (i + 1) = echStep p m (echN p m L i) (L.getD i Z) := rfl
    generalize echN p m L i = out at *
    (repeat' (conv => whnf) <;> first | exact True.intro | (with_reducible show (_ → _) ∧ (_ → _); refine if_ ?_ ?_ <;> intro h <;> first | exact h.elim | (exfalso; omega) | skip) | (show _ ∧ _; refine an_ ?_) | (show ∃ _, _ ∧ _; refine ex_ ?_ (by first | with_reducible exact rfl | exact hO (by omega) | exact rd_)) | (show ∃ _ _, _ ∧ _; refine ex2_ ?_ (by first | with_reducible exact rfl | exact hO (by omega) | exact rd_)) | (show Ar.int _ _ _ _ _; refine ar_ ?_) | (show wrapK _ _ _; refine wk_ ?_) | exact fin_ | fail)
    conv => whnf
    refine vc_loop (α := Nat) 0 (fun k => out.length - k) (fun k => k ≤ out.length) [] (fun k => [(5, .row 6 1), (6, .d (.int .i64 i)), (7, .row 8 1), (8, .d (.int .i64 k))]) (fun k => [(6, .data 1 (rowsL m out)), (8, .data 1 (row m (redBy p m out (L.getD i Z) k)))]) lp_ ?_ ?_
    · (repeat' (conv => whnf) <;> first | exact True.intro | (with_reducible show (_ → _) ∧ (_ → _); refine if_ ?_ ?_ <;> intro h <;> first | exact h.elim | (exfalso; omega) | skip) | (show _ ∧ _; refine an_ ?_) | (show ∃ _, _ ∧ _; refine ex_ ?_) | (show ∃ _ _, _ ∧ _; refine ex2_ ?_) | (show Ar.int _ _ _ _ _; refine ar_ ?_) | (show wrapK _ _ _; refine wk_ ?_) | exact fin_ | fail)
    · intro k hk
      by_cases hlt2 : out.length ≤ k
      · have : k = out.length := by omega
        subst this
        have hw := redBy_rw (p := p) (m := m) (out := out) (by omega) hrow out.length
        by_cases c : leadF m (redBy p m out (L.getD i Z) out.length) < 0
        · have e9 : echStep p m out (L.getD i Z) = out := by unfold echStep; rw [if_pos c]
          (repeat' (conv => whnf) <;> first | exact True.intro | (with_reducible show (_ → _) ∧ (_ → _); refine if_ ?_ ?_ <;> intro h <;> first | exact h.elim | (exfalso; omega) | skip) | (show _ ∧ _; refine an_ ?_) | (show ∃ _, _ ∧ _; refine ex_ ?_ (by first | with_reducible exact rfl | exact hLd (by omega) | exact rd_)) | (show ∃ _ _, _ ∧ _; refine ex2_ ?_ (by first | with_reducible exact rfl | exact hLd (by omega) | exact rd_)) | (show Ar.int _ _ _ _ _; refine ar_ ?_) | (show wrapK _ _ _; refine wk_ ?_) | exact fin_ | fail)
          conv => whnf
          refine ⟨i + 1, by omega, by omega, ?_⟩
          (repeat' (conv => whnf) <;> first | exact True.intro | (with_reducible show (_ → _) ∧ (_ → _); refine if_ ?_ ?_ <;> intro h <;> first | exact h.elim | (exfalso; omega) | skip) | (show _ ∧ _; refine an_ ?_ (by first | exact congrArg (fun x => Chunk.data 1 (rowsL m x)) (e0.trans e9).symm | exact sd_)) | (show ∃ _, _ ∧ _; refine ex_ ?_) | (show ∃ _ _, _ ∧ _; refine ex2_ ?_) | (show Ar.int _ _ _ _ _; refine ar_ ?_) | (show wrapK _ _ _; refine wk_ ?_) | exact fin_ | fail)
        · obtain ⟨a1, a2, a3, a4⟩ := lead_of (m := m) (r := redBy p m out (L.getD i Z) out.length) (by omega)
          obtain ⟨o1, o2, o3⟩ := echOwn_ok rr hp hrow (by omega)
          have hl3 : Can P N.spec_l01Lead [rowD m (redBy p m out (L.getD i Z) out.length)] (.val (.int .i64 (ldN m (redBy p m out (L.getD i Z) out.length)))) := by rw [← a4]; exact hLd (by omega)
          have e9 : echStep p m out (L.getD i Z) = if (insN p m (ldN m (redBy p m out (L.getD i Z) out.length)) (echOwn p m out (L.getD i Z)) out out.length).2 then (insN p m (ldN m (redBy p m out (L.getD i Z) out.length)) (echOwn p m out (L.getD i Z)) out out.length).1 else (insN p m (ldN m (redBy p m out (L.getD i Z) out.length)) (echOwn p m out (L.getD i Z)) out out.length).1 ++ [echOwn p m out (L.getD i Z)] := by
            unfold echStep; rw [if_neg c]
          have e10 : ∀ q, redBy p m out (L.getD i Z) out.length q * invF p (redBy p m out (L.getD i Z) out.length (ldN m (redBy p m out (L.getD i Z) out.length))) % p = echOwn p m out (L.getD i Z) q := fun q => rfl
          have e11 := hw (ldN m (redBy p m out (L.getD i Z) out.length))
          have e12 := inv_mul hp ⟨by omega, e11.2⟩
          generalize echOwn p m out (L.getD i Z) = own at *
          generalize redBy p m out (L.getD i Z) out.length = w at *
          generalize ldN m w = at_ at *
          generalize hinv : invF p (w at_) = inv at *
          (repeat' (conv => whnf) <;> first | exact True.intro | (with_reducible show (_ → _) ∧ (_ → _); refine if_ ?_ ?_ <;> intro h <;> first | exact h.elim | (exfalso; omega) | skip) | (show _ ∧ _; refine an_ ?_) | (show ∃ _, _ ∧ _; refine ex_ ?_ (by first | with_reducible exact rfl | exact hl3 | exact hinv ▸ hI (by omega) (by omega) | exact rd_)) | (show ∃ _ _, _ ∧ _; refine ex2_ ?_ (by first | with_reducible exact rfl | exact hl3 | exact hinv ▸ hI (by omega) (by omega) | exact rd_)) | (show Ar.int _ _ _ _ _; refine ar_ ?_) | (show wrapK _ _ _; refine wk_ ?_) | exact fin_ | fail)
          conv => whnf
          refine vc_loop (α := Nat) 0 (fun q => m - q) (fun q => q ≤ m) [] (fun q => [(5, .row 6 1), (6, .d (.int .i64 i)), (7, .row 8 1), (10, .d (.int .i64 at_)), (11, .d (.int .i64 inv)), (12, .d (.int .i64 q))]) (fun q => [(6, .data 1 (rowsL m out)), (8, .data 1 (row m (prog q own w)))]) lp_ ?_ ?_
          · (repeat' (conv => whnf) <;> first | exact True.intro | (with_reducible show (_ → _) ∧ (_ → _); refine if_ ?_ ?_ <;> intro h <;> first | exact h.elim | (exfalso; omega) | skip) | (show _ ∧ _; refine an_ ?_ (by first | exact congrArg (fun x => Chunk.data 1 (row m x)) (prog_zero _ _).symm | exact sd_)) | (show ∃ _, _ ∧ _; refine ex_ ?_) | (show ∃ _ _, _ ∧ _; refine ex2_ ?_) | (show Ar.int _ _ _ _ _; refine ar_ ?_) | (show wrapK _ _ _; refine wk_ ?_) | exact fin_ | fail)
          · intro q hq
            have hwq := hw q
            have hwi := mul_bd (A := 1000) (B := 1000) (x := w q) (y := inv) ⟨hwq.1, by omega⟩ ⟨by omega, by omega⟩
            by_cases hlt3 : m ≤ q
            · have e13 : row m (prog q own w) = row m own := row_ext fun j hj => by unfold prog; rw [if_pos (by omega)]
              rw [e13]
              (repeat' (conv => whnf) <;> first | exact True.intro | (with_reducible show (_ → _) ∧ (_ → _); refine if_ ?_ ?_ <;> intro h <;> first | exact h.elim | (exfalso; omega) | skip) | (show _ ∧ _; refine an_ ?_) | (show ∃ _, _ ∧ _; refine ex_ ?_) | (show ∃ _ _, _ ∧ _; refine ex2_ ?_) | (show Ar.int _ _ _ _ _; refine ar_ ?_) | (show wrapK _ _ _; refine wk_ ?_) | exact fin_ | fail)
              conv => whnf
              refine vc_loop (α := Nat) 0 (fun k => out.length - k) (fun k => k ≤ out.length) [] (fun k => [(5, .row 6 1), (6, .d (.int .i64 i)), (7, .d (rowD m own)), (10, .d (.int .i64 at_)), (13, .row 14 1), (14, .d (.bool (insN p m at_ own out k).2)), (15, .d (.int .i64 k))]) (fun k => [(6, .data 1 (rowsL m out)), (14, .data 1 (rowsL m (insN p m at_ own out k).1))]) lp_ ?_ ?_
              · (repeat' (conv => whnf) <;> first | exact True.intro | (with_reducible show (_ → _) ∧ (_ → _); refine if_ ?_ ?_ <;> intro h <;> first | exact h.elim | (exfalso; omega) | skip) | (show _ ∧ _; refine an_ ?_) | (show ∃ _, _ ∧ _; refine ex_ ?_) | (show ∃ _ _, _ ∧ _; refine ex2_ ?_) | (show Ar.int _ _ _ _ _; refine ar_ ?_) | (show wrapK _ _ _; refine wk_ ?_) | exact fin_ | fail)
              · intro k hk
                by_cases hlt4 : out.length ≤ k
                · have : k = out.length := by omega
                  subst this
                  have hs9 := insN_len p m at_ own out out.length
                  generalize insN p m at_ own out out.length = s9 at *
                  obtain ⟨nx, put⟩ := s9
                  dsimp only at *
                  cases put
                  · rw [if_neg (by simp)] at e9
                    (repeat' (conv => whnf) <;> first | exact True.intro | (with_reducible show (_ → _) ∧ (_ → _); refine if_ ?_ ?_ <;> intro h <;> first | exact h.elim | (exfalso; omega) | skip) | (show _ ∧ _; refine an_ ?_) | (show ∃ _, _ ∧ _; refine ex_ ?_) | (show ∃ _ _, _ ∧ _; refine ex2_ ?_) | (show Ar.int _ _ _ _ _; refine ar_ ?_) | (show wrapK _ _ _; refine wk_ ?_) | exact fin_ | fail)
                    conv => whnf
                    refine ⟨i + 1, by omega, by omega, ?_⟩
                    (repeat' (conv => whnf) <;> first | exact True.intro | (with_reducible show (_ → _) ∧ (_ → _); refine if_ ?_ ?_ <;> intro h <;> first | exact h.elim | (exfalso; omega) | skip) | (show _ ∧ _; refine an_ ?_ (by first | exact rowsL_app.trans (congrArg (fun x => Chunk.data 1 (rowsL m x)) (e0.trans e9).symm) | exact sd_)) | (show ∃ _, _ ∧ _; refine ex_ ?_) | (show ∃ _ _, _ ∧ _; refine ex2_ ?_) | (show Ar.int _ _ _ _ _; refine ar_ ?_) | (show wrapK _ _ _; refine wk_ ?_) | exact fin_ | fail)
                  · rw [if_pos rfl] at e9
                    (repeat' (conv => whnf) <;> first | exact True.intro | (with_reducible show (_ → _) ∧ (_ → _); refine if_ ?_ ?_ <;> intro h <;> first | exact h.elim | (exfalso; omega) | skip) | (show _ ∧ _; refine an_ ?_) | (show ∃ _, _ ∧ _; refine ex_ ?_) | (show ∃ _ _, _ ∧ _; refine ex2_ ?_) | (show Ar.int _ _ _ _ _; refine ar_ ?_) | (show wrapK _ _ _; refine wk_ ?_) | exact fin_ | fail)
                    conv => whnf
                    refine ⟨i + 1, by omega, by omega, ?_⟩
                    (repeat' (conv => whnf) <;> first | exact True.intro | (with_reducible show (_ → _) ∧ (_ → _); refine if_ ?_ ?_ <;> intro h <;> first | exact h.elim | (exfalso; omega) | skip) | (show _ ∧ _; refine an_ ?_ (by first | exact congrArg (fun x => Chunk.data 1 (rowsL m x)) (e0.trans e9).symm | exact sd_)) | (show ∃ _, _ ∧ _; refine ex_ ?_) | (show ∃ _ _, _ ∧ _; refine ex2_ ?_) | (show Ar.int _ _ _ _ _; refine ar_ ?_) | (show wrapK _ _ _; refine wk_ ?_) | exact fin_ | fail)
                · have e14 := (rr.lead k (by omega)).leadF
                  have hl1 : Can P N.spec_l01Lead [rowD m (out.getD k Z)] (.val (.int .i64 (ld k))) := by rw [← e14]; exact hLd (by omega)
                  have e15 : insN p m at_ own out (k + 1) = ((if (insN p m at_ own out k).2 = false ∧ (at_ : Int) < ld k then ((insN p m at_ own out k).1 ++ [own], true) else insN p m at_ own out k).1 ++ [elimR p at_ own (out.getD k Z)], (if (insN p m at_ own out k).2 = false ∧ (at_ : Int) < ld k then ((insN p m at_ own out k).1 ++ [own], true) else insN p m at_ own out k).2) := by
                    rw [← e14]; rfl
                  have hs9 := insN_len p m at_ own out k
                  have hrk := rr.rw _ (getD_mem (show k < out.length by omega))
                  have hrk2 := hrk at_
                  have hless : Can P N.spec_l01Less [.int .i64 p, rowD m (out.getD k Z), rowD m own, .int .i64 (out.getD k Z at_)] (.val (rowD m (elimR p at_ own (out.getD k Z)))) := hL1 (by omega) (hrk.bd (by omega)) (o2.bd (by omega)) (by omega) (by omega)
                  generalize insN p m at_ own out k = s9 at *
                  obtain ⟨nx, put⟩ := s9
                  dsimp only at *
                  cases put
                  · by_cases hgt : (at_ : Int) < ld k
                    · rw [if_pos ⟨rfl, hgt⟩] at e15
                      (repeat' (conv => whnf) <;> first | exact True.intro | (with_reducible show (_ → _) ∧ (_ → _); refine if_ ?_ ?_ <;> intro h <;> first | exact h.elim | (exfalso; omega) | skip) | (show _ ∧ _; refine an_ ?_) | (show ∃ _, _ ∧ _; refine ex_ ?_ (by first | with_reducible exact rfl | exact hl1 | exact hless | exact rd_)) | (show ∃ _ _, _ ∧ _; refine ex2_ ?_ (by first | with_reducible exact rfl | exact hl1 | exact hless | exact rd_)) | (show Ar.int _ _ _ _ _; refine ar_ ?_) | (show wrapK _ _ _; refine wk_ ?_) | exact fin_ | fail)
                      conv => whnf
                      refine ⟨k + 1, by omega, by omega, ?_⟩
                      (repeat' (conv => whnf) <;> first | exact True.intro | (with_reducible show (_ → _) ∧ (_ → _); refine if_ ?_ ?_ <;> intro h <;> first | exact h.elim | (exfalso; omega) | skip) | (show _ ∧ _; refine an_ ?_ (by first | exact congrArg (fun s => AV.d (D.bool (Prod.snd s))) e15.symm | exact rowsL_app2.trans (congrArg (fun s => Chunk.data 1 (rowsL m (Prod.fst s))) e15.symm) | exact sd_)) | (show ∃ _, _ ∧ _; refine ex_ ?_) | (show ∃ _ _, _ ∧ _; refine ex2_ ?_) | (show Ar.int _ _ _ _ _; refine ar_ ?_) | (show wrapK _ _ _; refine wk_ ?_) | exact fin_ | fail)
                    · rw [if_neg (fun h => hgt h.2)] at e15
                      (repeat' (conv => whnf) <;> first | exact True.intro | (with_reducible show (_ → _) ∧ (_ → _); refine if_ ?_ ?_ <;> intro h <;> first | exact h.elim | (exfalso; omega) | skip) | (show _ ∧ _; refine an_ ?_) | (show ∃ _, _ ∧ _; refine ex_ ?_ (by first | with_reducible exact rfl | exact hl1 | exact hless | exact rd_)) | (show ∃ _ _, _ ∧ _; refine ex2_ ?_ (by first | with_reducible exact rfl | exact hl1 | exact hless | exact rd_)) | (show Ar.int _ _ _ _ _; refine ar_ ?_) | (show wrapK _ _ _; refine wk_ ?_) | exact fin_ | fail)
                      conv => whnf
                      refine ⟨k + 1, by omega, by omega, ?_⟩
                      (repeat' (conv => whnf) <;> first | exact True.intro | (with_reducible show (_ → _) ∧ (_ → _); refine if_ ?_ ?_ <;> intro h <;> first | exact h.elim | (exfalso; omega) | skip) | (show _ ∧ _; refine an_ ?_ (by first | exact congrArg (fun s => AV.d (D.bool (Prod.snd s))) e15.symm | exact rowsL_app.trans (congrArg (fun s => Chunk.data 1 (rowsL m (Prod.fst s))) e15.symm) | exact sd_)) | (show ∃ _, _ ∧ _; refine ex_ ?_) | (show ∃ _ _, _ ∧ _; refine ex2_ ?_) | (show Ar.int _ _ _ _ _; refine ar_ ?_) | (show wrapK _ _ _; refine wk_ ?_) | exact fin_ | fail)
                  · rw [if_neg (by simp)] at e15
                    (repeat' (conv => whnf) <;> first | exact True.intro | (with_reducible show (_ → _) ∧ (_ → _); refine if_ ?_ ?_ <;> intro h <;> first | exact h.elim | (exfalso; omega) | skip) | (show _ ∧ _; refine an_ ?_) | (show ∃ _, _ ∧ _; refine ex_ ?_ (by first | with_reducible exact rfl | exact hl1 | exact hless | exact rd_)) | (show ∃ _ _, _ ∧ _; refine ex2_ ?_ (by first | with_reducible exact rfl | exact hl1 | exact hless | exact rd_)) | (show Ar.int _ _ _ _ _; refine ar_ ?_) | (show wrapK _ _ _; refine wk_ ?_) | exact fin_ | fail)
                    conv => whnf
                    refine ⟨k + 1, by omega, by omega, ?_⟩
                    (repeat' (conv => whnf) <;> first | exact True.intro | (with_reducible show (_ → _) ∧ (_ → _); refine if_ ?_ ?_ <;> intro h <;> first | exact h.elim | (exfalso; omega) | skip) | (show _ ∧ _; refine an_ ?_ (by first | exact congrArg (fun s => AV.d (D.bool (Prod.snd s))) e15.symm | exact rowsL_app.trans (congrArg (fun s => Chunk.data 1 (rowsL m (Prod.fst s))) e15.symm) | exact sd_)) | (show ∃ _, _ ∧ _; refine ex_ ?_) | (show ∃ _ _, _ ∧ _; refine ex2_ ?_) | (show Ar.int _ _ _ _ _; refine ar_ ?_) | (show wrapK _ _ _; refine wk_ ?_) | exact fin_ | fail)
            · (repeat' (conv => whnf) <;> first | exact True.intro | (with_reducible show (_ → _) ∧ (_ → _); refine if_ ?_ ?_ <;> intro h <;> first | exact h.elim | (exfalso; omega) | skip) | (show _ ∧ _; refine an_ ?_) | (show ∃ _, _ ∧ _; refine ex_ ?_) | (show ∃ _ _, _ ∧ _; refine ex2_ ?_) | (show Ar.int _ _ _ _ _; refine ar_ ?_) | (show wrapK _ _ _; refine wk_ ?_) | exact fin_ | fail)
              conv => whnf
              refine ⟨q + 1, by omega, by omega, ?_⟩
              (repeat' (conv => whnf) <;> first | exact True.intro | (with_reducible show (_ → _) ∧ (_ → _); refine if_ ?_ ?_ <;> intro h <;> first | exact h.elim | (exfalso; omega) | skip) | (show _ ∧ _; refine an_ ?_ (by first | exact row_prog (e10 q) | exact sd_)) | (show ∃ _, _ ∧ _; refine ex_ ?_) | (show ∃ _ _, _ ∧ _; refine ex2_ ?_) | (show Ar.int _ _ _ _ _; refine ar_ ?_) | (show wrapK _ _ _; refine wk_ ?_) | exact fin_ | fail)
      · have e1 := (rr.lead k (by omega)).leadF
        have e2 := (rr.lead k (by omega)).1
        have hl1 : Can P N.spec_l01Lead [rowD m (out.getD k Z)] (.val (.int .i64 (ld k))) := by rw [← e1]; exact hLd (by omega)
        have e3 := redBy_rw (p := p) (m := m) (out := out) (by omega) hrow k
        have e4 := e3 (ld k)
        have e5 : lessR p (redBy p m out (L.getD i Z) k (ld k)) (redBy p m out (L.getD i Z) k) (out.getD k Z) = redBy p m out (L.getD i Z) (k + 1) := by
          show _ = lessR p _ _ _
          rw [rr.ldN (by omega)]
        (repeat' (conv => whnf) <;> first | exact True.intro | (with_reducible show (_ → _) ∧ (_ → _); refine if_ ?_ ?_ <;> intro h <;> first | exact h.elim | (exfalso; omega) | skip) | (show _ ∧ _; refine an_ ?_) | (show ∃ _, _ ∧ _; refine ex_ ?_ (by first | with_reducible exact rfl | exact hl1 | exact e5 ▸ hL2 (by omega) (e3.bd (by omega)) ((rr.rw _ (getD_mem (by omega))).bd (by omega)) (by omega) (by omega) | exact rd_)) | (show ∃ _ _, _ ∧ _; refine ex2_ ?_ (by first | with_reducible exact rfl | exact hl1 | exact e5 ▸ hL2 (by omega) (e3.bd (by omega)) ((rr.rw _ (getD_mem (by omega))).bd (by omega)) (by omega) (by omega) | exact rd_)) | (show Ar.int _ _ _ _ _; refine ar_ ?_) | (show wrapK _ _ _; refine wk_ ?_) | exact fin_ | fail)
        conv => whnf
        refine ⟨k + 1, by omega, by omega, ?_⟩
        (repeat' (conv => whnf) <;> first | exact True.intro | (with_reducible show (_ → _) ∧ (_ → _); refine if_ ?_ ?_ <;> intro h <;> first | exact h.elim | (exfalso; omega) | skip) | (show _ ∧ _; refine an_ ?_) | (show ∃ _, _ ∧ _; refine ex_ ?_) | (show ∃ _ _, _ ∧ _; refine ex2_ ?_) | (show Ar.int _ _ _ _ _; refine ar_ ?_) | (show wrapK _ _ _; refine wk_ ?_) | exact fin_ | fail)
end Go.X
