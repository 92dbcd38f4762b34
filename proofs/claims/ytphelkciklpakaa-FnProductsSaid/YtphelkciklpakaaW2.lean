import Derived.Test.YtphelkciklpakaaM1
set_option linter.all false
namespace Go.X
open Go Go.RowKit
set_option maxRecDepth 100000
set_option maxHeartbeats 8000000
set_option linter.unusedSimpArgs false
set_option linter.unusedVariables false
variable {P : Program} {N : FN}
theorem c_sLessO (h1 : C_sMod P N) (hf : isFn P N.spec_l01Less (ir_spec_l01Less N) = true) : C_sLessO P N := by
  intro m r o k p hm hr ho hk hp
  refine can_of hf rfl rfl ?_
  (repeat' (conv => whnf)<;>first|exact True.intro|(refine if_ ?_ ?_<;>intro h<;>first|exact h.elim|(exfalso; omega)|skip)|refine vs_ ?_|refine dv_ ?_|exact fin_|(show ∃ _, _ ∧ _; refine ex_ ?_)|(show ∃ _ _, _ ∧ _; refine ex2_ ?_))
  conv => whnf
  refine vc_loop (α := Nat) 0 (fun i => m - i) (fun i => i ≤ m) [] (fun i => [(10, .d (.int .i64 i)), (9, .row 10 1)]) (fun i => [(10, .data 1 (row i (lessR p k r o)))]) lp_ ?_ ?_
  · (repeat' (conv => whnf)<;>first|exact True.intro|(refine if_ ?_ ?_<;>intro h<;>first|exact h.elim|(exfalso; omega)|skip)|refine vs_ ?_|refine dv_ ?_|exact fin_|(show ∃ _, _ ∧ _; refine ex_ ?_)|(show ∃ _ _, _ ∧ _; refine ex2_ ?_))
  · intro i hi
    have h2 := hr i
    have h3 := ho i
    have h4 := mul_bd hk h3
    (repeat' (conv => whnf)<;>first|exact True.intro|(refine if_ ?_ ?_<;>intro h<;>first|exact h.elim|(exfalso; omega)|skip)|refine vs_ ?_|refine dv_ ?_|exact fin_|(show ∃ _, _ ∧ _; refine ex_ ?_ (by first|with_reducible exact rfl|exact h1 (by omega) (by omega)|exact rd_))|(show ∃ _ _, _ ∧ _; refine ex2_ ?_ (by first|with_reducible exact rfl|exact h1 (by omega) (by omega)|exact rd_)))
    · conv => whnf
      refine ⟨i + 1, by omega, by omega, ?_⟩
      (repeat' (conv => whnf)<;>first|exact True.intro|(refine if_ ?_ ?_<;>intro h<;>first|exact h.elim|(exfalso; omega)|skip)|refine vs_ ?_|refine dv_ ?_|exact fin_|(show ∃ _, _ ∧ _; refine ex_ ?_)|(show ∃ _ _, _ ∧ _; refine ex2_ ?_))
    · conv => whnf
      rw [show i = m by omega]
theorem rowsL_app2 {m z : Nat} {L : List Row} {a b : Row} : Chunk.data z (rowsL m L ++ [[rowD m a]] ++ [[rowD m b]]) = .data z (rowsL m (L ++ [a] ++ [b])) := by simp [rowsL]
theorem c_sEchelon (hO : C_sOwn P N) (hLd : C_sLead P N) (hL1 : C_sLess P N) (hL2 : C_sLessO P N) (hI : C_sInverse P N) (hf : isFn P N.spec_l01Echelon (ir_spec_l01Echelon N) = true) : C_sEchelon P N := by
  intro m L p hm hL hp hR
  have hp2 := prime_bd hp
  refine can_of hf rfl rfl ?_
  (repeat' (conv => whnf)<;>first|exact True.intro|(refine if_ ?_ ?_<;>intro h<;>first|exact h.elim|(exfalso; omega)|skip)|refine vs_ ?_|refine dv_ ?_|exact fin_|(show ∃ _, _ ∧ _; refine ex_ ?_)|(show ∃ _ _, _ ∧ _; refine ex2_ ?_))
  conv => whnf
  refine vc_loop (α := Nat) 0 (fun i => L.length - i) (fun i => i ≤ L.length) [] (fun i => [(5, .row 6 1), (6, .d (.int .i64 i))]) (fun i => [(6, .data 1 (rowsL m (echN p m L i)))]) lp_ ?_ ?_
  · (repeat' (conv => whnf)<;>first|exact True.intro|(refine if_ ?_ ?_<;>intro h<;>first|exact h.elim|(exfalso; omega)|skip)|refine vs_ ?_|refine dv_ ?_|exact fin_|(show ∃ _, _ ∧ _; refine ex_ ?_)|(show ∃ _ _, _ ∧ _; refine ex2_ ?_))
  · intro i hi
    by_cases hlt : L.length ≤ i
    · have : i = L.length := by omega
      subst this
      (repeat' (conv => whnf)<;>first|exact True.intro|(refine if_ ?_ ?_<;>intro h<;>first|exact h.elim|(exfalso; omega)|skip)|refine vs_ ?_|refine dv_ ?_|exact fin_|(show ∃ _, _ ∧ _; refine ex_ ?_)|(show ∃ _ _, _ ∧ _; refine ex2_ ?_))
    obtain ⟨⟨ld, rr⟩, hlen⟩ := echN_rr (m := m) hp hR i (by omega)
    have hrow : Rw p (L.getD i Z) := hR _ (getD_mem (by omega))
    have e0 : echN p m L (i + 1) = echStep p m (echN p m L i) (L.getD i Z) := rfl
    generalize echN p m L i = out at *
    (repeat' (conv => whnf)<;>first|exact True.intro|(refine if_ ?_ ?_<;>intro h<;>first|exact h.elim|(exfalso; omega)|skip)|refine vs_ ?_|refine dv_ ?_|exact fin_|(show ∃ _, _ ∧ _; refine ex_ ?_ (by first|with_reducible exact rfl|exact hO (by omega)|exact rd_))|(show ∃ _ _, _ ∧ _; refine ex2_ ?_ (by first|with_reducible exact rfl|exact hO (by omega)|exact rd_)))
    conv => whnf
    refine vc_loop (α := Nat) 0 (fun k => out.length - k) (fun k => k ≤ out.length) [] (fun k => [(5, .row 6 1), (6, .d (.int .i64 i)), (7, .row 8 1), (8, .d (.int .i64 k))]) (fun k => [(6, .data 1 (rowsL m out)), (8, .data 1 (row m (redBy p m out (L.getD i Z) k)))]) lp_ ?_ ?_
    · (repeat' (conv => whnf)<;>first|exact True.intro|(refine if_ ?_ ?_<;>intro h<;>first|exact h.elim|(exfalso; omega)|skip)|refine vs_ ?_|refine dv_ ?_|exact fin_|(show ∃ _, _ ∧ _; refine ex_ ?_)|(show ∃ _ _, _ ∧ _; refine ex2_ ?_))
    · intro k hk
      by_cases hlt2 : out.length ≤ k
      · have : k = out.length := by omega
        subst this
        have hw := redBy_rw (p := p) (m := m) (out := out) (by omega) hrow out.length
        by_cases c : leadF m (redBy p m out (L.getD i Z) out.length) < 0
        · have e9 : echStep p m out (L.getD i Z) = out := by unfold echStep; rw [if_pos c]
          (repeat' (conv => whnf)<;>first|exact True.intro|(refine if_ ?_ ?_<;>intro h<;>first|exact h.elim|(exfalso; omega)|skip)|refine vs_ ?_|refine dv_ ?_|exact fin_|(show ∃ _, _ ∧ _; refine ex_ ?_ (by first|with_reducible exact rfl|exact hLd (by omega)|exact rd_))|(show ∃ _ _, _ ∧ _; refine ex2_ ?_ (by first|with_reducible exact rfl|exact hLd (by omega)|exact rd_)))
          conv => whnf
          refine ⟨i + 1, by omega, by omega, ?_⟩
          (repeat' (conv => whnf)<;>first|exact True.intro|(refine if_ ?_ ?_<;>intro h<;>first|exact h.elim|(exfalso; omega)|skip)|refine vs_ ?_ (by first|exact congrArg (fun x => Chunk.data 1 (rowsL m x)) (e0.trans e9).symm|exact sd_)|refine dv_ ?_|exact fin_|(show ∃ _, _ ∧ _; refine ex_ ?_)|(show ∃ _ _, _ ∧ _; refine ex2_ ?_))
        · obtain ⟨a1, a2, a3, a4⟩ := lead_of (m := m) (r := redBy p m out (L.getD i Z) out.length) (by omega)
          obtain ⟨o1, o2, o3⟩ := echOwn_ok rr hp hrow (by omega)
          have hl3 : Can P N.spec_l01Lead [rowD m (redBy p m out (L.getD i Z) out.length)] (.val (.int .i64 (ldN m (redBy p m out (L.getD i Z) out.length)))) := by rw [← a4]; exact hLd (by omega)
          have e9 : echStep p m out (L.getD i Z) = if (insN p m (ldN m (redBy p m out (L.getD i Z) out.length)) (echOwn p m out (L.getD i Z)) out out.length).2 then (insN p m (ldN m (redBy p m out (L.getD i Z) out.length)) (echOwn p m out (L.getD i Z)) out out.length).1 else (insN p m (ldN m (redBy p m out (L.getD i Z) out.length)) (echOwn p m out (L.getD i Z)) out out.length).1 ++ [echOwn p m out (L.getD i Z)] := by
            unfold echStep; rw [if_neg c]
          have e10 : ∀ q, redBy p m out (L.getD i Z) out.length q * invF p (redBy p m out (L.getD i Z) out.length (ldN m (redBy p m out (L.getD i Z) out.length))) % p = echOwn p m out (L.getD i Z) q := fun q => rfl
          have e11 := hw (ldN m (redBy p m out (L.getD i Z) out.length))
          have e12 := inv_mul hp ⟨by omega, e11.2⟩
          generalize echOwn p m out (L.getD i Z) = own at *
          generalize redBy p m out (L.getD i Z) out.length = w at *
          generalize ldN m w = at_ at *
          generalize hinv : invF p (w at_) = inv at *
          (repeat' (conv => whnf)<;>first|exact True.intro|(refine if_ ?_ ?_<;>intro h<;>first|exact h.elim|(exfalso; omega)|skip)|refine vs_ ?_|refine dv_ ?_|exact fin_|(show ∃ _, _ ∧ _; refine ex_ ?_ (by first|with_reducible exact rfl|exact hl3|exact hinv ▸ hI (by omega) (by omega)|exact rd_))|(show ∃ _ _, _ ∧ _; refine ex2_ ?_ (by first|with_reducible exact rfl|exact hl3|exact hinv ▸ hI (by omega) (by omega)|exact rd_)))
          conv => whnf
          refine vc_loop (α := Nat) 0 (fun q => m - q) (fun q => q ≤ m) [] (fun q => [(5, .row 6 1), (6, .d (.int .i64 i)), (7, .row 8 1), (10, .d (.int .i64 at_)), (11, .d (.int .i64 inv)), (12, .d (.int .i64 q))]) (fun q => [(6, .data 1 (rowsL m out)), (8, .data 1 (row m (prog q own w)))]) lp_ ?_ ?_
          · (repeat' (conv => whnf)<;>first|exact True.intro|(refine if_ ?_ ?_<;>intro h<;>first|exact h.elim|(exfalso; omega)|skip)|refine vs_ ?_ (by first|exact congrArg (fun x => Chunk.data 1 (row m x)) (prog_zero _ _).symm|exact sd_)|refine dv_ ?_|exact fin_|(show ∃ _, _ ∧ _; refine ex_ ?_)|(show ∃ _ _, _ ∧ _; refine ex2_ ?_))
          · intro q hq
            have hwq := hw q
            have hwi := mul_bd (A := 1000) (B := 1000) (x := w q) (y := inv) ⟨hwq.1, by omega⟩ ⟨by omega, by omega⟩
            by_cases hlt3 : m ≤ q
            · have e13 : row m (prog q own w) = row m own := row_ext fun j hj => by unfold prog; rw [if_pos (by omega)]
              rw [e13]
              (repeat' (conv => whnf)<;>first|exact True.intro|(refine if_ ?_ ?_<;>intro h<;>first|exact h.elim|(exfalso; omega)|skip)|refine vs_ ?_|refine dv_ ?_|exact fin_|(show ∃ _, _ ∧ _; refine ex_ ?_)|(show ∃ _ _, _ ∧ _; refine ex2_ ?_))
              conv => whnf
              refine vc_loop (α := Nat) 0 (fun k => out.length - k) (fun k => k ≤ out.length) [] (fun k => [(5, .row 6 1), (6, .d (.int .i64 i)), (7, .d (rowD m own)), (10, .d (.int .i64 at_)), (13, .row 14 1), (14, .d (.bool (insN p m at_ own out k).2)), (15, .d (.int .i64 k))]) (fun k => [(6, .data 1 (rowsL m out)), (14, .data 1 (rowsL m (insN p m at_ own out k).1))]) lp_ ?_ ?_
              · (repeat' (conv => whnf)<;>first|exact True.intro|(refine if_ ?_ ?_<;>intro h<;>first|exact h.elim|(exfalso; omega)|skip)|refine vs_ ?_|refine dv_ ?_|exact fin_|(show ∃ _, _ ∧ _; refine ex_ ?_)|(show ∃ _ _, _ ∧ _; refine ex2_ ?_))
              · intro k hk
                by_cases hlt4 : out.length ≤ k
                · have : k = out.length := by omega
                  subst this
                  have hs9 := insN_len p m at_ own out out.length
                  generalize insN p m at_ own out out.length = s9 at *
                  obtain ⟨nx, put⟩ := s9
                  dsimp only at *
                  cases put
                  · rw [if_neg (by simp)] at e9
                    (repeat' (conv => whnf)<;>first|exact True.intro|(refine if_ ?_ ?_<;>intro h<;>first|exact h.elim|(exfalso; omega)|skip)|refine vs_ ?_|refine dv_ ?_|exact fin_|(show ∃ _, _ ∧ _; refine ex_ ?_)|(show ∃ _ _, _ ∧ _; refine ex2_ ?_))
                    conv => whnf
                    refine ⟨i + 1, by omega, by omega, ?_⟩
                    (repeat' (conv => whnf)<;>first|exact True.intro|(refine if_ ?_ ?_<;>intro h<;>first|exact h.elim|(exfalso; omega)|skip)|refine vs_ ?_ (by first|exact rowsL_app.trans (congrArg (fun x => Chunk.data 1 (rowsL m x)) (e0.trans e9).symm)|exact sd_)|refine dv_ ?_|exact fin_|(show ∃ _, _ ∧ _; refine ex_ ?_)|(show ∃ _ _, _ ∧ _; refine ex2_ ?_))
                  · rw [if_pos rfl] at e9
                    (repeat' (conv => whnf)<;>first|exact True.intro|(refine if_ ?_ ?_<;>intro h<;>first|exact h.elim|(exfalso; omega)|skip)|refine vs_ ?_|refine dv_ ?_|exact fin_|(show ∃ _, _ ∧ _; refine ex_ ?_)|(show ∃ _ _, _ ∧ _; refine ex2_ ?_))
                    conv => whnf
                    refine ⟨i + 1, by omega, by omega, ?_⟩
                    (repeat' (conv => whnf)<;>first|exact True.intro|(refine if_ ?_ ?_<;>intro h<;>first|exact h.elim|(exfalso; omega)|skip)|refine vs_ ?_ (by first|exact congrArg (fun x => Chunk.data 1 (rowsL m x)) (e0.trans e9).symm|exact sd_)|refine dv_ ?_|exact fin_|(show ∃ _, _ ∧ _; refine ex_ ?_)|(show ∃ _ _, _ ∧ _; refine ex2_ ?_))
                · have e14 := (rr.lead k (by omega)).leadF
                  have hl1 : Can P N.spec_l01Lead [rowD m (out.getD k Z)] (.val (.int .i64 (ld k))) := by rw [← e14]; exact hLd (by omega)
                  have e15 : insN p m at_ own out (k + 1) = ((if (insN p m at_ own out k).2 = false ∧ (at_ : Int) < ld k then ((insN p m at_ own out k).1 ++ [own], true) else insN p m at_ own out k).1 ++ [elimR p at_ own (out.getD k Z)], (if (insN p m at_ own out k).2 = false ∧ (at_ : Int) < ld k then ((insN p m at_ own out k).1 ++ [own], true) else insN p m at_ own out k).2) := by
                    rw [← e14]; rfl
                  have hs9 := insN_len p m at_ own out k
                  have hrk := rr.rw _ (getD_mem (show k < out.length by omega))
                  have hrk2 := hrk at_
                  have hless : Can P N.spec_l01Less [.int .i64 p, rowD m (out.getD k Z), rowD m own, .int .i64 (out.getD k Z at_)] (.val (rowD m (elimR p at_ own (out.getD k Z)))) := hL1 (by omega) (hrk.bd (by omega)) (o2.bd (by omega)) (by omega) (by omega)
                  generalize insN p m at_ own out k = s9 at *
                  obtain ⟨nx, put⟩ := s9
                  dsimp only at *
                  cases put
                  · by_cases hgt : (at_ : Int) < ld k
                    · rw [if_pos ⟨rfl, hgt⟩] at e15
                      (repeat' (conv => whnf)<;>first|exact True.intro|(refine if_ ?_ ?_<;>intro h<;>first|exact h.elim|(exfalso; omega)|skip)|refine vs_ ?_|refine dv_ ?_|exact fin_|(show ∃ _, _ ∧ _; refine ex_ ?_ (by first|with_reducible exact rfl|exact hl1|exact hless|exact rd_))|(show ∃ _ _, _ ∧ _; refine ex2_ ?_ (by first|with_reducible exact rfl|exact hl1|exact hless|exact rd_)))
                      conv => whnf
                      refine ⟨k + 1, by omega, by omega, ?_⟩
                      (repeat' (conv => whnf)<;>first|exact True.intro|(refine if_ ?_ ?_<;>intro h<;>first|exact h.elim|(exfalso; omega)|skip)|refine vs_ ?_ (by first|exact congrArg (fun s => AV.d (D.bool (Prod.snd s))) e15.symm | exact rowsL_app2.trans (congrArg (fun s => Chunk.data 1 (rowsL m (Prod.fst s))) e15.symm)|exact sd_)|refine dv_ ?_|exact fin_|(show ∃ _, _ ∧ _; refine ex_ ?_)|(show ∃ _ _, _ ∧ _; refine ex2_ ?_))
                    · rw [if_neg (fun h => hgt h.2)] at e15
                      (repeat' (conv => whnf)<;>first|exact True.intro|(refine if_ ?_ ?_<;>intro h<;>first|exact h.elim|(exfalso; omega)|skip)|refine vs_ ?_|refine dv_ ?_|exact fin_|(show ∃ _, _ ∧ _; refine ex_ ?_ (by first|with_reducible exact rfl|exact hl1|exact hless|exact rd_))|(show ∃ _ _, _ ∧ _; refine ex2_ ?_ (by first|with_reducible exact rfl|exact hl1|exact hless|exact rd_)))
                      conv => whnf
                      refine ⟨k + 1, by omega, by omega, ?_⟩
                      (repeat' (conv => whnf)<;>first|exact True.intro|(refine if_ ?_ ?_<;>intro h<;>first|exact h.elim|(exfalso; omega)|skip)|refine vs_ ?_ (by first|exact congrArg (fun s => AV.d (D.bool (Prod.snd s))) e15.symm | exact rowsL_app.trans (congrArg (fun s => Chunk.data 1 (rowsL m (Prod.fst s))) e15.symm)|exact sd_)|refine dv_ ?_|exact fin_|(show ∃ _, _ ∧ _; refine ex_ ?_)|(show ∃ _ _, _ ∧ _; refine ex2_ ?_))
                  · rw [if_neg (by simp)] at e15
                    (repeat' (conv => whnf)<;>first|exact True.intro|(refine if_ ?_ ?_<;>intro h<;>first|exact h.elim|(exfalso; omega)|skip)|refine vs_ ?_|refine dv_ ?_|exact fin_|(show ∃ _, _ ∧ _; refine ex_ ?_ (by first|with_reducible exact rfl|exact hl1|exact hless|exact rd_))|(show ∃ _ _, _ ∧ _; refine ex2_ ?_ (by first|with_reducible exact rfl|exact hl1|exact hless|exact rd_)))
                    conv => whnf
                    refine ⟨k + 1, by omega, by omega, ?_⟩
                    (repeat' (conv => whnf)<;>first|exact True.intro|(refine if_ ?_ ?_<;>intro h<;>first|exact h.elim|(exfalso; omega)|skip)|refine vs_ ?_ (by first|exact congrArg (fun s => AV.d (D.bool (Prod.snd s))) e15.symm | exact rowsL_app.trans (congrArg (fun s => Chunk.data 1 (rowsL m (Prod.fst s))) e15.symm)|exact sd_)|refine dv_ ?_|exact fin_|(show ∃ _, _ ∧ _; refine ex_ ?_)|(show ∃ _ _, _ ∧ _; refine ex2_ ?_))
            · (repeat' (conv => whnf)<;>first|exact True.intro|(refine if_ ?_ ?_<;>intro h<;>first|exact h.elim|(exfalso; omega)|skip)|refine vs_ ?_|refine dv_ ?_|exact fin_|(show ∃ _, _ ∧ _; refine ex_ ?_)|(show ∃ _ _, _ ∧ _; refine ex2_ ?_))
              conv => whnf
              refine ⟨q + 1, by omega, by omega, ?_⟩
              (repeat' (conv => whnf)<;>first|exact True.intro|(refine if_ ?_ ?_<;>intro h<;>first|exact h.elim|(exfalso; omega)|skip)|refine vs_ ?_ (by first|exact row_prog (e10 q)|exact sd_)|refine dv_ ?_|exact fin_|(show ∃ _, _ ∧ _; refine ex_ ?_)|(show ∃ _ _, _ ∧ _; refine ex2_ ?_))
      · have e1 := (rr.lead k (by omega)).leadF
        have e2 := (rr.lead k (by omega)).1
        have hl1 : Can P N.spec_l01Lead [rowD m (out.getD k Z)] (.val (.int .i64 (ld k))) := by rw [← e1]; exact hLd (by omega)
        have e3 := redBy_rw (p := p) (m := m) (out := out) (by omega) hrow k
        have e4 := e3 (ld k)
        have e5 : lessR p (redBy p m out (L.getD i Z) k (ld k)) (redBy p m out (L.getD i Z) k) (out.getD k Z) = redBy p m out (L.getD i Z) (k + 1) := by
          show _ = lessR p _ _ _
          rw [rr.ldN (by omega)]
        (repeat' (conv => whnf)<;>first|exact True.intro|(refine if_ ?_ ?_<;>intro h<;>first|exact h.elim|(exfalso; omega)|skip)|refine vs_ ?_|refine dv_ ?_|exact fin_|(show ∃ _, _ ∧ _; refine ex_ ?_ (by first|with_reducible exact rfl|exact hl1|exact e5 ▸ hL2 (by omega) (e3.bd (by omega)) ((rr.rw _ (getD_mem (by omega))).bd (by omega)) (by omega) (by omega)|exact rd_))|(show ∃ _ _, _ ∧ _; refine ex2_ ?_ (by first|with_reducible exact rfl|exact hl1|exact e5 ▸ hL2 (by omega) (e3.bd (by omega)) ((rr.rw _ (getD_mem (by omega))).bd (by omega)) (by omega) (by omega)|exact rd_)))
        conv => whnf
        refine ⟨k + 1, by omega, by omega, ?_⟩
        (repeat' (conv => whnf)<;>first|exact True.intro|(refine if_ ?_ ?_<;>intro h<;>first|exact h.elim|(exfalso; omega)|skip)|refine vs_ ?_|refine dv_ ?_|exact fin_|(show ∃ _, _ ∧ _; refine ex_ ?_)|(show ∃ _ _, _ ∧ _; refine ex2_ ?_))
end Go.X
namespace Go.X
open Go Go.RowKit
set_option maxRecDepth 100000
set_option maxHeartbeats 8000000
set_option linter.unusedSimpArgs false
set_option linter.unusedVariables false
variable {P : Program} {N : FN}
theorem c_sSolve (hE : C_sEchelon P N) (hLd : C_sLead P N) (hf : isFn P N.spec_l01Solve (ir_spec_l01Solve N) = true) : C_sSolve P N := by
  intro n L p hn hL hp hR
  have hp2 := prime_bd hp
  have hE' := hE (m := n + 1) (by omega) hL hp hR
  obtain ⟨⟨ld, rr⟩, _⟩ := echN_rr (m := n + 1) hp hR _ (Nat.le_refl _)
  change RR p (n + 1) (echF p (n + 1) L) ld at rr
  by_cases h0 : L = []
  · have e : sSolveF p n L = none := by unfold sSolveF; rw [if_neg (fun h => h.1 h0)]
    rw [e]
    subst h0
    refine can_of hf rfl rfl ?_
    (repeat' (conv => whnf)<;>first|exact True.intro|(refine if_ ?_ ?_<;>intro h<;>first|exact h.elim|(exfalso; omega)|skip)|refine vs_ ?_|refine dv_ ?_|exact fin_|(show ∃ _, _ ∧ _; refine ex_ ?_)|(show ∃ _ _, _ ∧ _; refine ex2_ ?_))
  · have hpos : 0 < L.length := List.length_pos_iff.2 h0
    by_cases h1 : (echF p (n + 1) L).length = n
    · by_cases h2 : ∀ i : Nat, i < n → leadF (n + 1) ((echF p (n + 1) L).getD i Z) = i
      · have e : sSolveF p n L = some fun i => (echF p (n + 1) L).getD i Z n := by unfold sSolveF; rw [if_pos ⟨h0, h1, h2⟩]
        rw [e]
        refine can_of hf rfl rfl ?_
        (repeat' (conv => whnf)<;>first|exact True.intro|(refine if_ ?_ ?_<;>intro h<;>first|exact h.elim|(exfalso; omega)|skip)|refine vs_ ?_|refine dv_ ?_|exact fin_|(show ∃ _, _ ∧ _; refine ex_ ?_ (by first|with_reducible exact rfl|exact hE'|exact rd_rows (i := 0) hpos|exact rd_))|(show ∃ _ _, _ ∧ _; refine ex2_ ?_ (by first|with_reducible exact rfl|exact hE'|exact rd_rows (i := 0) hpos|exact rd_)))
        conv => whnf
        refine vc_loop (α := Nat) 0 (fun i => n - i) (fun i => i ≤ n) [] (fun i => [(6, .d (.int .i64 n)), (7, .d (rowsD (n + 1) (echF p (n + 1) L))), (8, .row 9 1), (9, .d (.int .i64 i))]) (fun i => [(9, .data 1 (row i fun i => (echF p (n + 1) L).getD i Z n))]) lp_ ?_ ?_
        · (repeat' (conv => whnf)<;>first|exact True.intro|(refine if_ ?_ ?_<;>intro h<;>first|exact h.elim|(exfalso; omega)|skip)|refine vs_ ?_|refine dv_ ?_|exact fin_|(show ∃ _, _ ∧ _; refine ex_ ?_)|(show ∃ _ _, _ ∧ _; refine ex2_ ?_))
        · intro i hi
          by_cases hlt : i < n
          · have hl : Can P N.spec_l01Lead [rowD (n + 1) ((echF p (n + 1) L).getD i Z)] (.val (.int .i64 i)) := by rw [← h2 i hlt]; exact hLd (by omega)
            (repeat' (conv => whnf)<;>first|exact True.intro|(refine if_ ?_ ?_<;>intro h<;>first|exact h.elim|(exfalso; omega)|skip)|refine vs_ ?_|refine dv_ ?_|exact fin_|(show ∃ _, _ ∧ _; refine ex_ ?_ (by first|with_reducible exact rfl|exact hl|exact rd_))|(show ∃ _ _, _ ∧ _; refine ex2_ ?_ (by first|with_reducible exact rfl|exact hl|exact rd_)))
            conv => whnf
            refine ⟨i + 1, by omega, by omega, ?_⟩
            (repeat' (conv => whnf)<;>first|exact True.intro|(refine if_ ?_ ?_<;>intro h<;>first|exact h.elim|(exfalso; omega)|skip)|refine vs_ ?_|refine dv_ ?_|exact fin_|(show ∃ _, _ ∧ _; refine ex_ ?_)|(show ∃ _ _, _ ∧ _; refine ex2_ ?_))
          · have : i = n := by omega
            rw [this]
            (repeat' (conv => whnf)<;>first|exact True.intro|(refine if_ ?_ ?_<;>intro h<;>first|exact h.elim|(exfalso; omega)|skip)|refine vs_ ?_|refine dv_ ?_|exact fin_|(show ∃ _, _ ∧ _; refine ex_ ?_)|(show ∃ _ _, _ ∧ _; refine ex2_ ?_))
      · have e : sSolveF p n L = none := by unfold sSolveF; rw [if_neg (fun h => h2 h.2.2)]
        rw [e]
        refine can_of hf rfl rfl ?_
        (repeat' (conv => whnf)<;>first|exact True.intro|(refine if_ ?_ ?_<;>intro h<;>first|exact h.elim|(exfalso; omega)|skip)|refine vs_ ?_|refine dv_ ?_|exact fin_|(show ∃ _, _ ∧ _; refine ex_ ?_ (by first|with_reducible exact rfl|exact hE'|exact rd_rows (i := 0) hpos|exact rd_))|(show ∃ _ _, _ ∧ _; refine ex2_ ?_ (by first|with_reducible exact rfl|exact hE'|exact rd_rows (i := 0) hpos|exact rd_)))
        conv => whnf
        refine vc_loop (α := Nat) 0 (fun i => n - i) (fun i => i ≤ n ∧ ∀ j, j < i → leadF (n + 1) ((echF p (n + 1) L).getD j Z) = (j : Nat)) [] (fun i => [(6, .d (.int .i64 n)), (7, .d (rowsD (n + 1) (echF p (n + 1) L))), (8, .row 9 1), (9, .d (.int .i64 i))]) (fun i => [(9, .data 1 (row i fun i => (echF p (n + 1) L).getD i Z n))]) lp_ ?_ ?_
        · (repeat' (conv => whnf)<;>first|exact True.intro|(refine if_ ?_ ?_<;>intro h<;>first|exact h.elim|(exfalso; omega)|skip)|refine vs_ ?_|refine dv_ ?_|exact fin_|(show ∃ _, _ ∧ _; refine ex_ ?_)|(show ∃ _ _, _ ∧ _; refine ex2_ ?_))
        · rintro i ⟨hi, hx⟩
          have hi2 : i < n := by
            rcases Nat.lt_or_ge i n with h | h
            · exact h
            · exact absurd (fun j hj => hx j (by omega)) h2
          (repeat' (conv => whnf)<;>first|exact True.intro|(refine if_ ?_ ?_<;>intro h<;>first|exact h.elim|(exfalso; omega)|skip)|refine vs_ ?_|refine dv_ ?_|exact fin_|(show ∃ _, _ ∧ _; refine ex_ ?_ (by first|with_reducible exact rfl|exact hLd (by omega)|exact rd_))|(show ∃ _ _, _ ∧ _; refine ex2_ ?_ (by first|with_reducible exact rfl|exact hLd (by omega)|exact rd_)))
          conv => whnf
          refine ⟨i + 1, ⟨by omega, all_succ hx ‹_›⟩, by omega, ?_⟩
          (repeat' (conv => whnf)<;>first|exact True.intro|(refine if_ ?_ ?_<;>intro h<;>first|exact h.elim|(exfalso; omega)|skip)|refine vs_ ?_|refine dv_ ?_|exact fin_|(show ∃ _, _ ∧ _; refine ex_ ?_)|(show ∃ _ _, _ ∧ _; refine ex2_ ?_))
    · have e : sSolveF p n L = none := by unfold sSolveF; rw [if_neg (fun h => h1 h.2.1)]
      rw [e]
      refine can_of hf rfl rfl ?_
      (repeat' (conv => whnf)<;>first|exact True.intro|(refine if_ ?_ ?_<;>intro h<;>first|exact h.elim|(exfalso; omega)|skip)|refine vs_ ?_|refine dv_ ?_|exact fin_|(show ∃ _, _ ∧ _; refine ex_ ?_ (by first|with_reducible exact rfl|exact hE'|exact rd_rows (i := 0) hpos|exact rd_))|(show ∃ _ _, _ ∧ _; refine ex2_ ?_ (by first|with_reducible exact rfl|exact hE'|exact rd_rows (i := 0) hpos|exact rd_)))
end Go.X
namespace Go.X
open Go Go.RowKit
set_option maxRecDepth 100000
set_option maxHeartbeats 8000000
set_option linter.unusedSimpArgs false
set_option linter.unusedVariables false
variable {P : Program} {N : FN}
theorem findR_rw {a : Alg} (h : AlgOk a) (i k : Nat) : Rw a.p (findR a i k) := fun j => by
  have := prime_bd h.p
  unfold findR
  split
  · exact h.T j i k
  · split <;> omega
theorem findIn_rw {a : Alg} (h : AlgOk a) (i : Nat) : ∀ k, RwL a.p (findIn a i k)
  | 0 => fun r hr => by cases hr
  | k + 1 => fun r hr => by
    rcases List.mem_append.1 hr with hr | hr
    · exact findIn_rw h i k r hr
    · simp only [List.mem_singleton] at hr; subst hr; exact findR_rw h i k
theorem findOut_rw {a : Alg} (h : AlgOk a) : ∀ i, RwL a.p (findOut a i)
  | 0 => fun r hr => by cases hr
  | i + 1 => fun r hr => by
    rcases List.mem_append.1 hr with hr | hr
    · exact findOut_rw h i r hr
    · exact findIn_rw h i _ r hr
theorem sq_le {n : Nat} (h : n ≤ 6) : n * n ≤ 36 := by
  have : n = 0 ∨ n = 1 ∨ n = 2 ∨ n = 3 ∨ n = 4 ∨ n = 5 ∨ n = 6 := by omega
  rcases this with rfl | rfl | rfl | rfl | rfl | rfl | rfl <;> omega
theorem sol_rw {p : Int} {n : Nat} {L : List Row} {r : Row} (hp : p ∈ primes) (hR : RwL p L) (h : sSolveF p n L = some r) : Rw p r := by
  have hp2 := prime_bd hp
  unfold sSolveF at h
  split at h
  · simp only [Option.some.injEq] at h; subst h
    obtain ⟨⟨ld, rr⟩, _⟩ := echN_rr (m := n + 1) hp hR _ (Nat.le_refl _)
    exact fun i => (rr.rw.get (by omega) i) n
  · cases h
theorem rowsL_appR {m z : Nat} {L : List Row} {l : List (List D)} {r : Row} (e : l = row m r) : Chunk.data z (rowsL m L ++ [[.lst 1 l]]) = .data z (rowsL m (L ++ [r])) := by subst e; exact rowsL_app
theorem row_app' {m : Nat} {f : Nat → Int} {x : Int} (hx : x = f m) : row m f ++ [[.int .i64 x]] = row (m + 1) f := by
  subst hx; unfold row; rw [arr_succ]
theorem vec_prog {m : Nat} {r : Row} : vecL (prog m (vecR m r) Z) = vecL (vecR m r) := cel_ext fun j _ => by
  unfold prog vecR Z
  split
  · rfl
  · rfl
theorem c_sFind (hS : C_sSolve P N) (hB : C_sBasis P N) (hT : C_sTimes P N) (hf : isFn P N.spec_l01Find (ir_spec_l01Find N) = true) : C_sFind P N := by
  intro a ha
  have hp2 := prime_bd ha.p
  have hn := ha.n
  have hRL := findOut_rw ha a.n.toNat
  have hlen : (findOut a a.n.toNat).length ≤ 36 := by rw [findOut_len]; exact sq_le (by omega)
  have hS' := hS (n := a.n.toNat) (L := findOut a a.n.toNat) (by omega) (by omega) ha.p hRL
  refine can_of hf rfl (by cases findF a <;> rfl) ?_
  (repeat' (conv => whnf)<;>first|exact True.intro|(refine if_ ?_ ?_<;>intro h<;>first|exact h.elim|(exfalso; omega)|skip)|refine vs_ ?_|refine dv_ ?_|exact fin_|(show ∃ _, _ ∧ _; refine ex_ ?_)|(show ∃ _ _, _ ∧ _; refine ex2_ ?_))
  conv => whnf
  refine vc_loop (α := Nat) 0 (fun i => a.n.toNat - i) (fun i => i ≤ a.n.toNat) [] (fun i => [(4, .row 5 1), (5, .d (.int .i64 i))]) (fun i => [(5, .data 1 (rowsL (a.n.toNat + 1) (findOut a i)))]) lp_ ?_ ?_
  · (repeat' (conv => whnf)<;>first|exact True.intro|(refine if_ ?_ ?_<;>intro h<;>first|exact h.elim|(exfalso; omega)|skip)|refine vs_ ?_|refine dv_ ?_|exact fin_|(show ∃ _, _ ∧ _; refine ex_ ?_)|(show ∃ _ _, _ ∧ _; refine ex2_ ?_))
  · intro i hi
    by_cases hlt : i < a.n.toNat
    · have hlo : (findOut a i).length ≤ 36 := by
        rw [findOut_len]
        exact Nat.le_trans (Nat.mul_le_mul_right _ (by omega)) (sq_le (show a.n.toNat ≤ 6 by omega))
      (repeat' (conv => whnf)<;>first|exact True.intro|(refine if_ ?_ ?_<;>intro h<;>first|exact h.elim|(exfalso; omega)|skip)|refine vs_ ?_|refine dv_ ?_|exact fin_|(show ∃ _, _ ∧ _; refine ex_ ?_)|(show ∃ _ _, _ ∧ _; refine ex2_ ?_))
      conv => whnf
      refine vc_loop (α := Nat) 0 (fun k => a.n.toNat - k) (fun k => k ≤ a.n.toNat) [] (fun k => [(4, .row 5 1), (5, .d (.int .i64 i)), (6, .d (.int .i64 k))]) (fun k => [(5, .data 1 (rowsL (a.n.toNat + 1) (findOut a i ++ findIn a i k)))]) lp_ ?_ ?_
      · (repeat' (conv => whnf)<;>first|exact True.intro|(refine if_ ?_ ?_<;>intro h<;>first|exact h.elim|(exfalso; omega)|skip)|refine vs_ ?_ (by first|exact congrArg (fun x => Chunk.data 1 (rowsL (a.n.toNat + 1) x)) (List.append_nil _).symm|exact sd_)|refine dv_ ?_|exact fin_|(show ∃ _, _ ∧ _; refine ex_ ?_)|(show ∃ _ _, _ ∧ _; refine ex2_ ?_))
      · intro k hk
        have hli := findIn_len a i k
        by_cases hlt2 : k < a.n.toNat
        · (repeat' (conv => whnf)<;>first|exact True.intro|(refine if_ ?_ ?_<;>intro h<;>first|exact h.elim|(exfalso; omega)|skip)|refine vs_ ?_|refine dv_ ?_|exact fin_|(show ∃ _, _ ∧ _; refine ex_ ?_)|(show ∃ _ _, _ ∧ _; refine ex2_ ?_))
          conv => whnf
          refine vc_loop (α := Nat) 0 (fun j => a.n.toNat - j) (fun j => j ≤ a.n.toNat) [] (fun j => [(4, .row 5 1), (5, .d (.int .i64 i)), (6, .d (.int .i64 k)), (7, .row 8 1), (8, .d (.int .i64 j))]) (fun j => [(5, .data 1 (rowsL (a.n.toNat + 1) (findOut a i ++ findIn a i k))), (8, .data 1 (row j (findR a i k)))]) lp_ ?_ ?_
          · (repeat' (conv => whnf)<;>first|exact True.intro|(refine if_ ?_ ?_<;>intro h<;>first|exact h.elim|(exfalso; omega)|skip)|refine vs_ ?_|refine dv_ ?_|exact fin_|(show ∃ _, _ ∧ _; refine ex_ ?_)|(show ∃ _ _, _ ∧ _; refine ex2_ ?_))
          · intro j hj
            have h3 := ha.T j i k
            (repeat' (conv => whnf)<;>first|exact True.intro|(refine if_ ?_ ?_<;>intro h<;>first|exact h.elim|(exfalso; omega)|skip)|refine vs_ ?_|refine dv_ ?_|exact fin_|(show ∃ _, _ ∧ _; refine ex_ ?_)|(show ∃ _ _, _ ∧ _; refine ex2_ ?_))
            · conv => whnf
              refine ⟨j + 1, by omega, by omega, ?_⟩
              (repeat' (conv => whnf)<;>first|exact True.intro|(refine if_ ?_ ?_<;>intro h<;>first|exact h.elim|(exfalso; omega)|skip)|refine vs_ ?_ (by first|exact row_app (by unfold findR; rw [if_pos (by omega)])|exact sd_)|refine dv_ ?_|exact fin_|(show ∃ _, _ ∧ _; refine ex_ ?_)|(show ∃ _ _, _ ∧ _; refine ex2_ ?_))
            · have : j = a.n.toNat := by omega
              conv => whnf
              refine ⟨k + 1, by omega, by omega, ?_⟩
              have e1 : (row j (findR a i k) ++ [[.int .i64 1]] : List (List D)) = row (a.n.toNat + 1) (findR a i k) := by
                rw [this]; exact row_app' (by unfold findR; rw [if_neg (by omega), if_pos (by omega)])
              (repeat' (conv => whnf)<;>first|exact True.intro|(refine if_ ?_ ?_<;>intro h<;>first|exact h.elim|(exfalso; omega)|skip)|refine vs_ ?_ (by first|exact (rowsL_appR e1).trans (congrArg (fun x => Chunk.data 1 (rowsL (a.n.toNat + 1) x)) (List.append_assoc ..))|exact sd_)|refine dv_ ?_|exact fin_|(show ∃ _, _ ∧ _; refine ex_ ?_)|(show ∃ _ _, _ ∧ _; refine ex2_ ?_))
            · have : j = a.n.toNat := by omega
              conv => whnf
              refine ⟨k + 1, by omega, by omega, ?_⟩
              have e1 : (row j (findR a i k) ++ [[.int .i64 0]] : List (List D)) = row (a.n.toNat + 1) (findR a i k) := by
                rw [this]; exact row_app' (by unfold findR; rw [if_neg (by omega), if_neg (by omega)])
              (repeat' (conv => whnf)<;>first|exact True.intro|(refine if_ ?_ ?_<;>intro h<;>first|exact h.elim|(exfalso; omega)|skip)|refine vs_ ?_ (by first|exact (rowsL_appR e1).trans (congrArg (fun x => Chunk.data 1 (rowsL (a.n.toNat + 1) x)) (List.append_assoc ..))|exact sd_)|refine dv_ ?_|exact fin_|(show ∃ _, _ ∧ _; refine ex_ ?_)|(show ∃ _ _, _ ∧ _; refine ex2_ ?_))
        · have : k = a.n.toNat := by omega
          subst this
          (repeat' (conv => whnf)<;>first|exact True.intro|(refine if_ ?_ ?_<;>intro h<;>first|exact h.elim|(exfalso; omega)|skip)|refine vs_ ?_|refine dv_ ?_|exact fin_|(show ∃ _, _ ∧ _; refine ex_ ?_)|(show ∃ _ _, _ ∧ _; refine ex2_ ?_))
          conv => whnf
          refine ⟨i + 1, by omega, by omega, ?_⟩
          (repeat' (conv => whnf)<;>first|exact True.intro|(refine if_ ?_ ?_<;>intro h<;>first|exact h.elim|(exfalso; omega)|skip)|refine vs_ ?_|refine dv_ ?_|exact fin_|(show ∃ _, _ ∧ _; refine ex_ ?_)|(show ∃ _ _, _ ∧ _; refine ex2_ ?_))
    · have : i = a.n.toNat := by omega
      subst this
      cases hsol : sSolveF a.p a.n.toNat (findOut a a.n.toNat) with
      | none =>
        have e1 : findF a = none := by unfold findF; rw [hsol]
        rw [hsol] at hS'
        rw [e1]
        (repeat' (conv => whnf)<;>first|exact True.intro|(refine if_ ?_ ?_<;>intro h<;>first|exact h.elim|(exfalso; omega)|skip)|refine vs_ ?_|refine dv_ ?_|exact fin_|(show ∃ _, _ ∧ _; refine ex_ ?_ (by first|with_reducible exact rfl|exact hS'|exact rd_))|(show ∃ _ _, _ ∧ _; refine ex2_ ?_ (by first|with_reducible exact rfl|exact hS'|exact rd_)))
      | some r =>
        have hr := sol_rw ha.p hRL hsol
        have hvb : Byts (vecR a.n.toNat r) := fun q => by
          have := hr q
          unfold vecR; split <;> omega
        rw [hsol] at hS'
        have hbb := basV_byt
        have common : ∀ (x : Option (Nat → Int)), findF a = x → (x = some (vecR a.n.toNat r) ∧ (∀ i : Nat, i < a.n.toNat → VEq (timesV a (basV i) (vecR a.n.toNat r)) (basV i)) ∨ x = none ∧ ¬ ∀ i : Nat, i < a.n.toNat → VEq (timesV a (basV i) (vecR a.n.toNat r)) (basV i)) := by
          rintro x rfl
          unfold findF
          rw [hsol]; dsimp only
          by_cases hall : ∀ i : Nat, i < a.n.toNat → VEq (timesV a (basV i) (vecR a.n.toNat r)) (basV i)
          · left; rw [if_pos hall]; exact ⟨rfl, hall⟩
          · right; rw [if_neg hall]; exact ⟨rfl, hall⟩
        (repeat' (conv => whnf)<;>first|exact True.intro|(refine if_ ?_ ?_<;>intro h<;>first|exact h.elim|(exfalso; omega)|skip)|refine vs_ ?_|refine dv_ ?_|exact fin_|(show ∃ _, _ ∧ _; refine ex_ ?_ (by first|with_reducible exact rfl|exact hS'|exact rd_))|(show ∃ _ _, _ ∧ _; refine ex2_ ?_ (by first|with_reducible exact rfl|exact hS'|exact rd_)))
        conv => whnf
        refine vc_loop (α := Nat) 0 (fun i => a.n.toNat - i) (fun i => i ≤ a.n.toNat) [] (fun i => [(9, .d (rowD a.n.toNat r)), (11, .ptr 12 6 0 0), (12, .d (.int .i64 i))]) (fun i => [(12, .data 6 [vecL (prog i (vecR a.n.toNat r) Z)])]) lp_ ?_ ?_
        · (repeat' (conv => whnf)<;>first|exact True.intro|(refine if_ ?_ ?_<;>intro h<;>first|exact h.elim|(exfalso; omega)|skip)|refine vs_ ?_ (by first|exact zeros6 (fun i _ => by simp [prog, Z])|exact sd_)|refine dv_ ?_|exact fin_|(show ∃ _, _ ∧ _; refine ex_ ?_)|(show ∃ _ _, _ ∧ _; refine ex2_ ?_))
        · intro i hi
          have h1 := hr i
          by_cases hlt2 : i < a.n.toNat
          · (repeat' (conv => whnf)<;>first|exact True.intro|(refine if_ ?_ ?_<;>intro h<;>first|exact h.elim|(exfalso; omega)|skip)|refine vs_ ?_|refine dv_ ?_|exact fin_|(show ∃ _, _ ∧ _; refine ex_ ?_)|(show ∃ _ _, _ ∧ _; refine ex2_ ?_))
            conv => whnf
            refine ⟨i + 1, by omega, by omega, ?_⟩
            (repeat' (conv => whnf)<;>first|exact True.intro|(refine if_ ?_ ?_<;>intro h<;>first|exact h.elim|(exfalso; omega)|skip)|refine vs_ ?_ (by first|exact st_prog (by unfold vecR; rw [if_pos hlt2])|exact sd_)|refine dv_ ?_|exact fin_|(show ∃ _, _ ∧ _; refine ex_ ?_)|(show ∃ _ _, _ ∧ _; refine ex2_ ?_))
          · have : i = a.n.toNat := by omega
            rw [this, vec_prog]
            (repeat' (conv => whnf)<;>first|exact True.intro|(refine if_ ?_ ?_<;>intro h<;>first|exact h.elim|(exfalso; omega)|skip)|refine vs_ ?_|refine dv_ ?_|exact fin_|(show ∃ _, _ ∧ _; refine ex_ ?_)|(show ∃ _ _, _ ∧ _; refine ex2_ ?_))
            conv => whnf
            refine vc_loop (α := Nat) 0 (fun j => a.n.toNat - j) (fun j => j ≤ a.n.toNat ∧ ∀ j', j' < j → VEq (timesV a (basV j') (vecR a.n.toNat r)) (basV j')) [] (fun j => [(13, .d (.int .i64 j))]) (fun j => []) lp_ ?_ ?_
            · (repeat' (conv => whnf)<;>first|exact True.intro|(refine if_ ?_ ?_<;>intro h<;>first|exact h.elim|(exfalso; omega)|skip)|refine vs_ ?_|refine dv_ ?_|exact fin_|(show ∃ _, _ ∧ _; refine ex_ ?_)|(show ∃ _ _, _ ∧ _; refine ex2_ ?_))
            · rintro j ⟨hj, hx⟩
              (repeat' (conv => whnf)<;>first|exact True.intro|(refine if_ ?_ ?_<;>intro h<;>first|exact h.elim|(exfalso; omega)|skip)|refine vs_ ?_ (by first|exact ⟨conf_vec _, conf_vec _⟩|exact sd_)|refine dv_ ?_|exact fin_|(show ∃ _, _ ∧ _; refine ex_ ?_ (by first|with_reducible exact rfl|exact hB (by omega)|exact hT ha.b (hbb _) hvb (by omega) (by omega)|exact eq_vec|exact rd_))|(show ∃ _ _, _ ∧ _; refine ex2_ ?_ (by first|with_reducible exact rfl|exact hB (by omega)|exact hT ha.b (hbb _) hvb (by omega) (by omega)|exact eq_vec|exact rd_)))
              · conv => whnf
                rcases common _ rfl with ⟨e, h⟩ | ⟨e, h⟩
                · exact absurd (h j (by omega)) ‹_›
                · rw [e]; rfl
              · conv => whnf
                refine ⟨j + 1, ⟨by omega, all_succ hx ‹_›⟩, by omega, ?_⟩
                (repeat' (conv => whnf)<;>first|exact True.intro|(refine if_ ?_ ?_<;>intro h<;>first|exact h.elim|(exfalso; omega)|skip)|refine vs_ ?_|refine dv_ ?_|exact fin_|(show ∃ _, _ ∧ _; refine ex_ ?_)|(show ∃ _ _, _ ∧ _; refine ex2_ ?_))
              · conv => whnf
                rcases common _ rfl with ⟨e, h⟩ | ⟨e, h⟩
                · rw [e]; rfl
                · exact absurd (fun j' hj' => hx j' (by omega)) h
end Go.X
namespace Go.X
open Go Go.RowKit
set_option maxRecDepth 100000
set_option maxHeartbeats 8000000
set_option linter.unusedSimpArgs false
set_option linter.unusedVariables false
variable {P : Program} {N : FN}
theorem c_sUnit (hF : C_sFind P N) (hf : isFn P N.spec_l01Unit (ir_spec_l01Unit N) = true) : C_sUnit P N := by
  intro a ha
  have hF' := hF ha
  cases hu : findF a with
  | none =>
    rw [hu] at hF'
    refine can_of hf rfl rfl ?_
    (repeat' (conv => whnf)<;>first|exact True.intro|(refine if_ ?_ ?_<;>intro h<;>first|exact h.elim|(exfalso; omega)|skip)|refine vs_ ?_|refine dv_ ?_|exact fin_|(show ∃ _, _ ∧ _; refine ex_ ?_ (by first|with_reducible exact rfl|exact hF'|exact rd_))|(show ∃ _ _, _ ∧ _; refine ex2_ ?_ (by first|with_reducible exact rfl|exact hF'|exact rd_)))
  | some u =>
    rw [hu] at hF'
    refine can_of hf rfl rfl ?_
    (repeat' (conv => whnf)<;>first|exact True.intro|(refine if_ ?_ ?_<;>intro h<;>first|exact h.elim|(exfalso; omega)|skip)|refine vs_ ?_|refine dv_ ?_|exact fin_|(show ∃ _, _ ∧ _; refine ex_ ?_ (by first|with_reducible exact rfl|exact hF'|exact rd_))|(show ∃ _ _, _ ∧ _; refine ex2_ ?_ (by first|with_reducible exact rfl|exact hF'|exact rd_)))
theorem basV_byt1 (i : Nat) : Byts (basV i) := fun j => by unfold basV; split <;> omega
theorem c_sAlgebra (hSh : C_sShape P N) (hF : C_sFind P N) (hB : C_sBasis P N) (hT : C_sTimes P N) (hf : isFn P N.spec_l01Algebra (ir_spec_l01Algebra N) = true) : C_sAlgebra P N := by
  intro a hb hok
  refine can_of hf rfl rfl ?_
  by_cases hs : ShapeP a
  · have ha := hok hs
    have hn := ha.n
    have hp2 := prime_bd ha.p
    have hbb := basV_byt1
    have hF' := hF ha
    have hsb : Can P N.spec_l01Shape [algD a] (.val (.bool true)) := by have := hSh hb; rwa [dB_t hs] at this
    (repeat' (conv => whnf)<;>first|exact True.intro|(refine if_ ?_ ?_<;>intro h<;>first|exact h.elim|(exfalso; omega)|skip)|refine vs_ ?_|refine dv_ ?_|exact fin_|(show ∃ _, _ ∧ _; refine ex_ ?_ (by first|with_reducible exact rfl|exact hsb|exact rd_))|(show ∃ _ _, _ ∧ _; refine ex2_ ?_ (by first|with_reducible exact rfl|exact hsb|exact rd_)))
    conv => whnf
    refine vc_loop (α := Nat) 0 (fun i => a.n.toNat - i) (fun i => i ≤ a.n.toNat ∧ ∀ i', i' < i → ∀ j k : Nat, (j : Int) < a.n → (k : Int) < a.n → VEq (timesV a (a.T i' j) (basV k)) (timesV a (basV i') (a.T j k))) [] (fun i => [(3, .d (.int .i64 i))]) (fun i => []) lp_ ?_ ?_
    · (repeat' (conv => whnf)<;>first|exact True.intro|(refine if_ ?_ ?_<;>intro h<;>first|exact h.elim|(exfalso; omega)|skip)|refine vs_ ?_|refine dv_ ?_|exact fin_|(show ∃ _, _ ∧ _; refine ex_ ?_)|(show ∃ _ _, _ ∧ _; refine ex2_ ?_))
    · rintro i ⟨hi, hx⟩
      by_cases hlt : i < a.n.toNat
      · (repeat' (conv => whnf)<;>first|exact True.intro|(refine if_ ?_ ?_<;>intro h<;>first|exact h.elim|(exfalso; omega)|skip)|refine vs_ ?_|refine dv_ ?_|exact fin_|(show ∃ _, _ ∧ _; refine ex_ ?_)|(show ∃ _ _, _ ∧ _; refine ex2_ ?_))
        conv => whnf
        refine vc_loop (α := Nat) 0 (fun j => a.n.toNat - j) (fun j => j ≤ a.n.toNat ∧ ∀ j', j' < j → ∀ k : Nat, (k : Int) < a.n → VEq (timesV a (a.T i j') (basV k)) (timesV a (basV i) (a.T j' k))) [] (fun j => [(3, .d (.int .i64 i)), (4, .d (.int .i64 j))]) (fun j => []) lp_ ?_ ?_
        · (repeat' (conv => whnf)<;>first|exact True.intro|(refine if_ ?_ ?_<;>intro h<;>first|exact h.elim|(exfalso; omega)|skip)|refine vs_ ?_|refine dv_ ?_|exact fin_|(show ∃ _, _ ∧ _; refine ex_ ?_)|(show ∃ _ _, _ ∧ _; refine ex2_ ?_))
        · rintro j ⟨hj, hy⟩
          (repeat' (conv => whnf)<;>first|exact True.intro|(refine if_ ?_ ?_<;>intro h<;>first|exact h.elim|(exfalso; omega)|skip)|refine vs_ ?_|refine dv_ ?_|exact fin_|(show ∃ _, _ ∧ _; refine ex_ ?_)|(show ∃ _ _, _ ∧ _; refine ex2_ ?_))
          · conv => whnf
            refine vc_loop (α := Nat) 0 (fun k => a.n.toNat - k) (fun k => k ≤ a.n.toNat ∧ ∀ k', k' < k → VEq (timesV a (a.T i j) (basV k')) (timesV a (basV i) (a.T j k'))) [] (fun k => [(3, .d (.int .i64 i)), (4, .d (.int .i64 j)), (5, .d (.int .i64 k))]) (fun k => []) lp_ ?_ ?_
            · (repeat' (conv => whnf)<;>first|exact True.intro|(refine if_ ?_ ?_<;>intro h<;>first|exact h.elim|(exfalso; omega)|skip)|refine vs_ ?_|refine dv_ ?_|exact fin_|(show ∃ _, _ ∧ _; refine ex_ ?_)|(show ∃ _ _, _ ∧ _; refine ex2_ ?_))
            · rintro k ⟨hk, hz⟩
              (repeat' (conv => whnf)<;>first|exact True.intro|(refine if_ ?_ ?_<;>intro h<;>first|exact h.elim|(exfalso; omega)|skip)|refine vs_ ?_ (by first|exact ⟨conf_vec _, conf_vec _⟩|exact sd_)|refine dv_ ?_|exact fin_|(show ∃ _, _ ∧ _; refine ex_ ?_ (by first|with_reducible exact rfl|exact hB (by omega)|exact hT hb (hb.1 i j) (hbb _) (by omega) (by omega)|exact hT hb (hbb _) (hb.1 j k) (by omega) (by omega)|exact eq_vec|exact rd_))|(show ∃ _ _, _ ∧ _; refine ex2_ ?_ (by first|with_reducible exact rfl|exact hB (by omega)|exact hT hb (hb.1 i j) (hbb _) (by omega) (by omega)|exact hT hb (hbb _) (hb.1 j k) (by omega) (by omega)|exact eq_vec|exact rd_)))
              · conv => whnf
                exact no (fun h => absurd (h.2.1 i j k (by omega) (by omega) (by omega)) ‹_›)
              · conv => whnf
                refine ⟨k + 1, ⟨by omega, all_succ hz ‹_›⟩, by omega, ?_⟩
                (repeat' (conv => whnf)<;>first|exact True.intro|(refine if_ ?_ ?_<;>intro h<;>first|exact h.elim|(exfalso; omega)|skip)|refine vs_ ?_|refine dv_ ?_|exact fin_|(show ∃ _, _ ∧ _; refine ex_ ?_)|(show ∃ _ _, _ ∧ _; refine ex2_ ?_))
              · conv => whnf
                refine ⟨j + 1, ⟨by omega, all_succ hy (fun k' hk' => hz k' (by omega))⟩, by omega, ?_⟩
                (repeat' (conv => whnf)<;>first|exact True.intro|(refine if_ ?_ ?_<;>intro h<;>first|exact h.elim|(exfalso; omega)|skip)|refine vs_ ?_|refine dv_ ?_|exact fin_|(show ∃ _, _ ∧ _; refine ex_ ?_)|(show ∃ _ _, _ ∧ _; refine ex2_ ?_))
          · conv => whnf
            refine ⟨i + 1, ⟨by omega, all_succ hx (fun j' k' hj' hk' => hy j' (by omega) k' hk')⟩, by omega, ?_⟩
            (repeat' (conv => whnf)<;>first|exact True.intro|(refine if_ ?_ ?_<;>intro h<;>first|exact h.elim|(exfalso; omega)|skip)|refine vs_ ?_|refine dv_ ?_|exact fin_|(show ∃ _, _ ∧ _; refine ex_ ?_)|(show ∃ _ _, _ ∧ _; refine ex2_ ?_))
      · have hass : AssocP a := fun i' j k h1 h2 h3 => hx i' (by omega) j k h2 h3
        cases hu : findF a with
        | none =>
          rw [hu] at hF'
          (repeat' (conv => whnf)<;>first|exact True.intro|(refine if_ ?_ ?_<;>intro h<;>first|exact h.elim|(exfalso; omega)|skip)|refine vs_ ?_|refine dv_ ?_|exact fin_|(show ∃ _, _ ∧ _; refine ex_ ?_ (by first|with_reducible exact rfl|exact hF'|exact rd_))|(show ∃ _ _, _ ∧ _; refine ex2_ ?_ (by first|with_reducible exact rfl|exact hF'|exact rd_)))
          all_goals (conv => whnf)
          all_goals exact no (fun h => by simp at h)
        | some u =>
          rw [hu] at hF'
          (repeat' (conv => whnf)<;>first|exact True.intro|(refine if_ ?_ ?_<;>intro h<;>first|exact h.elim|(exfalso; omega)|skip)|refine vs_ ?_|refine dv_ ?_|exact fin_|(show ∃ _, _ ∧ _; refine ex_ ?_ (by first|with_reducible exact rfl|exact hF'|exact rd_))|(show ∃ _ _, _ ∧ _; refine ex2_ ?_ (by first|with_reducible exact rfl|exact hF'|exact rd_)))
          all_goals (conv => whnf)
          all_goals exact yes ⟨hs, hass, rfl⟩
  · have hsb : Can P N.spec_l01Shape [algD a] (.val (.bool false)) := by have := hSh hb; rwa [dB_f hs] at this
    (repeat' (conv => whnf)<;>first|exact True.intro|(refine if_ ?_ ?_<;>intro h<;>first|exact h.elim|(exfalso; omega)|skip)|refine vs_ ?_|refine dv_ ?_|exact fin_|(show ∃ _, _ ∧ _; refine ex_ ?_ (by first|with_reducible exact rfl|exact hsb|exact rd_))|(show ∃ _ _, _ ∧ _; refine ex2_ ?_ (by first|with_reducible exact rfl|exact hsb|exact rd_)))
    conv => whnf
    exact no (fun h => hs h.1)
end Go.X
