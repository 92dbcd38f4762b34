import Derived.Test.YtiefibobgdbcdaaK17
import Derived.Test.YtiefibobgdbcdaaW8
import Derived.Test.YtiefibobgdbcdaaW11
set_option linter.all false
namespace Go.X
open Go Go.RowKit
set_option maxRecDepth 100000
set_option maxHeartbeats 8000000
set_option linter.unusedVariables false
variable {P : Program} {N : FN}
theorem iN_get0 {L : List Nat} (h : 0 < L.length) : get2 (iN L) (Int.toNat 0) 0 = some (.int .i64 ((L.getD 0 0 : Nat) : Int)) := get2_iN (i := 0) h
theorem reg_0 {g : Grp} {t : Tb} {q : Nat} : dB (regC g t q 0) = true := dB_t fun y hy => absurd hy (by omega)
theorem reg_s {g : Grp} {t : Tb} {q y x : Nat} (hx : (cS g q).getD 0 0 = x) : dB (regC g t q (y + 1)) = (dB (regC g t q y) && dB (regP g t x y)) := by
  subst hx
  have e : regC g t q (y + 1) ↔ regC g t q y ∧ regP g t ((cS g q).getD 0 0) y := ⟨fun h => ⟨fun z hz => h z (by omega), h y (by omega)⟩, fun ⟨h1, h2⟩ z hz => by
    by_cases e : z = y
    · subst e; exact h2
    · exact h1 z (by omega)⟩
  rw [dB_congr e]
  by_cases a : regC g t q y
  · by_cases b : regP g t ((cS g q).getD 0 0) y
    · rw [dB_t a, dB_t b, dB_t ⟨a, b⟩]; rfl
    · rw [dB_t a, dB_f b, dB_f (fun h => b h.2)]; rfl
  · rw [dB_f a, dB_f (fun h => a h.1)]; rfl
theorem reg_end {g : Grp} {t : Tb} {q n : Nat} (h : n = g.n.toNat) : regL g t (q + 1) = if dB (regC g t q n) = true then regL g t q ++ [((q : Nat) : Int)] else regL g t q := by
  subst h
  exact regL_s g t q
theorem regR_ne {g : Grp} {t : Tb} {c : Int} (h : ¬ c = 0) : regR g t c = .tupO 1 [] [] [.int .i64 c] := by unfold regR; rw [if_neg h]
theorem regR_0 {g : Grp} {t : Tb} : regR g t 0 = .tupO 1 (iL (regL g t (clsS g).length)) [] [.int .i64 0] := by unfold regR; rw [if_pos rfl]
theorem c_sReg (hT : C_sTwist P N) (hC : C_sClasses P N) (hf : isFn P N.spec_RegularClasses (ir_spec_RegularClasses N) = true) : C_sReg P N := by
  intro g p t hb ht
  have hat := grpAt_one g
  have hgl := hat.all
  have hT' := hT (p := p) hb ht
  by_cases c : twiG g p t = 0
  · obtain ⟨hG, hp, hs⟩ := twiG_zero c
    rw [c] at hT' ⊢
    rw [regR_0]
    have hn := hG.1
    have hC' := hC hb hG
    have hcl := clsS_len g
    have hdl := clD_len g
    have hl := tbL_len t
    obtain ⟨n, hnn⟩ : ∃ n, n = g.n.toNat := ⟨_, rfl⟩
    refine can_of hf rfl rfl ?_
    (repeat' (conv => whnf)<;>first|exact True.intro|(refine if_ ?_ ?_<;>intro h<;>first|exact h.elim|(exfalso; omega)|skip)|refine vs_ ?_|refine dv_ ?_|exact fin_|(show ∃ _, _ ∧ _; refine ex_ ?_ (by first|with_reducible exact rfl|with_reducible exact hgl|exact hT'|exact hC'|exact rd_))|(show ∃ _ _, _ ∧ _; refine ex2_ ?_ (by first|with_reducible exact rfl|with_reducible exact hgl|exact hT'|exact hC'|exact rd_)))
    conv => whnf
    refine vc_loop (α := Nat) 0 (fun q => (clsS g).length - q) (fun q => q ≤ (clsS g).length) [] (fun q => [(2, .d (tbD t)), (4, .ptr 5 37 0 0), (9, .row 24 1), (10, .row 11 1), (11, .d (.int .i64 q))]) (fun q => [(5, .data 37 [grpL g]), (24, .data 1 (clD g)), (11, .data 1 (iL (regL g t q)))]) lp_ ?_ ?_
    · (repeat' (conv => whnf)<;>first|exact True.intro|(refine if_ ?_ ?_<;>intro h<;>first|exact h.elim|(exfalso; omega)|skip)|refine vs_ ?_|refine dv_ ?_|exact fin_|(show ∃ _, _ ∧ _; refine ex_ ?_)|(show ∃ _ _, _ ∧ _; refine ex2_ ?_))
    · intro q hq
      have hrl : (iL (regL g t q)).length = (regL g t q).length := iL_len _
      have hrk := regL_len g t q
      by_cases hlt : q < (clsS g).length
      · have hc0 := (cS_len hb hG hlt).1
        have hx6 := cS_at hlt hc0
        have hin : (iN (cS g q)).length = (cS g q).length := iN_len _
        have hg0 := iN_get0 hc0
        have hrs := reg_end (t := t) (q := q) hnn
        have hrg := fun y => reg_s (g := g) (t := t) (q := q) (y := y) rfl
        generalize hxe : (cS g q).getD 0 0 = x at *
        (repeat' (conv => whnf)<;>first|exact True.intro|(refine if_ ?_ ?_<;>intro h<;>first|exact h.elim|(exfalso; omega)|skip)|refine vs_ ?_|refine dv_ ?_|exact fin_|(show ∃ _, _ ∧ _; refine ex_ ?_ (by first|with_reducible exact rfl|with_reducible exact get2_clD hlt|with_reducible exact hg0|exact rd_))|(show ∃ _ _, _ ∧ _; refine ex2_ ?_ (by first|with_reducible exact rfl|with_reducible exact get2_clD hlt|with_reducible exact hg0|exact rd_)))
        conv => whnf
        refine vc_loop (α := Nat) 0 (fun y => n - y) (fun y => y ≤ n) [] (fun y => [(2, .d (tbD t)), (4, .ptr 5 37 0 0), (9, .row 24 1), (10, .row 11 1), (11, .d (.int .i64 q)), (12, .d (.int .i64 x)), (13, .d (.bool (dB (regC g t q y)))), (14, .d (.int .i64 y))]) (fun y => [(5, .data 37 [grpL g]), (24, .data 1 (clD g)), (11, .data 1 (iL (regL g t q)))]) lp_ ?_ ?_
        · rw [reg_0]
          (repeat' (conv => whnf)<;>first|exact True.intro|(refine if_ ?_ ?_<;>intro h<;>first|exact h.elim|(exfalso; omega)|skip)|refine vs_ ?_|refine dv_ ?_|exact fin_|(show ∃ _, _ ∧ _; refine ex_ ?_)|(show ∃ _ _, _ ∧ _; refine ex2_ ?_))
        · intro y hy
          by_cases hlt2 : y < n
          · have c1 := sq_cell hb hG hs (i := x) (j := y) (by omega) (by omega)
            have c2 := sq_cell hb hG hs (i := y) (j := x) (by omega) (by omega)
            have hr1 : (row (t.n x) (t.f x)).length = t.n x := row_len ..
            have hr2 : (row (t.n y) (t.f y)).length = t.n y := row_len ..
            have hst := hrg y
            by_cases e1 : g.t x y = g.t y x
            · by_cases e2 : t.f x y = t.f y x
              · rw [dB_t (p := regP g t x y) (fun _ => e2), Bool.and_true] at hst
                (repeat' (conv => whnf)<;>first|exact True.intro|(refine if_ ?_ ?_<;>intro h<;>first|exact h.elim|(exfalso; omega)|skip)|refine vs_ ?_|refine dv_ ?_|exact fin_|(show ∃ _, _ ∧ _; refine ex_ ?_ (by first|with_reducible exact rfl|with_reducible exact hat.n|with_reducible exact hat.t (by omega) (by omega)|with_reducible exact tb_get c1.1|with_reducible exact tb_get c2.1|exact rd_))|(show ∃ _ _, _ ∧ _; refine ex2_ ?_ (by first|with_reducible exact rfl|with_reducible exact hat.n|with_reducible exact hat.t (by omega) (by omega)|with_reducible exact tb_get c1.1|with_reducible exact tb_get c2.1|exact rd_)))
                conv => whnf
                refine ⟨y + 1, by omega, by omega, ?_⟩
                rw [hst]
                (repeat' (conv => whnf)<;>first|exact True.intro|(refine if_ ?_ ?_<;>intro h<;>first|exact h.elim|(exfalso; omega)|skip)|refine vs_ ?_|refine dv_ ?_|exact fin_|(show ∃ _, _ ∧ _; refine ex_ ?_)|(show ∃ _ _, _ ∧ _; refine ex2_ ?_))
              · rw [dB_f (p := regP g t x y) (fun h => e2 (h e1)), Bool.and_false] at hst
                (repeat' (conv => whnf)<;>first|exact True.intro|(refine if_ ?_ ?_<;>intro h<;>first|exact h.elim|(exfalso; omega)|skip)|refine vs_ ?_|refine dv_ ?_|exact fin_|(show ∃ _, _ ∧ _; refine ex_ ?_ (by first|with_reducible exact rfl|with_reducible exact hat.n|with_reducible exact hat.t (by omega) (by omega)|with_reducible exact tb_get c1.1|with_reducible exact tb_get c2.1|exact rd_))|(show ∃ _ _, _ ∧ _; refine ex2_ ?_ (by first|with_reducible exact rfl|with_reducible exact hat.n|with_reducible exact hat.t (by omega) (by omega)|with_reducible exact tb_get c1.1|with_reducible exact tb_get c2.1|exact rd_)))
                conv => whnf
                refine ⟨y + 1, by omega, by omega, ?_⟩
                rw [hst]
                (repeat' (conv => whnf)<;>first|exact True.intro|(refine if_ ?_ ?_<;>intro h<;>first|exact h.elim|(exfalso; omega)|skip)|refine vs_ ?_|refine dv_ ?_|exact fin_|(show ∃ _, _ ∧ _; refine ex_ ?_)|(show ∃ _ _, _ ∧ _; refine ex2_ ?_))
            · rw [dB_t (p := regP g t x y) (fun h => absurd h e1), Bool.and_true] at hst
              (repeat' (conv => whnf)<;>first|exact True.intro|(refine if_ ?_ ?_<;>intro h<;>first|exact h.elim|(exfalso; omega)|skip)|refine vs_ ?_|refine dv_ ?_|exact fin_|(show ∃ _, _ ∧ _; refine ex_ ?_ (by first|with_reducible exact rfl|with_reducible exact hat.n|with_reducible exact hat.t (by omega) (by omega)|with_reducible exact tb_get c1.1|with_reducible exact tb_get c2.1|exact rd_))|(show ∃ _ _, _ ∧ _; refine ex2_ ?_ (by first|with_reducible exact rfl|with_reducible exact hat.n|with_reducible exact hat.t (by omega) (by omega)|with_reducible exact tb_get c1.1|with_reducible exact tb_get c2.1|exact rd_)))
              conv => whnf
              refine ⟨y + 1, by omega, by omega, ?_⟩
              rw [hst]
              (repeat' (conv => whnf)<;>first|exact True.intro|(refine if_ ?_ ?_<;>intro h<;>first|exact h.elim|(exfalso; omega)|skip)|refine vs_ ?_|refine dv_ ?_|exact fin_|(show ∃ _, _ ∧ _; refine ex_ ?_)|(show ∃ _ _, _ ∧ _; refine ex2_ ?_))
          · have : y = n := by omega
            subst this
            cases hr : dB (regC g t q y)
            · rw [hr, if_neg (by decide)] at hrs
              (repeat' (conv => whnf)<;>first|exact True.intro|(refine if_ ?_ ?_<;>intro h<;>first|exact h.elim|(exfalso; omega)|skip)|refine vs_ ?_|refine dv_ ?_|exact fin_|(show ∃ _, _ ∧ _; refine ex_ ?_ (by first|with_reducible exact rfl|with_reducible exact hat.n|exact rd_))|(show ∃ _ _, _ ∧ _; refine ex2_ ?_ (by first|with_reducible exact rfl|with_reducible exact hat.n|exact rd_)))
              conv => whnf
              refine ⟨q + 1, by omega, by omega, ?_⟩
              rw [hrs]
              (repeat' (conv => whnf)<;>first|exact True.intro|(refine if_ ?_ ?_<;>intro h<;>first|exact h.elim|(exfalso; omega)|skip)|refine vs_ ?_|refine dv_ ?_|exact fin_|(show ∃ _, _ ∧ _; refine ex_ ?_)|(show ∃ _ _, _ ∧ _; refine ex2_ ?_))
            · rw [hr, if_pos rfl] at hrs
              (repeat' (conv => whnf)<;>first|exact True.intro|(refine if_ ?_ ?_<;>intro h<;>first|exact h.elim|(exfalso; omega)|skip)|refine vs_ ?_ (by first|exact ⟨by (simp only [hrl, maxRow, List.length_cons, List.length_nil]; omega), by decide, by decide⟩|exact sd_)|refine dv_ ?_|exact fin_|(show ∃ _, _ ∧ _; refine ex_ ?_ (by first|with_reducible exact rfl|with_reducible exact hat.n|exact rd_))|(show ∃ _ _, _ ∧ _; refine ex2_ ?_ (by first|with_reducible exact rfl|with_reducible exact hat.n|exact rd_)))
              conv => whnf
              refine ⟨q + 1, by omega, by omega, ?_⟩
              rw [hrs, ← iL_app]
              (repeat' (conv => whnf)<;>first|exact True.intro|(refine if_ ?_ ?_<;>intro h<;>first|exact h.elim|(exfalso; omega)|skip)|refine vs_ ?_|refine dv_ ?_|exact fin_|(show ∃ _, _ ∧ _; refine ex_ ?_)|(show ∃ _ _, _ ∧ _; refine ex2_ ?_))
      · have : q = (clsS g).length := by omega
        subst this
        (repeat' (conv => whnf)<;>first|exact True.intro|(refine if_ ?_ ?_<;>intro h<;>first|exact h.elim|(exfalso; omega)|skip)|refine vs_ ?_|refine dv_ ?_|exact fin_|(show ∃ _, _ ∧ _; refine ex_ ?_)|(show ∃ _ _, _ ∧ _; refine ex2_ ?_))
        all_goals exact Nat.le_refl 2
  · rw [regR_ne c]
    generalize twiG g p t = z at *
    refine can_tupO_emp (can_of hf rfl rfl ?_)
    (repeat' (conv => whnf)<;>first|exact True.intro|(refine if_ ?_ ?_<;>intro h<;>first|exact h.elim|(exfalso; omega)|skip)|refine vs_ ?_|refine dv_ ?_|exact fin_|(show ∃ _, _ ∧ _; refine ex_ ?_ (by first|with_reducible exact rfl|with_reducible exact hgl|exact hT'|exact rd_))|(show ∃ _ _, _ ∧ _; refine ex2_ ?_ (by first|with_reducible exact rfl|with_reducible exact hgl|exact hT'|exact rd_)))
theorem c_Reg (hT : C_twisting P N) (hC : C_classes P N) (hN : C_gN P N) (hM : C_gTimes P N) (hf : isFn P N.impl_RegularClasses (ir_impl_RegularClasses N) = true) : C_Reg P N := by
  intro g p t hb ht
  have hat := grpAt_one g
  have hgl := hat.all
  have hT' := hT (p := p) hb ht
  by_cases c : twiG g p t = 0
  · obtain ⟨hG, hp, hs⟩ := twiG_zero c
    rw [c] at hT' ⊢
    rw [regR_0]
    have hn := hG.1
    have hC' := hC (sz := (grpL g).length) hat hb hG
    have hN' := hN (sz := (grpL g).length) hat
    have hcl := clsS_len g
    have hdl := clD_len g
    have hl := tbL_len t
    obtain ⟨n, hnn⟩ : ∃ n, n = g.n.toNat := ⟨_, rfl⟩
    refine can_of hf rfl rfl ?_
    (repeat' (conv => whnf)<;>first|exact True.intro|(refine if_ ?_ ?_<;>intro h<;>first|exact h.elim|(exfalso; omega)|skip)|refine vs_ ?_|refine dv_ ?_|exact fin_|(show ∃ _, _ ∧ _; refine ex_ ?_ (by first|with_reducible exact rfl|with_reducible exact hgl|exact hT'|exact hC'|exact hN'|exact rd_))|(show ∃ _ _, _ ∧ _; refine ex2_ ?_ (by first|with_reducible exact rfl|with_reducible exact hgl|exact hT'|exact hC'|exact hN'|exact rd_)))
    conv => whnf
    refine vc_loop (α := Nat) 0 (fun q => (clsS g).length - q) (fun q => q ≤ (clsS g).length) [] (fun q => [(2, .d (tbD t)), (4, .d (.pd (grpL g).length [grpL g] 0 0)), (9, .row 10 1), (23, .row 24 1), (24, .d (.int .i64 (clsS g).length)), (25, .d (.int .i64 q))]) (fun q => [(24, .data 1 (clD g)), (10, .data 1 (iL (regL g t q)))]) lp_ ?_ ?_
    · (repeat' (conv => whnf)<;>first|exact True.intro|(refine if_ ?_ ?_<;>intro h<;>first|exact h.elim|(exfalso; omega)|skip)|refine vs_ ?_ (by first|exact congrArg (fun x => AV.d (D.int .i64 x)) (by rw [hdl])|exact sd_)|refine dv_ ?_|exact fin_|(show ∃ _, _ ∧ _; refine ex_ ?_)|(show ∃ _ _, _ ∧ _; refine ex2_ ?_))
    · intro q hq
      have hrl : (iL (regL g t q)).length = (regL g t q).length := iL_len _
      have hrk := regL_len g t q
      by_cases hlt : q < (clsS g).length
      · have hc0 := (cS_len hb hG hlt).1
        have hx6 := cS_at hlt hc0
        have hin : (iN (cS g q)).length = (cS g q).length := iN_len _
        have hg0 := iN_get0 hc0
        have hrs := reg_end (t := t) (q := q) hnn
        have hrg := fun y => reg_s (g := g) (t := t) (q := q) (y := y) rfl
        generalize hxe : (cS g q).getD 0 0 = x at *
        (repeat' (conv => whnf)<;>first|exact True.intro|(refine if_ ?_ ?_<;>intro h<;>first|exact h.elim|(exfalso; omega)|skip)|refine vs_ ?_|refine dv_ ?_|exact fin_|(show ∃ _, _ ∧ _; refine ex_ ?_ (by first|with_reducible exact rfl|with_reducible exact get2_clD hlt|with_reducible exact hg0|exact hN'|exact rd_))|(show ∃ _ _, _ ∧ _; refine ex2_ ?_ (by first|with_reducible exact rfl|with_reducible exact get2_clD hlt|with_reducible exact hg0|exact hN'|exact rd_)))
        conv => whnf
        refine vc_loop (α := Nat) 0 (fun y => n - y) (fun y => y ≤ n) [] (fun y => [(2, .d (tbD t)), (4, .d (.pd (grpL g).length [grpL g] 0 0)), (9, .row 10 1), (10, .d (.int .i64 q)), (12, .d (.int .i64 x)), (13, .d (.bool (dB (regC g t q y)))), (23, .row 24 1), (24, .d (.int .i64 (clsS g).length)), (25, .d (.int .i64 q)), (33, .d (.int .i64 g.n)), (34, .d (.int .i64 y))]) (fun y => [(24, .data 1 (clD g)), (10, .data 1 (iL (regL g t q)))]) lp_ ?_ ?_
        · rw [reg_0]
          (repeat' (conv => whnf)<;>first|exact True.intro|(refine if_ ?_ ?_<;>intro h<;>first|exact h.elim|(exfalso; omega)|skip)|refine vs_ ?_|refine dv_ ?_|exact fin_|(show ∃ _, _ ∧ _; refine ex_ ?_)|(show ∃ _ _, _ ∧ _; refine ex2_ ?_))
        · intro y hy
          by_cases hlt2 : y < n
          · have c1 := sq_cell hb hG hs (i := x) (j := y) (by omega) (by omega)
            have c2 := sq_cell hb hG hs (i := y) (j := x) (by omega) (by omega)
            have hr1 : (row (t.n x) (t.f x)).length = t.n x := row_len ..
            have hr2 : (row (t.n y) (t.f y)).length = t.n y := row_len ..
            have hst := hrg y
            have hM1 := hM (sz := (grpL g).length) (i := x) (j := y) hat hb (by omega) (by omega)
            have hM2 := hM (sz := (grpL g).length) (i := y) (j := x) hat hb (by omega) (by omega)
            cases hr : dB (regC g t q y)
            · rw [hr, Bool.false_and] at hst
              (repeat' (conv => whnf)<;>first|exact True.intro|(refine if_ ?_ ?_<;>intro h<;>first|exact h.elim|(exfalso; omega)|skip)|refine vs_ ?_|refine dv_ ?_|exact fin_|(show ∃ _, _ ∧ _; refine ex_ ?_ (by first|with_reducible exact rfl|exact hM1|exact hM2|with_reducible exact tb_get c1.1|with_reducible exact tb_get c2.1|exact rd_))|(show ∃ _ _, _ ∧ _; refine ex2_ ?_ (by first|with_reducible exact rfl|exact hM1|exact hM2|with_reducible exact tb_get c1.1|with_reducible exact tb_get c2.1|exact rd_)))
              conv => whnf
              refine ⟨y + 1, by omega, by omega, ?_⟩
              rw [hst]
              (repeat' (conv => whnf)<;>first|exact True.intro|(refine if_ ?_ ?_<;>intro h<;>first|exact h.elim|(exfalso; omega)|skip)|refine vs_ ?_|refine dv_ ?_|exact fin_|(show ∃ _, _ ∧ _; refine ex_ ?_)|(show ∃ _ _, _ ∧ _; refine ex2_ ?_))
            · rw [hr, Bool.true_and] at hst
              by_cases e1 : g.t x y = g.t y x
              · by_cases e2 : t.f x y = t.f y x
                · rw [dB_t (p := regP g t x y) (fun _ => e2)] at hst
                  (repeat' (conv => whnf)<;>first|exact True.intro|(refine if_ ?_ ?_<;>intro h<;>first|exact h.elim|(exfalso; omega)|skip)|refine vs_ ?_|refine dv_ ?_|exact fin_|(show ∃ _, _ ∧ _; refine ex_ ?_ (by first|with_reducible exact rfl|exact hM1|exact hM2|with_reducible exact tb_get c1.1|with_reducible exact tb_get c2.1|exact rd_))|(show ∃ _ _, _ ∧ _; refine ex2_ ?_ (by first|with_reducible exact rfl|exact hM1|exact hM2|with_reducible exact tb_get c1.1|with_reducible exact tb_get c2.1|exact rd_)))
                  conv => whnf
                  refine ⟨y + 1, by omega, by omega, ?_⟩
                  rw [hst]
                  (repeat' (conv => whnf)<;>first|exact True.intro|(refine if_ ?_ ?_<;>intro h<;>first|exact h.elim|(exfalso; omega)|skip)|refine vs_ ?_ (by first|exact congrArg (fun b => AV.d (D.bool b)) (by simp [Cm.int, e2])|exact sd_)|refine dv_ ?_|exact fin_|(show ∃ _, _ ∧ _; refine ex_ ?_)|(show ∃ _ _, _ ∧ _; refine ex2_ ?_))
                · rw [dB_f (p := regP g t x y) (fun h => e2 (h e1))] at hst
                  (repeat' (conv => whnf)<;>first|exact True.intro|(refine if_ ?_ ?_<;>intro h<;>first|exact h.elim|(exfalso; omega)|skip)|refine vs_ ?_|refine dv_ ?_|exact fin_|(show ∃ _, _ ∧ _; refine ex_ ?_ (by first|with_reducible exact rfl|exact hM1|exact hM2|with_reducible exact tb_get c1.1|with_reducible exact tb_get c2.1|exact rd_))|(show ∃ _ _, _ ∧ _; refine ex2_ ?_ (by first|with_reducible exact rfl|exact hM1|exact hM2|with_reducible exact tb_get c1.1|with_reducible exact tb_get c2.1|exact rd_)))
                  conv => whnf
                  refine ⟨y + 1, by omega, by omega, ?_⟩
                  rw [hst]
                  (repeat' (conv => whnf)<;>first|exact True.intro|(refine if_ ?_ ?_<;>intro h<;>first|exact h.elim|(exfalso; omega)|skip)|refine vs_ ?_ (by first|exact congrArg (fun b => AV.d (D.bool b)) (by simp [Cm.int, e2])|exact sd_)|refine dv_ ?_|exact fin_|(show ∃ _, _ ∧ _; refine ex_ ?_)|(show ∃ _ _, _ ∧ _; refine ex2_ ?_))
              · rw [dB_t (p := regP g t x y) (fun h => absurd h e1)] at hst
                (repeat' (conv => whnf)<;>first|exact True.intro|(refine if_ ?_ ?_<;>intro h<;>first|exact h.elim|(exfalso; omega)|skip)|refine vs_ ?_|refine dv_ ?_|exact fin_|(show ∃ _, _ ∧ _; refine ex_ ?_ (by first|with_reducible exact rfl|exact hM1|exact hM2|with_reducible exact tb_get c1.1|with_reducible exact tb_get c2.1|exact rd_))|(show ∃ _ _, _ ∧ _; refine ex2_ ?_ (by first|with_reducible exact rfl|exact hM1|exact hM2|with_reducible exact tb_get c1.1|with_reducible exact tb_get c2.1|exact rd_)))
                conv => whnf
                refine ⟨y + 1, by omega, by omega, ?_⟩
                rw [hst]
                (repeat' (conv => whnf)<;>first|exact True.intro|(refine if_ ?_ ?_<;>intro h<;>first|exact h.elim|(exfalso; omega)|skip)|refine vs_ ?_|refine dv_ ?_|exact fin_|(show ∃ _, _ ∧ _; refine ex_ ?_)|(show ∃ _ _, _ ∧ _; refine ex2_ ?_))
          · have : y = n := by omega
            subst this
            cases hr : dB (regC g t q y)
            · rw [hr, if_neg (by decide)] at hrs
              (repeat' (conv => whnf)<;>first|exact True.intro|(refine if_ ?_ ?_<;>intro h<;>first|exact h.elim|(exfalso; omega)|skip)|refine vs_ ?_|refine dv_ ?_|exact fin_|(show ∃ _, _ ∧ _; refine ex_ ?_)|(show ∃ _ _, _ ∧ _; refine ex2_ ?_))
              conv => whnf
              refine ⟨q + 1, by omega, by omega, ?_⟩
              rw [hrs]
              (repeat' (conv => whnf)<;>first|exact True.intro|(refine if_ ?_ ?_<;>intro h<;>first|exact h.elim|(exfalso; omega)|skip)|refine vs_ ?_|refine dv_ ?_|exact fin_|(show ∃ _, _ ∧ _; refine ex_ ?_)|(show ∃ _ _, _ ∧ _; refine ex2_ ?_))
            · rw [hr, if_pos rfl] at hrs
              (repeat' (conv => whnf)<;>first|exact True.intro|(refine if_ ?_ ?_<;>intro h<;>first|exact h.elim|(exfalso; omega)|skip)|refine vs_ ?_ (by first|exact ⟨by (simp only [hrl, maxRow, List.length_cons, List.length_nil]; omega), by decide, by decide⟩|exact sd_)|refine dv_ ?_|exact fin_|(show ∃ _, _ ∧ _; refine ex_ ?_)|(show ∃ _ _, _ ∧ _; refine ex2_ ?_))
              conv => whnf
              refine ⟨q + 1, by omega, by omega, ?_⟩
              rw [hrs, ← iL_app]
              (repeat' (conv => whnf)<;>first|exact True.intro|(refine if_ ?_ ?_<;>intro h<;>first|exact h.elim|(exfalso; omega)|skip)|refine vs_ ?_|refine dv_ ?_|exact fin_|(show ∃ _, _ ∧ _; refine ex_ ?_)|(show ∃ _ _, _ ∧ _; refine ex2_ ?_))
      · have : q = (clsS g).length := by omega
        subst this
        (repeat' (conv => whnf)<;>first|exact True.intro|(refine if_ ?_ ?_<;>intro h<;>first|exact h.elim|(exfalso; omega)|skip)|refine vs_ ?_|refine dv_ ?_|exact fin_|(show ∃ _, _ ∧ _; refine ex_ ?_)|(show ∃ _ _, _ ∧ _; refine ex2_ ?_))
        all_goals exact Nat.le_refl 2
  · rw [regR_ne c]
    generalize twiG g p t = z at *
    refine can_tupO_emp (can_of hf rfl rfl ?_)
    (repeat' (conv => whnf)<;>first|exact True.intro|(refine if_ ?_ ?_<;>intro h<;>first|exact h.elim|(exfalso; omega)|skip)|refine vs_ ?_|refine dv_ ?_|exact fin_|(show ∃ _, _ ∧ _; refine ex_ ?_ (by first|with_reducible exact rfl|with_reducible exact hgl|exact hT'|exact rd_))|(show ∃ _ _, _ ∧ _; refine ex2_ ?_ (by first|with_reducible exact rfl|with_reducible exact hgl|exact hT'|exact rd_)))
end Go.X
namespace Go.X
open Go Go.RowKit
set_option maxRecDepth 100000
set_option maxHeartbeats 8000000
set_option linter.unusedVariables false
variable {P : Program} {N : FN}
theorem c_coc (hN : C_gN P N) (hT : C_gTimes P N) (hf : isFn P N.impl_Group_cocycle (ir_impl_Group_cocycle N) = true) : C_coc P N := by
  intro sz l e off g p t hat hb hG hp hs
  have hn := hG.1
  have hp2 := prime_bd hp
  have hl := tbL_len t
  have hm : (t.m : Int) = g.n := hs.1
  have c00 := sq_cell hb hG hs (i := 0) (j := 0) (by omega) (by omega)
  have hr0 : (row (t.n 0) (t.f 0)).length = t.n 0 := row_len ..
  obtain ⟨n, hnn⟩ : ∃ n, n = g.n.toNat := ⟨_, rfl⟩
  have hN' : Can P N.impl_Group_n [.pd sz l e off] (.val (.int .i64 g.n)) := hN hat
  unfold cocB
  by_cases c : cocL g p t
  · rw [dB_t c]
    refine can_of hf rfl rfl ?_
    (repeat' (conv => whnf)<;>first|exact True.intro|(refine if_ ?_ ?_<;>intro h<;>first|exact h.elim|(exfalso; omega)|skip)|refine vs_ ?_|refine dv_ ?_|exact fin_|(show ∃ _, _ ∧ _; refine ex_ ?_ (by first|with_reducible exact rfl|exact hN'|exact rd_))|(show ∃ _ _, _ ∧ _; refine ex2_ ?_ (by first|with_reducible exact rfl|exact hN'|exact rd_)))
    conv => whnf
    refine vc_loop (α := Nat) 0 (fun i => n - i) (fun i => i ≤ n) [] (fun i => [(0, .d (.pd sz l e off)), (1, .d (.int .i64 p)), (2, .d (tbD t)), (13, .d (.int .i64 g.n)), (14, .d (.int .i64 i))]) (fun i => []) lp_ ?_ ?_
    · (repeat' (conv => whnf)<;>first|exact True.intro|(refine if_ ?_ ?_<;>intro h<;>first|exact h.elim|(exfalso; omega)|skip)|refine vs_ ?_|refine dv_ ?_|exact fin_|(show ∃ _, _ ∧ _; refine ex_ ?_)|(show ∃ _ _, _ ∧ _; refine ex2_ ?_))
    · intro i hi
      by_cases hlt : i < n
      · (repeat' (conv => whnf)<;>first|exact True.intro|(refine if_ ?_ ?_<;>intro h<;>first|exact h.elim|(exfalso; omega)|skip)|refine vs_ ?_|refine dv_ ?_|exact fin_|(show ∃ _, _ ∧ _; refine ex_ ?_ (by first|with_reducible exact rfl|exact hN'|exact rd_))|(show ∃ _ _, _ ∧ _; refine ex2_ ?_ (by first|with_reducible exact rfl|exact hN'|exact rd_)))
        conv => whnf
        refine vc_loop (α := Nat) 0 (fun j => n - j) (fun j => j ≤ n) [] (fun j => [(0, .d (.pd sz l e off)), (1, .d (.int .i64 p)), (2, .d (tbD t)), (7, .d (.int .i64 i)), (13, .d (.int .i64 g.n)), (14, .d (.int .i64 i)), (18, .d (.int .i64 g.n)), (19, .d (.int .i64 j))]) (fun j => []) lp_ ?_ ?_
        · (repeat' (conv => whnf)<;>first|exact True.intro|(refine if_ ?_ ?_<;>intro h<;>first|exact h.elim|(exfalso; omega)|skip)|refine vs_ ?_|refine dv_ ?_|exact fin_|(show ∃ _, _ ∧ _; refine ex_ ?_)|(show ∃ _ _, _ ∧ _; refine ex2_ ?_))
        · intro j hj
          by_cases hlt2 : j < n
          · have c1 := sq_cell hb hG hs (i := i) (j := j) (by omega) (by omega)
            have c2 := sq_cell hb hG hs (i := j) (j := 0) (by omega) (by omega)
            have hr1 : (row (t.n i) (t.f i)).length = t.n i := row_len ..
            have hr2 : (row (t.n j) (t.f j)).length = t.n j := row_len ..
            have d1 := c i (by omega) j (by omega)
            have hT1 := hT (sz := sz) (i := i) (j := j) hat hb (by omega) (by omega)
            (repeat' (conv => whnf)<;>first|exact True.intro|(refine if_ ?_ ?_<;>intro h<;>first|exact h.elim|(exfalso; omega)|skip)|refine vs_ ?_|refine dv_ ?_|exact fin_|(show ∃ _, _ ∧ _; refine ex_ ?_ (by first|with_reducible exact rfl|exact hN'|exact rd_))|(show ∃ _ _, _ ∧ _; refine ex2_ ?_ (by first|with_reducible exact rfl|exact hN'|exact rd_)))
            conv => whnf
            refine vc_loop (α := Nat) 0 (fun k => n - k) (fun k => k ≤ n) [] (fun k => [(0, .d (.pd sz l e off)), (1, .d (.int .i64 p)), (2, .d (tbD t)), (7, .d (.int .i64 i)), (8, .d (.int .i64 j)), (13, .d (.int .i64 g.n)), (14, .d (.int .i64 i)), (18, .d (.int .i64 g.n)), (19, .d (.int .i64 j)), (23, .d (.int .i64 g.n)), (24, .d (.int .i64 k))]) (fun k => []) lp_ ?_ ?_
            · (repeat' (conv => whnf)<;>first|exact True.intro|(refine if_ ?_ ?_<;>intro h<;>first|exact h.elim|(exfalso; omega)|skip)|refine vs_ ?_|refine dv_ ?_|exact fin_|(show ∃ _, _ ∧ _; refine ex_ ?_)|(show ∃ _ _, _ ∧ _; refine ex2_ ?_))
            · intro k hk
              by_cases hlt3 : k < n
              · obtain ⟨⟨e1, e2, e3⟩, ⟨e4, e5⟩, e6, e7⟩ := cel_facts hb hG hp hs (i := i) (j := j) (k := k) (by omega) (by omega) (by omega)
                have c3 := sq_cell hb hG hs (i := j) (j := k) (by omega) (by omega)
                have hr3 : (row (t.n (mN g i j)) (t.f (mN g i j))).length = t.n (mN g i j) := row_len ..
                have d2 : t.f i j * t.f (mN g i j) k % p = t.f j k * t.f i (mN g j k) % p := d1.2 k (by omega)
                have d0 := d1.1
                have hT2 := hT (sz := sz) (i := j) (j := k) hat hb (by omega) (by omega)
                (repeat' (conv => whnf)<;>first|exact True.intro|(refine if_ ?_ ?_<;>intro h<;>first|exact h.elim|(exfalso; omega)|skip)|refine vs_ ?_|refine dv_ ?_|exact fin_|(show ∃ _, _ ∧ _; refine ex_ ?_ (by first|with_reducible exact rfl|exact hT1|exact hT2|with_reducible exact tb_get c1.1|with_reducible exact tb_get c2.1|with_reducible exact tb_getM e1 e2|with_reducible exact row_getM e4 e5|exact rd_))|(show ∃ _ _, _ ∧ _; refine ex2_ ?_ (by first|with_reducible exact rfl|exact hT1|exact hT2|with_reducible exact tb_get c1.1|with_reducible exact tb_get c2.1|with_reducible exact tb_getM e1 e2|with_reducible exact row_getM e4 e5|exact rd_)))
                conv => whnf
                refine ⟨k + 1, by omega, by omega, ?_⟩
                (repeat' (conv => whnf)<;>first|exact True.intro|(refine if_ ?_ ?_<;>intro h<;>first|exact h.elim|(exfalso; omega)|skip)|refine vs_ ?_|refine dv_ ?_|exact fin_|(show ∃ _, _ ∧ _; refine ex_ ?_)|(show ∃ _ _, _ ∧ _; refine ex2_ ?_))
              · (repeat' (conv => whnf)<;>first|exact True.intro|(refine if_ ?_ ?_<;>intro h<;>first|exact h.elim|(exfalso; omega)|skip)|refine vs_ ?_|refine dv_ ?_|exact fin_|(show ∃ _, _ ∧ _; refine ex_ ?_)|(show ∃ _ _, _ ∧ _; refine ex2_ ?_))
                conv => whnf
                refine ⟨j + 1, by omega, by omega, ?_⟩
                (repeat' (conv => whnf)<;>first|exact True.intro|(refine if_ ?_ ?_<;>intro h<;>first|exact h.elim|(exfalso; omega)|skip)|refine vs_ ?_|refine dv_ ?_|exact fin_|(show ∃ _, _ ∧ _; refine ex_ ?_)|(show ∃ _ _, _ ∧ _; refine ex2_ ?_))
          · (repeat' (conv => whnf)<;>first|exact True.intro|(refine if_ ?_ ?_<;>intro h<;>first|exact h.elim|(exfalso; omega)|skip)|refine vs_ ?_|refine dv_ ?_|exact fin_|(show ∃ _, _ ∧ _; refine ex_ ?_)|(show ∃ _ _, _ ∧ _; refine ex2_ ?_))
            conv => whnf
            refine ⟨i + 1, by omega, by omega, ?_⟩
            (repeat' (conv => whnf)<;>first|exact True.intro|(refine if_ ?_ ?_<;>intro h<;>first|exact h.elim|(exfalso; omega)|skip)|refine vs_ ?_|refine dv_ ?_|exact fin_|(show ∃ _, _ ∧ _; refine ex_ ?_)|(show ∃ _ _, _ ∧ _; refine ex2_ ?_))
      · (repeat' (conv => whnf)<;>first|exact True.intro|(refine if_ ?_ ?_<;>intro h<;>first|exact h.elim|(exfalso; omega)|skip)|refine vs_ ?_|refine dv_ ?_|exact fin_|(show ∃ _, _ ∧ _; refine ex_ ?_ (by first|with_reducible exact rfl|with_reducible exact tb_get0 c00.1|with_reducible exact row_get0 c00.2.1|exact rd_))|(show ∃ _ _, _ ∧ _; refine ex2_ ?_ (by first|with_reducible exact rfl|with_reducible exact tb_get0 c00.1|with_reducible exact row_get0 c00.2.1|exact rd_)))
  · rw [dB_f c]
    refine can_of hf rfl rfl ?_
    (repeat' (conv => whnf)<;>first|exact True.intro|(refine if_ ?_ ?_<;>intro h<;>first|exact h.elim|(exfalso; omega)|skip)|refine vs_ ?_|refine dv_ ?_|exact fin_|(show ∃ _, _ ∧ _; refine ex_ ?_ (by first|with_reducible exact rfl|exact hN'|exact rd_))|(show ∃ _ _, _ ∧ _; refine ex2_ ?_ (by first|with_reducible exact rfl|exact hN'|exact rd_)))
    conv => whnf
    refine vc_loop (α := Nat) 0 (fun i => n - i) (fun i => i ≤ n ∧ ∀ q, q < i → ∀ j, j < n → t.f q j ≠ 0 ∧ ∀ k, k < n → celP g p t q j k) [] (fun i => [(0, .d (.pd sz l e off)), (1, .d (.int .i64 p)), (2, .d (tbD t)), (13, .d (.int .i64 g.n)), (14, .d (.int .i64 i))]) (fun i => []) lp_ ?_ ?_
    · (repeat' (conv => whnf)<;>first|exact True.intro|(refine if_ ?_ ?_<;>intro h<;>first|exact h.elim|(exfalso; omega)|skip)|refine vs_ ?_|refine dv_ ?_|exact fin_|(show ∃ _, _ ∧ _; refine ex_ ?_)|(show ∃ _ _, _ ∧ _; refine ex2_ ?_))
    · rintro i ⟨hi, hx⟩
      by_cases hlt : i < n
      · (repeat' (conv => whnf)<;>first|exact True.intro|(refine if_ ?_ ?_<;>intro h<;>first|exact h.elim|(exfalso; omega)|skip)|refine vs_ ?_|refine dv_ ?_|exact fin_|(show ∃ _, _ ∧ _; refine ex_ ?_ (by first|with_reducible exact rfl|exact hN'|exact rd_))|(show ∃ _ _, _ ∧ _; refine ex2_ ?_ (by first|with_reducible exact rfl|exact hN'|exact rd_)))
        conv => whnf
        refine vc_loop (α := Nat) 0 (fun j => n - j) (fun j => j ≤ n ∧ ∀ q, q < j → t.f i q ≠ 0 ∧ ∀ k, k < n → celP g p t i q k) [] (fun j => [(0, .d (.pd sz l e off)), (1, .d (.int .i64 p)), (2, .d (tbD t)), (7, .d (.int .i64 i)), (13, .d (.int .i64 g.n)), (14, .d (.int .i64 i)), (18, .d (.int .i64 g.n)), (19, .d (.int .i64 j))]) (fun j => []) lp_ ?_ ?_
        · (repeat' (conv => whnf)<;>first|exact True.intro|(refine if_ ?_ ?_<;>intro h<;>first|exact h.elim|(exfalso; omega)|skip)|refine vs_ ?_|refine dv_ ?_|exact fin_|(show ∃ _, _ ∧ _; refine ex_ ?_)|(show ∃ _ _, _ ∧ _; refine ex2_ ?_))
        · rintro j ⟨hj, hy⟩
          by_cases hlt2 : j < n
          · have c1 := sq_cell hb hG hs (i := i) (j := j) (by omega) (by omega)
            have c2 := sq_cell hb hG hs (i := j) (j := 0) (by omega) (by omega)
            have hr1 : (row (t.n i) (t.f i)).length = t.n i := row_len ..
            have hr2 : (row (t.n j) (t.f j)).length = t.n j := row_len ..
            have hT1 := hT (sz := sz) (i := i) (j := j) hat hb (by omega) (by omega)
            (repeat' (conv => whnf)<;>first|exact True.intro|(refine if_ ?_ ?_<;>intro h<;>first|exact h.elim|(exfalso; omega)|skip)|refine vs_ ?_|refine dv_ ?_|exact fin_|(show ∃ _, _ ∧ _; refine ex_ ?_ (by first|with_reducible exact rfl|exact hN'|exact rd_))|(show ∃ _ _, _ ∧ _; refine ex2_ ?_ (by first|with_reducible exact rfl|exact hN'|exact rd_)))
            conv => whnf
            refine vc_loop (α := Nat) 0 (fun k => n - k) (fun k => k ≤ n ∧ (∀ q, q < k → celP g p t i j q) ∧ (0 < k → t.f i j ≠ 0)) [] (fun k => [(0, .d (.pd sz l e off)), (1, .d (.int .i64 p)), (2, .d (tbD t)), (7, .d (.int .i64 i)), (8, .d (.int .i64 j)), (13, .d (.int .i64 g.n)), (14, .d (.int .i64 i)), (18, .d (.int .i64 g.n)), (19, .d (.int .i64 j)), (23, .d (.int .i64 g.n)), (24, .d (.int .i64 k))]) (fun k => []) lp_ ?_ ?_
            · (repeat' (conv => whnf)<;>first|exact True.intro|(refine if_ ?_ ?_<;>intro h<;>first|exact h.elim|(exfalso; omega)|skip)|refine vs_ ?_|refine dv_ ?_|exact fin_|(show ∃ _, _ ∧ _; refine ex_ ?_)|(show ∃ _ _, _ ∧ _; refine ex2_ ?_))
            · rintro k ⟨hk, hw, hz⟩
              by_cases hlt3 : k < n
              · obtain ⟨⟨e1, e2, e3⟩, ⟨e4, e5⟩, e6, e7⟩ := cel_facts hb hG hp hs (i := i) (j := j) (k := k) (by omega) (by omega) (by omega)
                have c3 := sq_cell hb hG hs (i := j) (j := k) (by omega) (by omega)
                have hr3 : (row (t.n (mN g i j)) (t.f (mN g i j))).length = t.n (mN g i j) := row_len ..
                have hT2 := hT (sz := sz) (i := j) (j := k) hat hb (by omega) (by omega)
                by_cases z : t.f i j = 0
                · (repeat' (conv => whnf)<;>first|exact True.intro|(refine if_ ?_ ?_<;>intro h<;>first|exact h.elim|(exfalso; omega)|skip)|refine vs_ ?_|refine dv_ ?_|exact fin_|(show ∃ _, _ ∧ _; refine ex_ ?_ (by first|with_reducible exact rfl|exact hT1|exact hT2|with_reducible exact tb_get c1.1|with_reducible exact tb_get c2.1|with_reducible exact tb_getM e1 e2|with_reducible exact row_getM e4 e5|exact rd_))|(show ∃ _ _, _ ∧ _; refine ex2_ ?_ (by first|with_reducible exact rfl|exact hT1|exact hT2|with_reducible exact tb_get c1.1|with_reducible exact tb_get c2.1|with_reducible exact tb_getM e1 e2|with_reducible exact row_getM e4 e5|exact rd_)))
                · by_cases d2 : t.f i j * t.f (mN g i j) k % p = t.f j k * t.f i (mN g j k) % p
                  · (repeat' (conv => whnf)<;>first|exact True.intro|(refine if_ ?_ ?_<;>intro h<;>first|exact h.elim|(exfalso; omega)|skip)|refine vs_ ?_|refine dv_ ?_|exact fin_|(show ∃ _, _ ∧ _; refine ex_ ?_ (by first|with_reducible exact rfl|exact hT1|exact hT2|with_reducible exact tb_get c1.1|with_reducible exact tb_get c2.1|with_reducible exact tb_getM e1 e2|with_reducible exact row_getM e4 e5|exact rd_))|(show ∃ _ _, _ ∧ _; refine ex2_ ?_ (by first|with_reducible exact rfl|exact hT1|exact hT2|with_reducible exact tb_get c1.1|with_reducible exact tb_get c2.1|with_reducible exact tb_getM e1 e2|with_reducible exact row_getM e4 e5|exact rd_)))
                    conv => whnf
                    refine ⟨k + 1, ⟨by omega, fun q hq => ?_, fun _ => z⟩, by omega, ?_⟩
                    · by_cases e : q = k
                      · subst e; exact d2
                      · exact hw q (by omega)
                    (repeat' (conv => whnf)<;>first|exact True.intro|(refine if_ ?_ ?_<;>intro h<;>first|exact h.elim|(exfalso; omega)|skip)|refine vs_ ?_|refine dv_ ?_|exact fin_|(show ∃ _, _ ∧ _; refine ex_ ?_)|(show ∃ _ _, _ ∧ _; refine ex2_ ?_))
                  · (repeat' (conv => whnf)<;>first|exact True.intro|(refine if_ ?_ ?_<;>intro h<;>first|exact h.elim|(exfalso; omega)|skip)|refine vs_ ?_|refine dv_ ?_|exact fin_|(show ∃ _, _ ∧ _; refine ex_ ?_ (by first|with_reducible exact rfl|exact hT1|exact hT2|with_reducible exact tb_get c1.1|with_reducible exact tb_get c2.1|with_reducible exact tb_getM e1 e2|with_reducible exact row_getM e4 e5|exact rd_))|(show ∃ _ _, _ ∧ _; refine ex2_ ?_ (by first|with_reducible exact rfl|exact hT1|exact hT2|with_reducible exact tb_get c1.1|with_reducible exact tb_get c2.1|with_reducible exact tb_getM e1 e2|with_reducible exact row_getM e4 e5|exact rd_)))
              · have z := hz (by omega)
                (repeat' (conv => whnf)<;>first|exact True.intro|(refine if_ ?_ ?_<;>intro h<;>first|exact h.elim|(exfalso; omega)|skip)|refine vs_ ?_|refine dv_ ?_|exact fin_|(show ∃ _, _ ∧ _; refine ex_ ?_)|(show ∃ _ _, _ ∧ _; refine ex2_ ?_))
                conv => whnf
                refine ⟨j + 1, ⟨by omega, fun q hq => ?_⟩, by omega, ?_⟩
                · by_cases e : q = j
                  · subst e; exact ⟨z, fun k' hk' => hw k' (by omega)⟩
                  · exact hy q (by omega)
                (repeat' (conv => whnf)<;>first|exact True.intro|(refine if_ ?_ ?_<;>intro h<;>first|exact h.elim|(exfalso; omega)|skip)|refine vs_ ?_|refine dv_ ?_|exact fin_|(show ∃ _, _ ∧ _; refine ex_ ?_)|(show ∃ _ _, _ ∧ _; refine ex2_ ?_))
          · (repeat' (conv => whnf)<;>first|exact True.intro|(refine if_ ?_ ?_<;>intro h<;>first|exact h.elim|(exfalso; omega)|skip)|refine vs_ ?_|refine dv_ ?_|exact fin_|(show ∃ _, _ ∧ _; refine ex_ ?_)|(show ∃ _ _, _ ∧ _; refine ex2_ ?_))
            conv => whnf
            refine ⟨i + 1, ⟨by omega, fun q hq => ?_⟩, by omega, ?_⟩
            · by_cases e : q = i
              · subst e; exact fun j' hj' => hy j' (by omega)
              · exact hx q (by omega)
            (repeat' (conv => whnf)<;>first|exact True.intro|(refine if_ ?_ ?_<;>intro h<;>first|exact h.elim|(exfalso; omega)|skip)|refine vs_ ?_|refine dv_ ?_|exact fin_|(show ∃ _, _ ∧ _; refine ex_ ?_)|(show ∃ _ _, _ ∧ _; refine ex2_ ?_))
      · exfalso
        exact c fun i' hi' j' hj' => ⟨(hx i' (by omega) j' (by omega)).1, fun k' hk' => (hx i' (by omega) j' (by omega)).2 k' (by omega)⟩
end Go.X
namespace Go.X
open Go Go.RowKit
set_option maxRecDepth 100000
set_option maxHeartbeats 8000000
set_option linter.unusedVariables false
variable {P : Program} {N : FN}
end Go.X
