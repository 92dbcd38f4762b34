import Derived.Test.YtphelkciklpakaaW21
import Derived.Test.YtphelkciklpakaaW8
set_option linter.all false
namespace Go.X
open Go Go.RowKit
set_option maxRecDepth 100000
set_option maxHeartbeats 8000000
set_option linter.unusedVariables false
set_option linter.unusedSimpArgs false
variable {P : Program} {N : FN}
def C_DAdd (P : Program) (N : FN) : Prop := ∀ {m : Nat} {f : Nat → Int}, m ≤ 4096 → (∀ i, 0 ≤ f i ∧ f i ≤ 255) → ∃ a v w k, DrA a ∧ DrV v ∧ DrV w ∧ Can P N.spec_DrawAddVectors [.lst 1 (nbL f m)] (.tup [algD a, vecD v, vecD w, .int .i64 k])
theorem rd_a1 {a : Alg} : sub2 ([algZ].set 0 (splice algZ 0 (algL a))) 0 0 224 = some (algL a) := by rw [sz_alg]; exact (algAt_one a).all
def L_FnProducts (P : Program) (N : FN) : Prop := ∀ args, argsHave [.sl (.int .u8)] args → Can P N.laws_FnProducts args (.val (.bool true))
theorem l_FnProducts (hBig : C_big P N) (hDM : C_DMul P N) (hM : C_Mul P N) (hsM : C_sMul P N) (hA : C_IsAlgebra P N) (hsA : C_sIsAlg P N) (hU : C_UnitOf P N) (hsU : C_sUnitOf P N) (hPw : C_PowerV P N) (hsPw : C_sPowerV P N)
    (hDI : C_DAV P N.spec_DrawInverseVector) (hI : C_Inv P N) (hsI : C_sInv P N) (hDP : C_DPow P N) (hDAd : C_DAdd P N) (hAd : C_Add P N) (hsAd : C_sAddV P N) (hDU : C_DA P N.spec_DrawUnitOf) (hDF : C_DAV P N.spec_DrawFormOf)
    (hF : C_FormOf P N) (hsF : C_sFormOf P N) (hf : isFn P N.laws_FnProducts (ir_laws_FnProducts N) = true) : L_FnProducts P N := fun args h => by
  obtain ⟨d1, rfl, h1⟩ := args1 h
  obtain ⟨m, f, rfl, hm, hb⟩ := arg_bytes h1
  have ml : maxLen ≤ 9223372036854775807 := by decide
  have B0 := hBig (m := m) (f := f) (by omega)
  by_cases hm4 : m ≤ 4096
  · rw [show decide ((m : Int) > 4096) = false from decide_eq_false (by omega)] at B0
    obtain ⟨a, v, w, ha, hv, hw, D1⟩ := hDM hm4 hb
    obtain ⟨b, u, hb2, hu, D2⟩ := hDI hm4 hb
    obtain ⟨c, x, k, hc, hx, D3⟩ := hDP hm4 hb
    obtain ⟨d, y, z, q, hd, hy, hz, D4⟩ := hDAd hm4 hb
    obtain ⟨e, he, D5⟩ := hDU hm4 hb
    obtain ⟨g, t, hg, ht, D6⟩ := hDF hm4 hb
    have M1 := hM ha.inn hv.b hw.b
    have M2 := hsM ha.inn.s hv.b hw.b
    rw [dB_alg ha.inn] at M2
    have A1 : Can P N.impl_IsAlgebra [algD a] (.val (.bool (dB (IsAlgP a)))) := hA ha.inn.b ha.inn.ok
    have A2 := hsA ha.inn.s
    rw [show dB (sAlgP a) = dB (IsAlgP a) from by rw [propext (alg_iff ha.inn)]] at A2
    have I1 := hI hb2.inn hu.b
    have I2 := hsI hb2.inn.s hu.b
    rw [invR_same hb2.inn] at I2
    have P1 := hPw (k := k) hc.inn hx.b
    have P2 := hsPw (k := k) hc.inn.s hx.b
    rw [powVR_same hc.inn] at P2
    obtain ⟨pv, pc, ep⟩ := powVR_ex c (iUnit c) x k (dB (IsAlgP c ∧ AllSm c 1 fun _ => x))
    rw [ep] at P1 P2
    have S1 := hAd (k := q) hd.inn hy.b hz.b
    have S2 := hsAd (k := q) hd.inn.s hy.b hz.b
    rw [dB_alg hd.inn] at S2
    obtain ⟨sv, sc, es⟩ := addR_ex d y z q (dB (IsAlgP d ∧ AllSm d 2 (twoV y z)))
    rw [es] at S1 S2
    have U1 := hU he.inn
    have U2 := hsU he.inn.s
    rw [unitR_same he.inn] at U2
    rw [unitR_eq] at U1 U2
    generalize (if dB (IsAlgP e) = true then (iFindF e).getD Z else Z) = uv at *
    generalize (if dB (IsAlgP e) = true then (0 : Int) else 1) = uc at *
    have F1 := hF hg.inn ht.b
    have F2 := hsF hg.inn.s ht.b
    rw [dB_alg hg.inn] at F2
    rw [formR_eq] at F1 F2
    generalize (if dB (IsAlgP g ∧ AllSm g 1 fun _ => t) = true then formV g t else 0) = fv at *
    generalize (if dB (IsAlgP g ∧ AllSm g 1 fun _ => t) = true then (0 : Int) else 1) = fc at *
    rw [mulR_eq] at M1 M2
    obtain ⟨mv, emv⟩ : ∃ r, r = (if dB (IsAlgP a ∧ AllSm a 2 (twoV v w)) = true then timesV a v w else Z) := ⟨_, rfl⟩
    obtain ⟨mc, emc⟩ : ∃ r : Int, r = (if dB (IsAlgP a ∧ AllSm a 2 (twoV v w)) = true then 0 else 1) := ⟨_, rfl⟩
    rw [← emv, ← emc] at M1 M2
    obtain ⟨iv, ic, ei, hic⟩ : ∃ iv ic, invR (iBack b u) (dB (IsAlgP b ∧ AllSm b 1 fun _ => u)) = .tup [vecD iv, .int .i64 ic] ∧ (ic = 0 → IsAlgP b ∧ GV b u ∧ GV b iv ∧ timesV b u iv = sUnit b ∧ timesV b iv u = sUnit b) := by
      by_cases gb : IsAlgP b ∧ AllSm b 1 fun _ => u
      · have gab := ga_of hb2.inn gb.1
        rw [dB_t gb]
        unfold invR
        rcases inv_same gab.ok gab.as gab.un u with ⟨e1, _⟩ | ⟨r, e1, _, e2, e3, e4, e5⟩
        · rw [e1]; exact ⟨_, _, rfl, fun h => absurd h (by decide)⟩
        · rw [e1]; exact ⟨_, _, rfl, fun _ => ⟨gb.1, gv_of gab hu (gb.2 0 (by omega)), ⟨e4, e5⟩, e2, e3⟩⟩
      · rw [dB_f gb]; exact ⟨_, _, rfl, fun h => absurd h (by decide)⟩
    rw [ei] at I1 I2
    clear ei ep es
    refine can_of hf rfl rfl ?_
    (repeat' (conv => whnf)<;>first|exact True.intro|(refine if_ ?_ ?_<;>intro h<;>first|exact h.elim|(exfalso; omega)|skip)|refine vs_ ?_|refine dv_ ?_|exact fin_|(show ∃ _, _ ∧ _; refine ex_ ?_ (by first|with_reducible exact rfl|with_reducible exact B0|with_reducible exact D1|exact rd_a1|exact rd_v1|with_reducible exact M1|with_reducible exact M2|exact rd_))|(show ∃ _ _, _ ∧ _; refine ex2_ ?_ (by first|with_reducible exact rfl|with_reducible exact B0|with_reducible exact D1|exact rd_a1|exact rd_v1|with_reducible exact M1|with_reducible exact M2|exact rd_)))
    conv => whnf
    refine vc_cut [] [] [] ?_ ?_
    rotate_left
    · intro K hK
      cases hbA : dB (IsAlgP a) with
      | true =>
        rw [hbA] at A1 A2
        (repeat' (conv => whnf)<;>first|exact True.intro|(refine if_ ?_ ?_<;>intro h<;>first|exact h.elim|(exfalso; omega)|(exfalso; revert h; decide +kernel)|skip)|refine vs_ ?_ (by first|exact ⟨conf_vec _, conf_vec _⟩|exact sd_)|refine dv_ ?_|exact fin_|(show ∃ _, _ ∧ _; refine ex_ ?_ (by first|with_reducible exact rfl|exact rd_a1|exact rd_v1|exact ⟨fun _ => rfl, fun _ => rfl⟩|with_reducible exact A1|with_reducible exact A2|exact rd_))|(show ∃ _ _, _ ∧ _; refine ex2_ ?_ (by first|with_reducible exact rfl|exact rd_a1|exact rd_v1|exact ⟨fun _ => rfl, fun _ => rfl⟩|with_reducible exact A1|with_reducible exact A2|exact rd_)))
        all_goals (refine hK _ ?_)
        all_goals (repeat' (conv => whnf)<;>first|exact True.intro|(refine if_ ?_ ?_<;>intro h<;>first|exact h.elim|(exfalso; omega)|skip)|refine vs_ ?_|refine dv_ ?_|exact fin_|(show ∃ _, _ ∧ _; refine ex_ ?_)|(show ∃ _ _, _ ∧ _; refine ex2_ ?_))
      | false =>
        rw [hbA] at A1 A2
        (repeat' (conv => whnf)<;>first|exact True.intro|(refine if_ ?_ ?_<;>intro h<;>first|exact h.elim|(exfalso; omega)|(exfalso; revert h; decide +kernel)|skip)|refine vs_ ?_ (by first|exact ⟨conf_vec _, conf_vec _⟩|exact sd_)|refine dv_ ?_|exact fin_|(show ∃ _, _ ∧ _; refine ex_ ?_ (by first|with_reducible exact rfl|exact rd_a1|exact rd_v1|exact ⟨fun _ => rfl, fun _ => rfl⟩|with_reducible exact A1|with_reducible exact A2|exact rd_))|(show ∃ _ _, _ ∧ _; refine ex2_ ?_ (by first|with_reducible exact rfl|exact rd_a1|exact rd_v1|exact ⟨fun _ => rfl, fun _ => rfl⟩|with_reducible exact A1|with_reducible exact A2|exact rd_)))
        all_goals (refine hK _ ?_)
        all_goals (repeat' (conv => whnf)<;>first|exact True.intro|(refine if_ ?_ ?_<;>intro h<;>first|exact h.elim|(exfalso; omega)|skip)|refine vs_ ?_|refine dv_ ?_|exact fin_|(show ∃ _, _ ∧ _; refine ex_ ?_)|(show ∃ _ _, _ ∧ _; refine ex2_ ?_))
    clear A1 A2
    (repeat' (conv => whnf)<;>first|exact True.intro|(refine if_ ?_ ?_<;>intro h<;>first|exact h.elim|(exfalso; omega)|skip)|refine vs_ ?_|refine dv_ ?_|exact fin_|(show ∃ _, _ ∧ _; refine ex_ ?_)|(show ∃ _ _, _ ∧ _; refine ex2_ ?_))
    conv => whnf
    refine vc_cut [] [] [] ?_ ?_
    rotate_left
    · intro K hK
      by_cases g0 : IsAlgP a ∧ AllSm a 2 (twoV v w)
      · rw [dB_t g0] at emv emc
        rw [if_pos rfl] at emv emc
        have ga := ga_of ha.inn g0.1
        have gv := gv_of ga hv (sm2_l g0.2)
        have gw := gv_of ga hw (sm2_r g0.2)
        subst emv emc
        have Q1 := mul0 hM ha.inn g0.1 (ga.times v w) gv
        have Q2 := mul0 hM ha.inn g0.1 gw gv
        have Q3 := mul0 hM ha.inn g0.1 gv (ga.times w v)
        rw [← ga.assoc] at Q3
        have Q4 := unit0 hU ha.inn g0.1
        have Q5 := mul0 hM ha.inn g0.1 ga.unit gv
        have Q6 := mul0 hM ha.inn g0.1 gv ga.unit
        rw [ga.ul gv] at Q5
        rw [ga.ur gv] at Q6
        have Q7 := pow0 hPw ha.inn g0.1 gv (k := 3) (by omega)
        have Q8 := pow0 hPw ha.inn g0.1 gv (k := 2) (by omega)
        have Q9 := mul0 hM ha.inn g0.1 gv (ga.fold (b := v) ga.unit 2)
        rw [← ga.fold_succ gv] at Q9
        (repeat' (conv => whnf)<;>first|exact True.intro|(refine if_ ?_ ?_<;>intro h<;>first|exact h.elim|(exfalso; omega)|skip)|refine vs_ ?_ (by first|exact ⟨conf_vec _, conf_vec _⟩|exact sd_)|refine dv_ ?_|exact fin_|(show ∃ _, _ ∧ _; refine ex_ ?_ (by first|with_reducible exact rfl|exact rd_a1|exact rd_v1|exact ⟨fun _ => rfl, fun _ => rfl⟩|with_reducible exact Q1|with_reducible exact Q2|with_reducible exact Q3|with_reducible exact Q4|with_reducible exact Q5|with_reducible exact Q6|exact Q7|exact Q8|with_reducible exact Q9|exact rd_))|(show ∃ _ _, _ ∧ _; refine ex2_ ?_ (by first|with_reducible exact rfl|exact rd_a1|exact rd_v1|exact ⟨fun _ => rfl, fun _ => rfl⟩|with_reducible exact Q1|with_reducible exact Q2|with_reducible exact Q3|with_reducible exact Q4|with_reducible exact Q5|with_reducible exact Q6|exact Q7|exact Q8|with_reducible exact Q9|exact rd_)))
        all_goals (refine hK _ ?_)
        all_goals (repeat' (conv => whnf)<;>first|exact True.intro|(refine if_ ?_ ?_<;>intro h<;>first|exact h.elim|(exfalso; omega)|skip)|refine vs_ ?_|refine dv_ ?_|exact fin_|(show ∃ _, _ ∧ _; refine ex_ ?_)|(show ∃ _ _, _ ∧ _; refine ex2_ ?_))
      · rw [dB_f g0] at emc
        rw [if_neg (by decide)] at emc
        subst emc
        (repeat' (conv => whnf)<;>first|exact True.intro|(refine if_ ?_ ?_<;>intro h<;>first|exact h.elim|(exfalso; omega)|skip)|refine vs_ ?_|refine dv_ ?_|exact fin_|(show ∃ _, _ ∧ _; refine ex_ ?_)|(show ∃ _ _, _ ∧ _; refine ex2_ ?_))
        all_goals (refine hK _ ?_)
        all_goals (repeat' (conv => whnf)<;>first|exact True.intro|(refine if_ ?_ ?_<;>intro h<;>first|exact h.elim|(exfalso; omega)|skip)|refine vs_ ?_|refine dv_ ?_|exact fin_|(show ∃ _, _ ∧ _; refine ex_ ?_)|(show ∃ _ _, _ ∧ _; refine ex2_ ?_))
    (repeat' (conv => whnf)<;>first|exact True.intro|(refine if_ ?_ ?_<;>intro h<;>first|exact h.elim|(exfalso; omega)|skip)|refine vs_ ?_ (by first|exact ⟨conf_vec _, conf_vec _⟩|exact sd_)|refine dv_ ?_|exact fin_|(show ∃ _, _ ∧ _; refine ex_ ?_ (by first|with_reducible exact rfl|with_reducible exact D2|exact rd_a1|exact rd_v1|with_reducible exact I1|with_reducible exact I2|exact ⟨fun _ => rfl, fun _ => rfl⟩|exact rd_))|(show ∃ _ _, _ ∧ _; refine ex2_ ?_ (by first|with_reducible exact rfl|with_reducible exact D2|exact rd_a1|exact rd_v1|with_reducible exact I1|with_reducible exact I2|exact ⟨fun _ => rfl, fun _ => rfl⟩|exact rd_)))
    conv => whnf
    refine vc_cut [] [] [] ?_ ?_
    rotate_left
    · intro K hK
      by_cases c0 : ic = 0
      · obtain ⟨gb, gu, gi, e1, e2⟩ := hic c0
        subst c0
        have Q1 := unit0 hU hb2.inn gb
        have Q2 := mul0 hM hb2.inn gb gu gi
        have Q3 := mul0 hM hb2.inn gb gi gu
        rw [e1] at Q2
        rw [e2] at Q3
        (repeat' (conv => whnf)<;>first|exact True.intro|(refine if_ ?_ ?_<;>intro h<;>first|exact h.elim|(exfalso; omega)|skip)|refine vs_ ?_ (by first|exact ⟨conf_vec _, conf_vec _⟩|exact sd_)|refine dv_ ?_|exact fin_|(show ∃ _, _ ∧ _; refine ex_ ?_ (by first|with_reducible exact rfl|exact rd_a1|exact rd_v1|exact ⟨fun _ => rfl, fun _ => rfl⟩|with_reducible exact Q1|with_reducible exact Q2|with_reducible exact Q3|exact rd_))|(show ∃ _ _, _ ∧ _; refine ex2_ ?_ (by first|with_reducible exact rfl|exact rd_a1|exact rd_v1|exact ⟨fun _ => rfl, fun _ => rfl⟩|with_reducible exact Q1|with_reducible exact Q2|with_reducible exact Q3|exact rd_)))
        all_goals (refine hK _ ?_)
        all_goals (repeat' (conv => whnf)<;>first|exact True.intro|(refine if_ ?_ ?_<;>intro h<;>first|exact h.elim|(exfalso; omega)|skip)|refine vs_ ?_|refine dv_ ?_|exact fin_|(show ∃ _, _ ∧ _; refine ex_ ?_)|(show ∃ _ _, _ ∧ _; refine ex2_ ?_))
      · (repeat' (conv => whnf)<;>first|exact True.intro|(refine if_ ?_ ?_<;>intro h<;>first|exact h.elim|(exfalso; omega)|skip)|refine vs_ ?_|refine dv_ ?_|exact fin_|(show ∃ _, _ ∧ _; refine ex_ ?_)|(show ∃ _ _, _ ∧ _; refine ex2_ ?_))
        all_goals (refine hK _ ?_)
        all_goals (repeat' (conv => whnf)<;>first|exact True.intro|(refine if_ ?_ ?_<;>intro h<;>first|exact h.elim|(exfalso; omega)|skip)|refine vs_ ?_|refine dv_ ?_|exact fin_|(show ∃ _, _ ∧ _; refine ex_ ?_)|(show ∃ _ _, _ ∧ _; refine ex2_ ?_))
    (repeat' (conv => whnf)<;>first|exact True.intro|(refine if_ ?_ ?_<;>intro h<;>first|exact h.elim|(exfalso; omega)|skip)|refine vs_ ?_ (by first|exact ⟨conf_vec _, conf_vec _⟩|exact sd_)|refine dv_ ?_|exact fin_|(show ∃ _, _ ∧ _; refine ex_ ?_ (by first|with_reducible exact rfl|with_reducible exact D3|with_reducible exact D4|with_reducible exact D5|with_reducible exact D6|exact rd_a1|exact rd_v1|with_reducible exact P1|with_reducible exact P2|with_reducible exact S1|with_reducible exact S2|with_reducible exact U1|with_reducible exact U2|with_reducible exact F1|with_reducible exact F2|exact ⟨fun _ => rfl, fun _ => rfl⟩|exact rd_))|(show ∃ _ _, _ ∧ _; refine ex2_ ?_ (by first|with_reducible exact rfl|with_reducible exact D3|with_reducible exact D4|with_reducible exact D5|with_reducible exact D6|exact rd_a1|exact rd_v1|with_reducible exact P1|with_reducible exact P2|with_reducible exact S1|with_reducible exact S2|with_reducible exact U1|with_reducible exact U2|with_reducible exact F1|with_reducible exact F2|exact ⟨fun _ => rfl, fun _ => rfl⟩|exact rd_)))
    all_goals (conv => whnf)
    all_goals (exact congrArg D.bool (by simp [Cm.int]))
  · rw [show decide ((m : Int) > 4096) = true from decide_eq_true (by omega)] at B0
    refine can_of hf rfl rfl ?_
    (repeat' (conv => whnf)<;>first|exact True.intro|(refine if_ ?_ ?_<;>intro h<;>first|exact h.elim|(exfalso; omega)|skip)|refine vs_ ?_|refine dv_ ?_|exact fin_|(show ∃ _, _ ∧ _; refine ex_ ?_ (by first|with_reducible exact rfl|with_reducible exact B0|exact rd_))|(show ∃ _ _, _ ∧ _; refine ex2_ ?_ (by first|with_reducible exact rfl|with_reducible exact B0|exact rd_)))
end Go.X
