import Derived.Test.YtphelkciklpakaaW14
set_option linter.all false
namespace Go.X
open Go Go.RowKit
set_option maxRecDepth 100000
set_option maxHeartbeats 8000000
set_option linter.unusedVariables false
set_option linter.unusedSimpArgs false
variable {P : Program} {N : FN}
def C_sheA (P : Program) (N : FN) : Prop := ∀ {a : Alg} {i j : Nat} {k : Int}, AlgOk a → (i : Int) < a.n → (j : Int) < a.n → 0 ≤ k ∧ k < a.p → Can P N.spec_l01Shear [algD a, .int .i64 i, .int .i64 j, .int .i64 k] (.val (algD (sheA a i j k)))
def z6 : List D := [.int .u8 0, .int .u8 0, .int .u8 0, .int .u8 0, .int .u8 0, .int .u8 0]
theorem z6_st {v : Row} : splice z6 0 (vecL v) = vecL v := splice_whole (by rw [show (vecL v).length = 6 from cel_len ..]; rfl)
theorem vv_st {v w : Row} : splice (vecL w) 0 (vecL v) = vecL v := splice_whole (by rw [show (vecL v).length = 6 from cel_len .., show (vecL w).length = 6 from cel_len ..])
theorem rd_v1 {v : Row} : sub2 ([z6].set 0 (splice z6 0 (vecL v))) 0 0 6 = some (vecL v) := by
  rw [z6_st]; exact rd_all
theorem rd_v2 {v w : Row} : sub2 (([z6].set 0 (splice z6 0 (vecL w))).set 0 (splice (splice z6 0 (vecL w)) 0 (vecL v))) 0 0 6 = some (vecL v) := by
  rw [z6_st, vv_st]; exact rd_all
theorem rd_vi {v : Row} {i : Nat} (h : i < 6) : get2 ([z6].set 0 (splice z6 0 (vecL v))) 0 (0 + ((i : Nat) : Int).toNat * 1) = some (.int .u8 (v i)) := by
  rw [z6_st]; exact rd_cel h
theorem rd_v3 {v : Row} {j : Nat} {x : Int} : sub2 (([z6].set 0 (splice z6 0 (vecL v))).set 0 ((splice z6 0 (vecL v)).set (0 + ((j : Nat) : Int).toNat * 1) (.int .u8 x))) 0 0 6 = some (vecL (upd v j x)) := by
  rw [z6_st, show 0 + ((j : Nat) : Int).toNat * 1 = j by omega]
  exact (congrArg (fun l => sub2 [l] 0 0 6) (cel_set (k := .u8) (m := 6) (f := v) (i := j) (x := x))).trans rd_all
theorem sherS_0 {a : Alg} {i j : Nat} {k : Int} : sherS a i j k 0 0 = a := by unfold sherS; rw [filR_0]
theorem c_sheA (hB : C_sBasis P N) (hA : C_sAdd P N) (hT : C_sTimes P N) (hM : C_sMod P N) (hf : isFn P N.spec_l01Shear (ir_spec_l01Shear N) = true) : C_sheA P N := by
  intro a i j k ha hi hj hk
  have h1 := ha.n
  have hp := prime_bd ha.p
  have hb := ha.b
  have f1 := (algAt_one a).n
  have f0 := (algAt_one a).p
  have fa := (algAt_one a).all
  have hla : (algL a).length = 224 := arr_len ..
  have hlz := algZ_len
  obtain ⟨n, en⟩ : ∃ n : Nat, a.n = n := ⟨a.n.toNat, by omega⟩
  have en' : a.n.toNat = n := by omega
  have hz : ∀ x y, (algL (sherS a i j k x y)).length = 224 := fun _ _ => arr_len ..
  have eA : Chunk.data algZ.length ([algZ].set 0 (splice algZ 0 (algL a))) = .data 224 [algL (sherS a i j k 0 0)] := by
    rw [sherS_0, splice_whole (by rw [hla, hlz]), hlz]; rfl
  have b6 : ∀ q, basV q = basV q := fun _ => rfl
  have hBi : ∀ q : Nat, q < 6 → Can P N.spec_l01Basis [.int .i64 q] (.val (vecD (basV q))) := fun q hq => hB hq
  refine can_of hf rfl rfl ?_
  (repeat' (conv => whnf)<;>first|exact True.intro|(refine if_ ?_ ?_<;>intro h<;>first|exact h.elim|(exfalso; omega)|skip)|refine vs_ ?_|refine dv_ ?_|exact fin_|(show ∃ _, _ ∧ _; refine ex_ ?_ (by first|with_reducible exact rfl|with_reducible exact fa|exact rd_))|(show ∃ _ _, _ ∧ _; refine ex2_ ?_ (by first|with_reducible exact rfl|with_reducible exact fa|exact rd_)))
  conv => whnf
  refine vc_loop (α := Nat) 0 (fun x => n - x) (fun x => x ≤ n) [] (fun x => [(10, .d (.int .i64 x))]) (fun x => [(10, .data 224 [algL (sherS a i j k x 0)])]) lp_ ?_ ?_
  · (repeat' (conv => whnf)<;>first|exact True.intro|(refine if_ ?_ ?_<;>intro h<;>first|exact h.elim|(exfalso; omega)|skip)|refine vs_ ?_ (by first|exact eA|exact sd_)|refine dv_ ?_|exact fin_|(show ∃ _, _ ∧ _; refine ex_ ?_)|(show ∃ _ _, _ ∧ _; refine ex2_ ?_))
  · intro x hx
    by_cases hlt : x < n
    · (repeat' (conv => whnf)<;>first|exact True.intro|(refine if_ ?_ ?_<;>intro h<;>first|exact h.elim|(exfalso; omega)|skip)|refine vs_ ?_|refine dv_ ?_|exact fin_|(show ∃ _, _ ∧ _; refine ex_ ?_ (by first|with_reducible exact rfl|with_reducible exact f1|with_reducible exact f0|exact rd_))|(show ∃ _ _, _ ∧ _; refine ex2_ ?_ (by first|with_reducible exact rfl|with_reducible exact f1|with_reducible exact f0|exact rd_)))
      conv => whnf
      refine vc_loop (α := Nat) 0 (fun y => n - y) (fun y => y ≤ n) [] (fun y => [(11, .d (.int .i64 y))]) (fun y => [(10, .data 224 [algL (sherS a i j k x y)])]) lp_ ?_ ?_
      · (repeat' (conv => whnf)<;>first|exact True.intro|(refine if_ ?_ ?_<;>intro h<;>first|exact h.elim|(exfalso; omega)|skip)|refine vs_ ?_|refine dv_ ?_|exact fin_|(show ∃ _, _ ∧ _; refine ex_ ?_)|(show ∃ _ _, _ ∧ _; refine ex2_ ?_))
      · intro y hy
        by_cases hlt2 : y < n
        · have B1 := hBi x (by omega)
          have B2 := hBi y (by omega)
          have B3 := hBi j (by omega)
          have A1 := hA (p := a.p) (v := basV x) (w := basV j) (k := k) (basV_byt x) (basV_byt j) (by omega) (by omega)
          have A2 := hA (p := a.p) (v := basV y) (w := basV j) (k := k) (basV_byt y) (basV_byt j) (by omega) (by omega)
          have ux : Byts (sherU a i j k x) := by unfold sherU; split; exact (addV_rw (by omega)).byt (by omega); exact basV_byt x
          have uy : Byts (sherU a i j k y) := by unfold sherU; split; exact (addV_rw (by omega)).byt (by omega); exact basV_byt y
          have T1 := hT (a := a) hb ux uy (by omega) (by omega)
          have w1 := times_rw (a := a) (by omega) (sherU a i j k x) (sherU a i j k y)
          have w2 : sherV a i j k x y = upd (timesV a (sherU a i j k x) (sherU a i j k y)) j ((timesV a (sherU a i j k x) (sherU a i j k y) j - k * timesV a (sherU a i j k x) (sherU a i j k y) i) % a.p) := rfl
          have ex : sherU a i j k x = if x = i then addV a.p k (basV x) (basV j) else basV x := rfl
          have ey : sherU a i j k y = if y = i then addV a.p k (basV y) (basV j) else basV y := rfl
          generalize sherU a i j k x = u at *
          generalize sherU a i j k y = v at *
          generalize timesV a u v = w at *
          have wi := w1 i
          have wj := w1 j
          have km : 0 ≤ k * w i ∧ k * w i ≤ 255 * 255 := mul_bd (by omega) (by omega)
          have M1 := hM (p := a.p) (x := w j - k * w i) (by omega) (by omega)
          have m1 := mod_bd (w j - k * w i) (show 1 ≤ a.p by omega)
          have st : splice (algL (sherS a i j k x y)) (0 + 2 + ((x : Nat) : Int).toNat * 36 + ((y : Nat) : Int).toNat * 6) (vecL (upd w j ((w j - k * w i) % a.p))) = algL (sherS a i j k x (y + 1)) := by
            rw [L_setR (by omega) (by omega), ← w2]
            unfold setR sherS
            dsimp only
            rw [filR_s (by omega)]
          have rj := rd_vi (v := w) (i := j) (by omega)
          have ri := rd_vi (v := w) (i := i) (by omega)
          by_cases cx : x = i
          · by_cases cy : y = i
            · rw [if_pos cx] at ex
              rw [if_pos cy] at ey
              subst ex ey
              (repeat' (conv => whnf)<;>first|exact True.intro|(refine if_ ?_ ?_<;>intro h<;>first|exact h.elim|(exfalso; omega)|skip)|refine vs_ ?_ (by first|(simp only [hz]; omega)|exact sd_)|refine dv_ ?_|exact fin_|(show ∃ _, _ ∧ _; refine ex_ ?_ (by first|with_reducible exact rfl|with_reducible exact f1|with_reducible exact f0|with_reducible exact fa|exact rd_v2|exact rd_v1|exact rj|exact ri|exact rd_v3|exact B1|exact B2|exact B3|exact A1|exact A2|exact T1|exact M1|exact rd_))|(show ∃ _ _, _ ∧ _; refine ex2_ ?_ (by first|with_reducible exact rfl|with_reducible exact f1|with_reducible exact f0|with_reducible exact fa|exact rd_v2|exact rd_v1|exact rj|exact ri|exact rd_v3|exact B1|exact B2|exact B3|exact A1|exact A2|exact T1|exact M1|exact rd_)))
              conv => whnf
              refine ⟨y + 1, by omega, by omega, ?_⟩
              rw [← st]
              (repeat' (conv => whnf)<;>first|exact True.intro|(refine if_ ?_ ?_<;>intro h<;>first|exact h.elim|(exfalso; omega)|skip)|refine vs_ ?_|refine dv_ ?_|exact fin_|(show ∃ _, _ ∧ _; refine ex_ ?_)|(show ∃ _ _, _ ∧ _; refine ex2_ ?_))
            · rw [if_pos cx] at ex
              rw [if_neg cy] at ey
              subst ex ey
              (repeat' (conv => whnf)<;>first|exact True.intro|(refine if_ ?_ ?_<;>intro h<;>first|exact h.elim|(exfalso; omega)|skip)|refine vs_ ?_ (by first|(simp only [hz]; omega)|exact sd_)|refine dv_ ?_|exact fin_|(show ∃ _, _ ∧ _; refine ex_ ?_ (by first|with_reducible exact rfl|with_reducible exact f1|with_reducible exact f0|with_reducible exact fa|exact rd_v2|exact rd_v1|exact rj|exact ri|exact rd_v3|exact B1|exact B2|exact B3|exact A1|exact A2|exact T1|exact M1|exact rd_))|(show ∃ _ _, _ ∧ _; refine ex2_ ?_ (by first|with_reducible exact rfl|with_reducible exact f1|with_reducible exact f0|with_reducible exact fa|exact rd_v2|exact rd_v1|exact rj|exact ri|exact rd_v3|exact B1|exact B2|exact B3|exact A1|exact A2|exact T1|exact M1|exact rd_)))
              conv => whnf
              refine ⟨y + 1, by omega, by omega, ?_⟩
              rw [← st]
              (repeat' (conv => whnf)<;>first|exact True.intro|(refine if_ ?_ ?_<;>intro h<;>first|exact h.elim|(exfalso; omega)|skip)|refine vs_ ?_|refine dv_ ?_|exact fin_|(show ∃ _, _ ∧ _; refine ex_ ?_)|(show ∃ _ _, _ ∧ _; refine ex2_ ?_))
          · by_cases cy : y = i
            · rw [if_neg cx] at ex
              rw [if_pos cy] at ey
              subst ex ey
              (repeat' (conv => whnf)<;>first|exact True.intro|(refine if_ ?_ ?_<;>intro h<;>first|exact h.elim|(exfalso; omega)|skip)|refine vs_ ?_ (by first|(simp only [hz]; omega)|exact sd_)|refine dv_ ?_|exact fin_|(show ∃ _, _ ∧ _; refine ex_ ?_ (by first|with_reducible exact rfl|with_reducible exact f1|with_reducible exact f0|with_reducible exact fa|exact rd_v2|exact rd_v1|exact rj|exact ri|exact rd_v3|exact B1|exact B2|exact B3|exact A1|exact A2|exact T1|exact M1|exact rd_))|(show ∃ _ _, _ ∧ _; refine ex2_ ?_ (by first|with_reducible exact rfl|with_reducible exact f1|with_reducible exact f0|with_reducible exact fa|exact rd_v2|exact rd_v1|exact rj|exact ri|exact rd_v3|exact B1|exact B2|exact B3|exact A1|exact A2|exact T1|exact M1|exact rd_)))
              conv => whnf
              refine ⟨y + 1, by omega, by omega, ?_⟩
              rw [← st]
              (repeat' (conv => whnf)<;>first|exact True.intro|(refine if_ ?_ ?_<;>intro h<;>first|exact h.elim|(exfalso; omega)|skip)|refine vs_ ?_|refine dv_ ?_|exact fin_|(show ∃ _, _ ∧ _; refine ex_ ?_)|(show ∃ _ _, _ ∧ _; refine ex2_ ?_))
            · rw [if_neg cx] at ex
              rw [if_neg cy] at ey
              subst ex ey
              (repeat' (conv => whnf)<;>first|exact True.intro|(refine if_ ?_ ?_<;>intro h<;>first|exact h.elim|(exfalso; omega)|skip)|refine vs_ ?_ (by first|(simp only [hz]; omega)|exact sd_)|refine dv_ ?_|exact fin_|(show ∃ _, _ ∧ _; refine ex_ ?_ (by first|with_reducible exact rfl|with_reducible exact f1|with_reducible exact f0|with_reducible exact fa|exact rd_v2|exact rd_v1|exact rj|exact ri|exact rd_v3|exact B1|exact B2|exact B3|exact A1|exact A2|exact T1|exact M1|exact rd_))|(show ∃ _ _, _ ∧ _; refine ex2_ ?_ (by first|with_reducible exact rfl|with_reducible exact f1|with_reducible exact f0|with_reducible exact fa|exact rd_v2|exact rd_v1|exact rj|exact ri|exact rd_v3|exact B1|exact B2|exact B3|exact A1|exact A2|exact T1|exact M1|exact rd_)))
              conv => whnf
              refine ⟨y + 1, by omega, by omega, ?_⟩
              rw [← st]
              (repeat' (conv => whnf)<;>first|exact True.intro|(refine if_ ?_ ?_<;>intro h<;>first|exact h.elim|(exfalso; omega)|skip)|refine vs_ ?_|refine dv_ ?_|exact fin_|(show ∃ _, _ ∧ _; refine ex_ ?_)|(show ∃ _ _, _ ∧ _; refine ex2_ ?_))
        · have : y = n := by omega
          subst this
          (repeat' (conv => whnf)<;>first|exact True.intro|(refine if_ ?_ ?_<;>intro h<;>first|exact h.elim|(exfalso; omega)|skip)|refine vs_ ?_|refine dv_ ?_|exact fin_|(show ∃ _, _ ∧ _; refine ex_ ?_ (by first|with_reducible exact rfl|with_reducible exact f1|with_reducible exact f0|exact rd_))|(show ∃ _ _, _ ∧ _; refine ex2_ ?_ (by first|with_reducible exact rfl|with_reducible exact f1|with_reducible exact f0|exact rd_)))
          conv => whnf
          refine ⟨x + 1, by omega, by omega, ?_⟩
          rw [show sherS a i j k (x + 1) 0 = sherS a i j k x y from by unfold sherS; rw [en', filR_r]]
          (repeat' (conv => whnf)<;>first|exact True.intro|(refine if_ ?_ ?_<;>intro h<;>first|exact h.elim|(exfalso; omega)|skip)|refine vs_ ?_|refine dv_ ?_|exact fin_|(show ∃ _, _ ∧ _; refine ex_ ?_)|(show ∃ _ _, _ ∧ _; refine ex2_ ?_))
    · have : x = n := by omega
      subst this
      have fi := ha.f i
      have fj := ha.f j
      have km : 0 ≤ k * a.f j ∧ k * a.f j ≤ 255 * 255 := mul_bd (by omega) (by omega)
      have M2 := hM (p := a.p) (x := a.f i + k * a.f j) (by omega) (by omega)
      have m2 := mod_bd (a.f i + k * a.f j) (show 1 ≤ a.p by omega)
      have e9 : (algL (sherS a i j k x 0)).set (0 + 218 + ((i : Nat) : Int).toNat * 1) (.int .u8 ((a.f i + k * a.f j) % a.p)) = algL (sheA a i j k) := by
        rw [L_setF (by omega)]; unfold sheA; rw [en']
      (repeat' (conv => whnf)<;>first|exact True.intro|(refine if_ ?_ ?_<;>intro h<;>first|exact h.elim|(exfalso; omega)|skip)|refine vs_ ?_ (by first|(simp only [hz]; omega)|exact sd_)|refine dv_ ?_|exact fin_|(show ∃ _, _ ∧ _; refine ex_ ?_ (by first|with_reducible exact rfl|with_reducible exact f1|with_reducible exact f0|exact M2|exact rd_))|(show ∃ _ _, _ ∧ _; refine ex2_ ?_ (by first|with_reducible exact rfl|with_reducible exact f1|with_reducible exact f0|exact M2|exact rd_)))
      rw [e9]
      (repeat' (conv => whnf)<;>first|exact True.intro|(refine if_ ?_ ?_<;>intro h<;>first|exact h.elim|(exfalso; omega)|skip)|refine vs_ ?_|refine dv_ ?_|exact fin_|(show ∃ _, _ ∧ _; refine ex_ ?_ (by first|with_reducible exact rfl|exact rd_one|exact rd_))|(show ∃ _ _, _ ∧ _; refine ex2_ ?_ (by first|with_reducible exact rfl|exact rd_one|exact rd_)))
end Go.X
