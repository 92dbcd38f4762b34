import Derived.Test.YtmbocpoebbijmaaK17
import Derived.Test.YtmbocpoebbijmaaW11
set_option linter.all false
namespace Go.X
open Go Go.RowKit
set_option maxRecDepth 100000
set_option maxHeartbeats 8000000
set_option linter.unusedVariables false
variable {P : Program} {N : FN}
theorem gp_F {p : Int} {g : Grp} : (pairL ⟨ctA p g, gaA p g, fun _ _ => 0⟩).set (0 + 0 + 218 + (0 : Int).toNat * 1) (.int .u8 (invF p (g.n % p))) = pairL (gpF p g 0 0) := by
  rw [pr_setF]
  unfold gpF
  rw [zF_0]; rfl
theorem st_prF {p : Int} {g : Grp} : Chunk.data prZ.length (([prZ].set 0 (splice prZ 0 (splice (splice prZ 0 (algL (ctA p g))) 224 (algL (gaA p g))))).set 0 ((splice prZ 0 (splice (splice prZ 0 (algL (ctA p g))) 224 (algL (gaA p g)))).set (0 + 0 + 218 + (0 : Int).toNat * 1) (.int .u8 (invF p (g.n % p))))) = .data 484 [pairL (gpF p g 0 0)] := by
  rw [pr_build, splice_whole (by rw [prZ_len]; exact arr_len ..), List.set_cons_zero, List.set_cons_zero, gp_F, prZ_len]
theorem pr_l1 {c o : Alg} : (algL o).length = 224 ∧ 224 + 224 ≤ (splice prZ 0 (algL c)).length := by
  refine ⟨arr_len .., ?_⟩
  rw [splice_len (by rw [prZ_len]; show 0 + (arr 224 _).length ≤ 484; rw [arr_len]; decide), prZ_len]; decide
theorem pr_l2 {c o : Alg} : 0 + 0 + 218 + (0 : Int).toNat * 1 < (splice prZ 0 (splice (splice prZ 0 (algL c)) 224 (algL o))).length := by
  rw [pr_build, splice_whole (by rw [prZ_len]; exact arr_len ..)]
  show _ < (arr 484 _).length
  rw [arr_len]; decide
theorem pr_rdz : sub2 ([prZ].set 0 (splice prZ 0 prZ)) 0 0 484 = some (pairL zPr) := by
  rw [List.set_cons_zero, splice_whole rfl, prZ_L]
  exact sub2_one (pairL_len _)
theorem gp_inv {p x : Int} (hp : p ∈ primes) (hx : x % p ≠ 0) : 0 < x % p ∧ x % p < p ∧ 0 < invF p (x % p) ∧ invF p (x % p) < p := by
  have hb := mod_bd x (show 1 ≤ p by have := prime_bd hp; omega)
  have := inv_mul hp (x := x % p) (by omega)
  exact ⟨by omega, hb.2, this.2.1, this.2.2⟩
theorem rowP_set {p : Int} {g : Grp} {k : Nat} (hk : k < 6) : splice (pairL (gpF p g k 0)) (0 + 448 + ((k : Nat) : Int).toNat * 6) (vecL (zV g k (cS g k).length)) = pairL (gpF p g (k + 1) 0) := by
  rw [pr_splZ hk]
  unfold gpF
  dsimp only
  rw [zF_row]
theorem zV_set {g : Grp} {k q : Nat} (h : q < (cS g k).length) : (vecL (zV g k q)).set (0 + (((cS g k).getD q 0 : Nat) : Int).toNat * 1) (.int .u8 1) = vecL (zV g k (q + 1)) := by
  rw [show 0 + (((cS g k).getD q 0 : Nat) : Int).toNat * 1 = (cS g k).getD q 0 by omega]
  show (cel .u8 6 (zV g k q)).set _ _ = cel .u8 6 _
  rw [cel_set, zV_s h]
theorem c_sl10Group (hA : C_sAlgG P N) (hB : C_sClsAlg P N) (hC : C_sClasses P N) (hI : C_sInverse P N) (hf : isFn P N.spec_l10Group (ir_spec_l10Group N) = true) : C_sl10Group P N := by
  intro g p hb hg hp hne
  have hn := hg.1
  have hp2 := prime_bd hp
  have hat := grpAt_one g
  have hgl := hat.all
  have hA' := hA (p := p) hb hg
  have hB' := hB (p := p) hb hg hp
  have hC' := hC hb hg
  have hcl := clD_len g
  have hcm := clsS_len g
  have mb := mod_bd g.n (show 1 ≤ p by omega)
  have hI' := hI (x := g.n % p) (p := p) (by omega) (by omega)
  have ib := gp_inv hp hne
  refine can_of hf rfl rfl ?_
  (repeat' (conv => whnf)<;>first|exact True.intro|(refine if_ ?_ ?_<;>intro h<;>first|exact h.elim|(exfalso; omega)|skip)|refine vs_ ?_ (by first|exact pr_l1 | exact pr_l2|exact sd_)|refine dv_ ?_|exact fin_|(show ∃ _, _ ∧ _; refine ex_ ?_ (by first|with_reducible exact rfl|with_reducible exact hgl|exact hB'|exact hA'|exact hC'|with_reducible exact hat.n|exact hI'|exact rd_))|(show ∃ _ _, _ ∧ _; refine ex2_ ?_ (by first|with_reducible exact rfl|with_reducible exact hgl|exact hB'|exact hA'|exact hC'|with_reducible exact hat.n|exact hI'|exact rd_)))
  conv => whnf
  refine vc_loop (α := Nat) 0 (fun k => (clsS g).length - k) (fun k => k ≤ (clsS g).length) [] (fun k => [(7, .d (.int .i64 k))]) (fun k => [(6, .data 484 [pairL (gpF p g k 0)])]) lp_ ?_ ?_
  · (repeat' (conv => whnf)<;>first|exact True.intro|(refine if_ ?_ ?_<;>intro h<;>first|exact h.elim|(exfalso; omega)|skip)|refine vs_ ?_ (by first|exact st_prF|exact sd_)|refine dv_ ?_|exact fin_|(show ∃ _, _ ∧ _; refine ex_ ?_)|(show ∃ _ _, _ ∧ _; refine ex2_ ?_))
  · intro k hk
    by_cases hlt : k < (clsS g).length
    · have hk6 : k < 6 := by omega
      have gk := get2_clD hlt
      have lk := iN_len (cS g k)
      have ld := cS_len hb hg hlt
      have hpl : (pairL (gpF p g k 0)).length = 484 := arr_len ..
      (repeat' (conv => whnf)<;>first|exact True.intro|(refine if_ ?_ ?_<;>intro h<;>first|exact h.elim|(exfalso; omega)|skip)|refine vs_ ?_|refine dv_ ?_|exact fin_|(show ∃ _, _ ∧ _; refine ex_ ?_)|(show ∃ _ _, _ ∧ _; refine ex2_ ?_))
      conv => whnf
      refine vc_loop (α := Nat) 0 (fun q => (cS g k).length - q) (fun q => q ≤ (cS g k).length) [] (fun q => [(9, .d (.int .i64 q))]) (fun q => [(9, .data 6 [vecL (zV g k q)])]) lp_ ?_ ?_
      · rw [zV_0]
        (repeat' (conv => whnf)<;>first|exact True.intro|(refine if_ ?_ ?_<;>intro h<;>first|exact h.elim|(exfalso; omega)|skip)|refine vs_ ?_ (by first|exact zeros6 (fun i _ => rfl)|exact sd_)|refine dv_ ?_|exact fin_|(show ∃ _, _ ∧ _; refine ex_ ?_)|(show ∃ _ _, _ ∧ _; refine ex2_ ?_))
      · intro q hq
        by_cases hlt2 : q < (cS g k).length
        · have gq := get2_iN hlt2
          have hq2 := cS_at hlt hlt2
          have hvl : (vecL (zV g k q)).length = 6 := arr_len ..
          (repeat' (conv => whnf)<;>first|exact True.intro|(refine if_ ?_ ?_<;>intro h<;>first|exact h.elim|(exfalso; omega)|skip)|refine vs_ ?_|refine dv_ ?_|exact fin_|(show ∃ _, _ ∧ _; refine ex_ ?_ (by first|with_reducible exact rfl|with_reducible exact gk|with_reducible exact gq|exact rd_))|(show ∃ _ _, _ ∧ _; refine ex2_ ?_ (by first|with_reducible exact rfl|with_reducible exact gk|with_reducible exact gq|exact rd_)))
          conv => whnf
          refine ⟨q + 1, by omega, by omega, ?_⟩
          rw [← zV_set hlt2]
          (repeat' (conv => whnf)<;>first|exact True.intro|(refine if_ ?_ ?_<;>intro h<;>first|exact h.elim|(exfalso; omega)|skip)|refine vs_ ?_|refine dv_ ?_|exact fin_|(show ∃ _, _ ∧ _; refine ex_ ?_)|(show ∃ _ _, _ ∧ _; refine ex2_ ?_))
        · have : q = (cS g k).length := by omega
          subst this
          (repeat' (conv => whnf)<;>first|exact True.intro|(refine if_ ?_ ?_<;>intro h<;>first|exact h.elim|(exfalso; omega)|skip)|refine vs_ ?_ (by first|exact ⟨cel_len .., by rw [hpl]; omega⟩|exact sd_)|refine dv_ ?_|exact fin_|(show ∃ _, _ ∧ _; refine ex_ ?_ (by first|with_reducible exact rfl|with_reducible exact gk|with_reducible exact sub2_one (cel_len ..)|exact rd_))|(show ∃ _ _, _ ∧ _; refine ex2_ ?_ (by first|with_reducible exact rfl|with_reducible exact gk|with_reducible exact sub2_one (cel_len ..)|exact rd_)))
          conv => whnf
          refine ⟨k + 1, by omega, by omega, ?_⟩
          rw [← rowP_set hk6]
          (repeat' (conv => whnf)<;>first|exact True.intro|(refine if_ ?_ ?_<;>intro h<;>first|exact h.elim|(exfalso; omega)|skip)|refine vs_ ?_|refine dv_ ?_|exact fin_|(show ∃ _, _ ∧ _; refine ex_ ?_)|(show ∃ _ _, _ ∧ _; refine ex2_ ?_))
    · have : k = (clsS g).length := by omega
      subst this
      have hal : (pairL (gpF p g (clsS g).length 0)).length = 484 := arr_len ..
      (repeat' (conv => whnf)<;>first|exact True.intro|(refine if_ ?_ ?_<;>intro h<;>first|exact h.elim|(exfalso; omega)|skip)|refine vs_ ?_|refine dv_ ?_|exact fin_|(show ∃ _, _ ∧ _; refine ex_ ?_ (by first|with_reducible exact rfl|with_reducible exact sub2_one hal|with_reducible exact pair_rd2 prZ_len|exact rd_))|(show ∃ _ _, _ ∧ _; refine ex2_ ?_ (by first|with_reducible exact rfl|with_reducible exact sub2_one hal|with_reducible exact pair_rd2 prZ_len|exact rd_)))
end Go.X
