import Derived.Test.YtmbocpoebbijmaaW12
set_option linter.all false
namespace Go.X
open Go Go.RowKit
set_option maxRecDepth 100000
set_option maxHeartbeats 8000000
set_option linter.unusedVariables false
variable {P : Program} {N : FN}
theorem c_sGroupPair (hC : C_sCodeG P N) (hG : C_sl10Group P N) (hf : isFn P N.spec_GroupPair (ir_spec_GroupPair N) = true) : C_sGroupPair P N := by
  intro g p hb
  have hat := grpAt_one g
  have hgl := hat.all
  have hC' := hC (p := p) hb
  refine can_of hf rfl rfl ?_
  by_cases g1 : GP g
  · have hn := g1.1
    by_cases g2 : p ∈ primes
    · have hp2 := prime_bd g2
      have mb := mod_bd g.n (show 1 ≤ p by omega)
      rw [dB_t g1, decide_eq_true g2] at hC' ⊢
      change Can P _ _ (.val (.int .i64 0)) at hC'
      by_cases g3 : g.n % p = 0
      · rw [show gpR true true p g = .tup [pairD zPr, .int .i64 5] from by unfold gpR gpX gpC; rw [if_neg (fun h => h.2.2 g3)]; simp [g3]]
        (repeat' (conv => whnf)<;>first|exact True.intro|(refine if_ ?_ ?_<;>intro h<;>first|exact h.elim|(exfalso; omega)|skip)|refine vs_ ?_|refine dv_ ?_|exact fin_|(show ∃ _, _ ∧ _; refine ex_ ?_ (by first|with_reducible exact rfl|with_reducible exact hgl|exact hC'|with_reducible exact hat.n|with_reducible exact pr_rdz|exact rd_))|(show ∃ _ _, _ ∧ _; refine ex2_ ?_ (by first|with_reducible exact rfl|with_reducible exact hgl|exact hC'|with_reducible exact hat.n|with_reducible exact pr_rdz|exact rd_)))
      · have hG' := hG hb g1 g2 g3
        rw [show gpR true true p g = .tup [pairD (gpP p g), .int .i64 0] from by unfold gpR gpX gpC; rw [if_pos ⟨rfl, rfl, g3⟩]; simp [g3]]
        (repeat' (conv => whnf)<;>first|exact True.intro|(refine if_ ?_ ?_<;>intro h<;>first|exact h.elim|(exfalso; omega)|skip)|refine vs_ ?_|refine dv_ ?_|exact fin_|(show ∃ _, _ ∧ _; refine ex_ ?_ (by first|with_reducible exact rfl|with_reducible exact hgl|exact hC'|with_reducible exact hat.n|exact hG'|with_reducible exact pair_rd2 prZ_len|exact rd_))|(show ∃ _ _, _ ∧ _; refine ex2_ ?_ (by first|with_reducible exact rfl|with_reducible exact hgl|exact hC'|with_reducible exact hat.n|exact hG'|with_reducible exact pair_rd2 prZ_len|exact rd_)))
    · rw [dB_t g1, decide_eq_false g2] at hC' ⊢
      change Can P _ _ (.val (.int .i64 2)) at hC'
      rw [show gpR true false p g = .tup [pairD zPr, .int .i64 2] from by unfold gpR gpX gpC; rw [if_neg (fun h => by simp at h)]; rfl]
      (repeat' (conv => whnf)<;>first|exact True.intro|(refine if_ ?_ ?_<;>intro h<;>first|exact h.elim|(exfalso; omega)|skip)|refine vs_ ?_|refine dv_ ?_|exact fin_|(show ∃ _, _ ∧ _; refine ex_ ?_ (by first|with_reducible exact rfl|with_reducible exact hgl|exact hC'|with_reducible exact pr_rdz|exact rd_))|(show ∃ _ _, _ ∧ _; refine ex2_ ?_ (by first|with_reducible exact rfl|with_reducible exact hgl|exact hC'|with_reducible exact pr_rdz|exact rd_)))
  · rw [dB_f g1] at hC' ⊢
    rw [show codG false (decide (p ∈ primes)) = 1 from rfl] at hC'
    rw [show gpR false (decide (p ∈ primes)) p g = .tup [pairD zPr, .int .i64 1] from by unfold gpR gpX gpC; rw [if_neg (fun h => by simp at h)]; rfl]
    (repeat' (conv => whnf)<;>first|exact True.intro|(refine if_ ?_ ?_<;>intro h<;>first|exact h.elim|(exfalso; omega)|skip)|refine vs_ ?_|refine dv_ ?_|exact fin_|(show ∃ _, _ ∧ _; refine ex_ ?_ (by first|with_reducible exact rfl|with_reducible exact hgl|exact hC'|with_reducible exact pr_rdz|exact rd_))|(show ∃ _ _, _ ∧ _; refine ex2_ ?_ (by first|with_reducible exact rfl|with_reducible exact hgl|exact hC'|with_reducible exact pr_rdz|exact rd_)))
theorem gpZ_set {p : Int} {g : Grp} {k q : Nat} (hk : k < 6) (hq : q < (cS g k).length) (h6 : (cS g k).getD q 0 < 6) : (pairL (gpF p g k q)).set (0 + 448 + ((k : Nat) : Int).toNat * 6 + (((cS g k).getD q 0 : Nat) : Int).toNat * 1) (.int .u8 1) = pairL (gpF p g k (q + 1)) := by
  rw [pr_setZ hk h6]
  unfold gpF
  dsimp only
  rw [zF_s hq]
theorem gp_r {p : Int} {g : Grp} {k : Nat} : gpF p g k (cS g k).length = gpF p g (k + 1) 0 := by unfold gpF; rw [zF_r]
theorem c_GroupPair (hC : C_primed P N) (hA : C_gAlg P N) (hB : C_gClsAlg P N) (hK : C_classes P N) (hI : C_inverse P N) (hf : isFn P N.impl_GroupPair (ir_impl_GroupPair N) = true) : C_GroupPair P N := by
  intro g p hb
  have hat := grpAt_one g
  have hgl := hat.all
  have hC' := hC (p := p) hb
  refine can_of hf rfl rfl ?_
  by_cases g1 : GP g
  · have hn := g1.1
    by_cases g2 : p ∈ primes
    · have hp2 := prime_bd g2
      have mb := mod_bd g.n (show 1 ≤ p by omega)
      rw [dB_t g1, decide_eq_true g2] at hC' ⊢
      change Can P _ _ (.val (.int .i64 0)) at hC'
      by_cases g3 : g.n % p = 0
      · rw [show gpR true true p g = .tup [pairD zPr, .int .i64 5] from by unfold gpR gpX gpC; rw [if_neg (fun h => h.2.2 g3)]; simp [g3]]
        (repeat' (conv => whnf)<;>first|exact True.intro|(refine if_ ?_ ?_<;>intro h<;>first|exact h.elim|(exfalso; omega)|skip)|refine vs_ ?_|refine dv_ ?_|exact fin_|(show ∃ _, _ ∧ _; refine ex_ ?_ (by first|with_reducible exact rfl|with_reducible exact hgl|exact hC'|with_reducible exact hat.n|with_reducible exact pr_rdz|exact rd_))|(show ∃ _ _, _ ∧ _; refine ex2_ ?_ (by first|with_reducible exact rfl|with_reducible exact hgl|exact hC'|with_reducible exact hat.n|with_reducible exact pr_rdz|exact rd_)))
      · have ib := gp_inv g2 g3
        have hI' := hI (x := g.n % p) g2 ⟨ib.1, ib.2.1⟩
        have hA' := hA (sz := (grpL g).length) (p := p) hat hb g1
        have hB' := hB (sz := (grpL g).length) hat hb g1 g2
        have hK' := hK (sz := (grpL g).length) hat hb g1
        have hcl := clD_len g
        have hcm := clsS_len g
        rw [show gpR true true p g = .tup [pairD (gpP p g), .int .i64 0] from by unfold gpR gpX gpC; rw [if_pos ⟨rfl, rfl, g3⟩]; simp [g3]]
        (repeat' (conv => whnf)<;>first|exact True.intro|(refine if_ ?_ ?_<;>intro h<;>first|exact h.elim|(exfalso; omega)|skip)|refine vs_ ?_ (by first|exact pr_l1 | exact pr_l2|exact sd_)|refine dv_ ?_|exact fin_|(show ∃ _, _ ∧ _; refine ex_ ?_ (by first|with_reducible exact rfl|with_reducible exact hgl|exact hC'|with_reducible exact hat.n|exact hB'|exact hA'|exact hI'|exact hK'|exact rd_))|(show ∃ _ _, _ ∧ _; refine ex2_ ?_ (by first|with_reducible exact rfl|with_reducible exact hgl|exact hC'|with_reducible exact hat.n|exact hB'|exact hA'|exact hI'|exact hK'|exact rd_)))
        conv => whnf
        refine vc_loop (α := Nat) 0 (fun k => (clsS g).length - k) (fun k => k ≤ (clsS g).length) [] (fun k => [(42, .d (.int .i64 k))]) (fun k => [(8, .data 484 [pairL (gpF p g k 0)])]) lp_ ?_ ?_
        · (repeat' (conv => whnf)<;>first|exact True.intro|(refine if_ ?_ ?_<;>intro h<;>first|exact h.elim|(exfalso; omega)|skip)|refine vs_ ?_ (by first|exact st_prF|exact sd_)|refine dv_ ?_|exact fin_|(show ∃ _, _ ∧ _; refine ex_ ?_)|(show ∃ _ _, _ ∧ _; refine ex2_ ?_))
        · intro k hk
          by_cases hlt : k < (clsS g).length
          · have hk6 : k < 6 := by omega
            have gk := get2_clD hlt
            have lk := iN_len (cS g k)
            have ld := cS_len hb g1 hlt
            (repeat' (conv => whnf)<;>first|exact True.intro|(refine if_ ?_ ?_<;>intro h<;>first|exact h.elim|(exfalso; omega)|skip)|refine vs_ ?_|refine dv_ ?_|exact fin_|(show ∃ _, _ ∧ _; refine ex_ ?_ (by first|with_reducible exact rfl|with_reducible exact gk|exact rd_))|(show ∃ _ _, _ ∧ _; refine ex2_ ?_ (by first|with_reducible exact rfl|with_reducible exact gk|exact rd_)))
            conv => whnf
            refine vc_loop (α := Nat) 0 (fun q => (cS g k).length - q) (fun q => q ≤ (cS g k).length) [] (fun q => [(49, .d (.int .i64 q))]) (fun q => [(8, .data 484 [pairL (gpF p g k q)])]) lp_ ?_ ?_
            · (repeat' (conv => whnf)<;>first|exact True.intro|(refine if_ ?_ ?_<;>intro h<;>first|exact h.elim|(exfalso; omega)|skip)|refine vs_ ?_|refine dv_ ?_|exact fin_|(show ∃ _, _ ∧ _; refine ex_ ?_)|(show ∃ _ _, _ ∧ _; refine ex2_ ?_))
            · intro q hq
              by_cases hlt2 : q < (cS g k).length
              · have gq := get2_iN hlt2
                have hq2 := cS_at hlt hlt2
                have hpl : (pairL (gpF p g k q)).length = 484 := arr_len ..
                (repeat' (conv => whnf)<;>first|exact True.intro|(refine if_ ?_ ?_<;>intro h<;>first|exact h.elim|(exfalso; omega)|skip)|refine vs_ ?_ (by first|exact ⟨rfl, by rw [hpl]; omega⟩|exact sd_)|refine dv_ ?_|exact fin_|(show ∃ _, _ ∧ _; refine ex_ ?_ (by first|with_reducible exact rfl|with_reducible exact gq|exact rd_))|(show ∃ _ _, _ ∧ _; refine ex2_ ?_ (by first|with_reducible exact rfl|with_reducible exact gq|exact rd_)))
                conv => whnf
                refine ⟨q + 1, by omega, by omega, ?_⟩
                rw [← gpZ_set hk6 hlt2 (by omega)]
                (repeat' (conv => whnf)<;>first|exact True.intro|(refine if_ ?_ ?_<;>intro h<;>first|exact h.elim|(exfalso; omega)|skip)|refine vs_ ?_|refine dv_ ?_|exact fin_|(show ∃ _, _ ∧ _; refine ex_ ?_)|(show ∃ _ _, _ ∧ _; refine ex2_ ?_))
              · have : q = (cS g k).length := by omega
                subst this
                rw [gp_r]
                (repeat' (conv => whnf)<;>first|exact True.intro|(refine if_ ?_ ?_<;>intro h<;>first|exact h.elim|(exfalso; omega)|skip)|refine vs_ ?_|refine dv_ ?_|exact fin_|(show ∃ _, _ ∧ _; refine ex_ ?_)|(show ∃ _ _, _ ∧ _; refine ex2_ ?_))
                conv => whnf
                refine ⟨k + 1, by omega, by omega, ?_⟩
                (repeat' (conv => whnf)<;>first|exact True.intro|(refine if_ ?_ ?_<;>intro h<;>first|exact h.elim|(exfalso; omega)|skip)|refine vs_ ?_|refine dv_ ?_|exact fin_|(show ∃ _, _ ∧ _; refine ex_ ?_)|(show ∃ _ _, _ ∧ _; refine ex2_ ?_))
          · have : k = (clsS g).length := by omega
            subst this
            have hal : (pairL (gpF p g (clsS g).length 0)).length = 484 := arr_len ..
            (repeat' (conv => whnf)<;>first|exact True.intro|(refine if_ ?_ ?_<;>intro h<;>first|exact h.elim|(exfalso; omega)|skip)|refine vs_ ?_|refine dv_ ?_|exact fin_|(show ∃ _, _ ∧ _; refine ex_ ?_ (by first|with_reducible exact rfl|with_reducible exact sub2_one hal|with_reducible exact pair_rd2 prZ_len|exact rd_))|(show ∃ _ _, _ ∧ _; refine ex2_ ?_ (by first|with_reducible exact rfl|with_reducible exact sub2_one hal|with_reducible exact pair_rd2 prZ_len|exact rd_)))
    · rw [dB_t g1, decide_eq_false g2] at hC' ⊢
      change Can P _ _ (.val (.int .i64 2)) at hC'
      rw [show gpR true false p g = .tup [pairD zPr, .int .i64 2] from by unfold gpR gpX gpC; rw [if_neg (fun h => by simp at h)]; rfl]
      (repeat' (conv => whnf)<;>first|exact True.intro|(refine if_ ?_ ?_<;>intro h<;>first|exact h.elim|(exfalso; omega)|skip)|refine vs_ ?_|refine dv_ ?_|exact fin_|(show ∃ _, _ ∧ _; refine ex_ ?_ (by first|with_reducible exact rfl|with_reducible exact hgl|exact hC'|with_reducible exact pr_rdz|exact rd_))|(show ∃ _ _, _ ∧ _; refine ex2_ ?_ (by first|with_reducible exact rfl|with_reducible exact hgl|exact hC'|with_reducible exact pr_rdz|exact rd_)))
  · rw [dB_f g1] at hC' ⊢
    rw [show codG false (decide (p ∈ primes)) = 1 from rfl] at hC'
    rw [show gpR false (decide (p ∈ primes)) p g = .tup [pairD zPr, .int .i64 1] from by unfold gpR gpX gpC; rw [if_neg (fun h => by simp at h)]; rfl]
    (repeat' (conv => whnf)<;>first|exact True.intro|(refine if_ ?_ ?_<;>intro h<;>first|exact h.elim|(exfalso; omega)|skip)|refine vs_ ?_|refine dv_ ?_|exact fin_|(show ∃ _, _ ∧ _; refine ex_ ?_ (by first|with_reducible exact rfl|with_reducible exact hgl|exact hC'|with_reducible exact pr_rdz|exact rd_))|(show ∃ _ _, _ ∧ _; refine ex2_ ?_ (by first|with_reducible exact rfl|with_reducible exact hgl|exact hC'|with_reducible exact pr_rdz|exact rd_)))
end Go.X
