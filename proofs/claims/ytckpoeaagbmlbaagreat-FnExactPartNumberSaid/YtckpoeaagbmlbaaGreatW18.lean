import Derived.Test.YtckpoeaagbmlbaaGreatK16
import Derived.Test.YtckpoeaagbmlbaaGreatW17
import Derived.Test.YtckpoeaagbmlbaaGreatK5
import Derived.Test.YtckpoeaagbmlbaaGreatW5
import Derived.Test.YtckpoeaagbmlbaaGreatW6
set_option linter.all false
namespace Go.X
open Go Go.RowKit
set_option maxRecDepth 100000
set_option maxHeartbeats 8000000
set_option linter.unusedVariables false
variable {P : Program} {N : FN}
theorem c_inverseP (h1 : C_power P N) (hf : isFn P N.impl_inverse (ir_impl_inverse N) = true) : C_inverseP P N := by
  intro x p hp hx
  have h2 := prime_bd hp
  refine can_of hf rfl rfl ?_
  (repeat' (conv => whnf)<;>first|exact True.intro|(refine if_ ?_ ?_<;>intro h<;>first|exact h.elim|(exfalso; omega)|skip)|refine vs_ ?_|refine dv_ ?_|exact fin_|(show ∃ _, _ ∧ _; refine ex_ ?_ (by first|with_reducible exact rfl|exact h1 (by omega) (by omega) (by omega)|exact rd_))|(show ∃ _ _, _ ∧ _; refine ex2_ ?_ (by first|with_reducible exact rfl|exact h1 (by omega) (by omega) (by omega)|exact rd_)))
theorem c_PartNumber (hV : C_validE P N) (hIn : C_in P N) (hC : C_commutative P N) (hL : C_nil P N) (hS : C_split P N) (hF : C_frobenius P N) (hP : C_prims P N) (hFm : C_form P N) (hI : C_inverseP P N) (hf : isFn P N.impl_PartNumber (ir_impl_PartNumber N) = true) : C_PartNumber P N := by
  intro a g hi
  have hat := algAt_one a
  have hal := hat.all
  have hV' := hV hi
  have hIn' := hIn (n := g) (lo := 0) (hi := 30)
  refine can_of hf rfl rfl ?_
  unfold pnR
  by_cases g1 : IsAlgP a
  · have ha := hi.alg g1
    have hn := ha.n
    have hp2 := prime_bd ha.p
    rw [dB_t g1] at hV' ⊢
    change Can P _ _ (.val (.int .i64 0)) at hV'
    by_cases g2 : 0 ≤ g ∧ g ≤ 30
    · rw [decide_eq_true g2] at hIn' ⊢
      have hC' := hC (sz := (algL a).length) hat ha.n
      by_cases g3 : CommP a
      · have hca := ca_of hi.s ((alg_iff hi).1 g1) ((comm_iff ha).1 g3)
        have hL' := hL (sz := (algL a).length) hat hca
        have hS' := hS (sz := (algL a).length) hat hca
        have hF' := hF (sz := (algL a).length) hat ha
        have hnm : ((nilL a).map vecL).length = (nilL a).length := List.length_map ..
        rw [dB_t g3] at hC'
        by_cases g4 : nilL a = []
        · have hn0 : (nilL a).length = 0 := by rw [g4]; rfl
          by_cases g5 : SplitP a
          · rw [dB_t g5] at hS'
            by_cases g6 : FrobP a
            · have hF2 := can_dt hF' g6
              rw [dB_t ⟨g3, g4, g5, g6⟩]
              have hP' := hP (sz := (algL a).length) hat hca
              have hle := prims_le hca
              have hSl : (sortV (primI a)).length = (primI a).length := sortV_len _
              have hpm := prims_len (a := a)
              (repeat' (conv => whnf)<;>first|exact True.intro|(refine if_ ?_ ?_<;>intro h<;>first|exact h.elim|(exfalso; omega)|skip)|refine vs_ ?_ (by first|exact .inr flat_mv|exact sd_)|refine dv_ ?_|exact fin_|(show ∃ _, _ ∧ _; refine ex_ ?_ (by first|with_reducible exact rfl|with_reducible exact hal|exact hV'|exact hIn'|exact hC'|exact hL'|exact hS'|exact hF2|exact hP'|exact rd_))|(show ∃ _ _, _ ∧ _; refine ex2_ ?_ (by first|with_reducible exact rfl|with_reducible exact hal|exact hV'|exact hIn'|exact hC'|exact hL'|exact hS'|exact hF2|exact hP'|exact rd_)))
              conv => whnf
              refine vc_loop (α := Nat) 0 (fun q => (primI a).length - q) (fun q => q ≤ (primI a).length) [] (fun q => [(7, .d (.int .i64 (sumN q (pnV a g.toNat)))), (37, .d (.int .i64 q))]) (fun q => []) lp_ ?_ ?_
              · (repeat' (conv => whnf)<;>first|exact True.intro|(refine if_ ?_ ?_<;>intro h<;>first|exact h.elim|(exfalso; omega)|skip)|refine vs_ ?_|refine dv_ ?_|exact fin_|(show ∃ _, _ ∧ _; refine ex_ ?_)|(show ∃ _ _, _ ∧ _; refine ex2_ ?_))
              · intro q hq
                have hpv : ∀ i, 0 ≤ pnV a g.toNat i ∧ pnV a g.toNat i ≤ 13 := fun i => by
                  have := pnX_bd (p := a.p) (b := invF a.p (formV a ((sortV (primI a)).getD i Z))) (x := formV a ((sortV (primI a)).getD i Z)) (by omega) (mod_bd _ (by omega)) g.toNat
                  unfold pnV
                  omega
                have hsb := sumN_bd (f := pnV a g.toNat) (B := 13) hpv q
                by_cases hlt : q < (primI a).length
                · have hem : (sortV (primI a)).getD q Z ∈ primI a := ((sortV_facts _ (primI a) rfl (orth_dist hca (primI_orth hca))).2.2 _).1 (getD_memE (by omega))
                  have heb : Byts ((sortV (primI a)).getD q Z) := ((primI_orth hca).inn _ hem).1.byt (by omega)
                  have hx : 0 ≤ formV a ((sortV (primI a)).getD q Z) ∧ formV a ((sortV (primI a)).getD q Z) < a.p := mod_bd _ (by omega)
                  have hFm' := hFm (sz := (algL a).length) hat ha.b heb (by omega)
                  have hI' := hI (x := formV a ((sortV (primI a)).getD q Z)) ha.p hx
                  have hsame := pnX_same ha.p hx g.toNat
                  have hsv : pnV a g.toNat q = pnX a.p (invF a.p (formV a ((sortV (primI a)).getD q Z))) (formV a ((sortV (primI a)).getD q Z)) g.toNat := rfl
                  have hpb := hpv q
                  rw [← hsame] at hsv
                  have hby := powR_bd (n := formV a ((sortV (primI a)).getD q Z)) (p := a.p) (by omega) (a.p - 2).toNat
                  generalize formV a ((sortV (primI a)).getD q Z) = x at *
                  generalize powR x a.p (a.p - 2).toNat = b at *
                  (repeat' (conv => whnf)<;>first|exact True.intro|(refine if_ ?_ ?_<;>intro h<;>first|exact h.elim|(exfalso; omega)|skip)|refine vs_ ?_|refine dv_ ?_|exact fin_|(show ∃ _, _ ∧ _; refine ex_ ?_ (by first|with_reducible exact rfl|with_reducible exact hal|with_reducible exact sub_vm (by omega) rfl|with_reducible exact rd_st6|exact hFm'|exact hI'|with_reducible exact hat.p|exact rd_))|(show ∃ _ _, _ ∧ _; refine ex2_ ?_ (by first|with_reducible exact rfl|with_reducible exact hal|with_reducible exact sub_vm (by omega) rfl|with_reducible exact rd_st6|exact hFm'|exact hI'|with_reducible exact hat.p|exact rd_)))
                  conv => whnf
                  refine vc_loop (α := Nat) 0 (fun j => g.toNat - j) (fun j => j ≤ g.toNat) [] (fun j => [(10, .d (.int .i64 (pnX a.p b x j))), (48, .d (.int .i64 j))]) (fun j => []) lp_ ?_ ?_
                  · (repeat' (conv => whnf)<;>first|exact True.intro|(refine if_ ?_ ?_<;>intro h<;>first|exact h.elim|(exfalso; omega)|skip)|refine vs_ ?_|refine dv_ ?_|exact fin_|(show ∃ _, _ ∧ _; refine ex_ ?_)|(show ∃ _ _, _ ∧ _; refine ex2_ ?_))
                  · intro j hj
                    have hjb := pnX_bd (p := a.p) (b := b) (by omega) hx j
                    have hmb : 0 ≤ pnX a.p b x j * b ∧ pnX a.p b x j * b ≤ 13 * 13 := mul_bd (A := 13) (B := 13) (by omega) (by omega)
                    by_cases hlt2 : j < g.toNat
                    · (repeat' (conv => whnf)<;>first|exact True.intro|(refine if_ ?_ ?_<;>intro h<;>first|exact h.elim|(exfalso; omega)|skip)|refine vs_ ?_|refine dv_ ?_|exact fin_|(show ∃ _, _ ∧ _; refine ex_ ?_ (by first|with_reducible exact rfl|with_reducible exact hat.p|exact rd_))|(show ∃ _ _, _ ∧ _; refine ex2_ ?_ (by first|with_reducible exact rfl|with_reducible exact hat.p|exact rd_)))
                      conv => whnf
                      refine ⟨j + 1, by omega, by omega, ?_⟩
                      (repeat' (conv => whnf)<;>first|exact True.intro|(refine if_ ?_ ?_<;>intro h<;>first|exact h.elim|(exfalso; omega)|skip)|refine vs_ ?_|refine dv_ ?_|exact fin_|(show ∃ _, _ ∧ _; refine ex_ ?_)|(show ∃ _ _, _ ∧ _; refine ex2_ ?_))
                    · have : j = g.toNat := by omega
                      rw [this, ← hsv]
                      (repeat' (conv => whnf)<;>first|exact True.intro|(refine if_ ?_ ?_<;>intro h<;>first|exact h.elim|(exfalso; omega)|skip)|refine vs_ ?_|refine dv_ ?_|exact fin_|(show ∃ _, _ ∧ _; refine ex_ ?_)|(show ∃ _ _, _ ∧ _; refine ex2_ ?_))
                      conv => whnf
                      refine ⟨q + 1, by omega, by omega, ?_⟩
                      (repeat' (conv => whnf)<;>first|exact True.intro|(refine if_ ?_ ?_<;>intro h<;>first|exact h.elim|(exfalso; omega)|skip)|refine vs_ ?_|refine dv_ ?_|exact fin_|(show ∃ _, _ ∧ _; refine ex_ ?_)|(show ∃ _ _, _ ∧ _; refine ex2_ ?_))
                · have : q = (primI a).length := by omega
                  subst this
                  (repeat' (conv => whnf)<;>first|exact True.intro|(refine if_ ?_ ?_<;>intro h<;>first|exact h.elim|(exfalso; omega)|skip)|refine vs_ ?_|refine dv_ ?_|exact fin_|(show ∃ _, _ ∧ _; refine ex_ ?_ (by first|with_reducible exact rfl|with_reducible exact hat.p|exact rd_))|(show ∃ _ _, _ ∧ _; refine ex2_ ?_ (by first|with_reducible exact rfl|with_reducible exact hat.p|exact rd_)))
            · have hF2 := can_df hF' g6
              rw [dB_f (p := CommP a ∧ nilL a = [] ∧ SplitP a ∧ FrobP a) (fun h => g6 h.2.2.2)]
              (repeat' (conv => whnf)<;>first|exact True.intro|(refine if_ ?_ ?_<;>intro h<;>first|exact h.elim|(exfalso; omega)|skip)|refine vs_ ?_ (by first|exact .inr flat_mv|exact sd_)|refine dv_ ?_|exact fin_|(show ∃ _, _ ∧ _; refine ex_ ?_ (by first|with_reducible exact rfl|with_reducible exact hal|exact hV'|exact hIn'|exact hC'|exact hL'|exact hS'|exact hF2|exact rd_))|(show ∃ _ _, _ ∧ _; refine ex2_ ?_ (by first|with_reducible exact rfl|with_reducible exact hal|exact hV'|exact hIn'|exact hC'|exact hL'|exact hS'|exact hF2|exact rd_)))
          · rw [dB_f g5] at hS'
            rw [dB_f (p := CommP a ∧ nilL a = [] ∧ SplitP a ∧ FrobP a) (fun h => g5 h.2.2.1)]
            (repeat' (conv => whnf)<;>first|exact True.intro|(refine if_ ?_ ?_<;>intro h<;>first|exact h.elim|(exfalso; omega)|skip)|refine vs_ ?_ (by first|exact .inr flat_mv|exact sd_)|refine dv_ ?_|exact fin_|(show ∃ _, _ ∧ _; refine ex_ ?_ (by first|with_reducible exact rfl|with_reducible exact hal|exact hV'|exact hIn'|exact hC'|exact hL'|exact hS'|exact rd_))|(show ∃ _ _, _ ∧ _; refine ex2_ ?_ (by first|with_reducible exact rfl|with_reducible exact hal|exact hV'|exact hIn'|exact hC'|exact hL'|exact hS'|exact rd_)))
        · have hn0 : 0 < (nilL a).length := by cases h : nilL a with | nil => exact absurd h g4 | cons x r => simp
          rw [dB_f (p := CommP a ∧ nilL a = [] ∧ SplitP a ∧ FrobP a) (fun h => g4 h.2.1)]
          (repeat' (conv => whnf)<;>first|exact True.intro|(refine if_ ?_ ?_<;>intro h<;>first|exact h.elim|(exfalso; omega)|skip)|refine vs_ ?_ (by first|exact .inr flat_mv|exact sd_)|refine dv_ ?_|exact fin_|(show ∃ _, _ ∧ _; refine ex_ ?_ (by first|with_reducible exact rfl|with_reducible exact hal|exact hV'|exact hIn'|exact hC'|exact hL'|exact rd_))|(show ∃ _ _, _ ∧ _; refine ex2_ ?_ (by first|with_reducible exact rfl|with_reducible exact hal|exact hV'|exact hIn'|exact hC'|exact hL'|exact rd_)))
      · rw [dB_f g3] at hC'
        rw [dB_f (p := CommP a ∧ nilL a = [] ∧ SplitP a ∧ FrobP a) (fun h => g3 h.1)]
        (repeat' (conv => whnf)<;>first|exact True.intro|(refine if_ ?_ ?_<;>intro h<;>first|exact h.elim|(exfalso; omega)|skip)|refine vs_ ?_|refine dv_ ?_|exact fin_|(show ∃ _, _ ∧ _; refine ex_ ?_ (by first|with_reducible exact rfl|with_reducible exact hal|exact hV'|exact hIn'|exact hC'|exact rd_))|(show ∃ _ _, _ ∧ _; refine ex2_ ?_ (by first|with_reducible exact rfl|with_reducible exact hal|exact hV'|exact hIn'|exact hC'|exact rd_)))
    · rw [decide_eq_false g2] at hIn' ⊢
      (repeat' (conv => whnf)<;>first|exact True.intro|(refine if_ ?_ ?_<;>intro h<;>first|exact h.elim|(exfalso; omega)|skip)|refine vs_ ?_|refine dv_ ?_|exact fin_|(show ∃ _, _ ∧ _; refine ex_ ?_ (by first|with_reducible exact rfl|with_reducible exact hal|exact hV'|exact hIn'|exact rd_))|(show ∃ _ _, _ ∧ _; refine ex2_ ?_ (by first|with_reducible exact rfl|with_reducible exact hal|exact hV'|exact hIn'|exact rd_)))
  · rw [dB_f g1] at hV' ⊢
    change Can P _ _ (.val (.int .i64 1)) at hV'
    (repeat' (conv => whnf)<;>first|exact True.intro|(refine if_ ?_ ?_<;>intro h<;>first|exact h.elim|(exfalso; omega)|skip)|refine vs_ ?_|refine dv_ ?_|exact fin_|(show ∃ _, _ ∧ _; refine ex_ ?_ (by first|with_reducible exact rfl|with_reducible exact hal|exact hV'|exact rd_))|(show ∃ _ _, _ ∧ _; refine ex2_ ?_ (by first|with_reducible exact rfl|with_reducible exact hal|exact hV'|exact rd_)))
theorem c_sPartNumber (hC : C_sCode5 P N) (hIn : C_sIn P N) (hL : C_sNil P N) (hS : C_sSplit P N) (hF : C_sFrobenius P N) (hP : C_sPrims P N) (hFm : C_sForm P N) (hI : C_sInverse P N) (hf : isFn P N.spec_PartNumber (ir_spec_PartNumber N) = true) : C_sPartNumber P N := by
  intro a g hi
  have hat := algAt_one a
  have hal := hat.all
  have hV' := sCode5E hC hi
  have hIn' := hIn (n := g) (lo := 0) (hi := 30)
  refine can_of hf rfl rfl ?_
  unfold pnR
  by_cases g1 : sAlgP a
  · have ha := hi.ok g1.1
    have hn := ha.n
    have hp2 := prime_bd ha.p
    rw [dB_t g1] at hV' ⊢
    by_cases g3 : sCommP a
    · have hca := ca_of hi g1 g3
      rw [dB_t g3] at hV'
      change Can P _ _ (.val (.int .i64 0)) at hV'
      by_cases g2 : 0 ≤ g ∧ g ≤ 30
      · rw [decide_eq_true g2] at hIn' ⊢
        have hL' := hL hca
        have hS' := hS hca
        have hF' := hF ha
        have hnm : ((nilL a).map vecL).length = (nilL a).length := List.length_map ..
        by_cases g4 : nilL a = []
        · have hn0 : (nilL a).length = 0 := by rw [g4]; rfl
          by_cases g5 : SplitP a
          · rw [dB_t g5] at hS'
            by_cases g6 : sFrobP a
            · have hF2 := can_dt hF' g6
              rw [dB_t ⟨g3, g4, g5, g6⟩]
              have hP' := hP hca
              have hle := prims_le hca
              have hSl : (sortV (primI a)).length = (primI a).length := sortV_len _
              have hpm := prims_len (a := a)
              (repeat' (conv => whnf)<;>first|exact True.intro|(refine if_ ?_ ?_<;>intro h<;>first|exact h.elim|(exfalso; omega)|skip)|refine vs_ ?_|refine dv_ ?_|exact fin_|(show ∃ _, _ ∧ _; refine ex_ ?_ (by first|with_reducible exact rfl|with_reducible exact hal|exact hV'|exact hIn'|exact hL'|exact hS'|exact hF2|exact hP'|exact rd_))|(show ∃ _ _, _ ∧ _; refine ex2_ ?_ (by first|with_reducible exact rfl|with_reducible exact hal|exact hV'|exact hIn'|exact hL'|exact hS'|exact hF2|exact hP'|exact rd_)))
              conv => whnf
              refine vc_loop (α := Nat) 0 (fun q => (primI a).length - q) (fun q => q ≤ (primI a).length) [] (fun q => [(8, .d (.int .i64 (sumN q (pnV a g.toNat)))), (9, .d (.int .i64 q))]) (fun q => []) lp_ ?_ ?_
              · (repeat' (conv => whnf)<;>first|exact True.intro|(refine if_ ?_ ?_<;>intro h<;>first|exact h.elim|(exfalso; omega)|skip)|refine vs_ ?_|refine dv_ ?_|exact fin_|(show ∃ _, _ ∧ _; refine ex_ ?_)|(show ∃ _ _, _ ∧ _; refine ex2_ ?_))
              · intro q hq
                have hpv : ∀ i, 0 ≤ pnV a g.toNat i ∧ pnV a g.toNat i ≤ 13 := fun i => by
                  have := pnX_bd (p := a.p) (b := invF a.p (formV a ((sortV (primI a)).getD i Z))) (x := formV a ((sortV (primI a)).getD i Z)) (by omega) (mod_bd _ (by omega)) g.toNat
                  unfold pnV
                  omega
                have hsb := sumN_bd (f := pnV a g.toNat) (B := 13) hpv q
                by_cases hlt : q < (primI a).length
                · have hem : (sortV (primI a)).getD q Z ∈ primI a := ((sortV_facts _ (primI a) rfl (orth_dist hca (primI_orth hca))).2.2 _).1 (getD_memE (by omega))
                  have heb : Byts ((sortV (primI a)).getD q Z) := ((primI_orth hca).inn _ hem).1.byt (by omega)
                  have hx : 0 ≤ formV a ((sortV (primI a)).getD q Z) ∧ formV a ((sortV (primI a)).getD q Z) < a.p := mod_bd _ (by omega)
                  have hFm' := hFm (a := a) ha.b heb (by omega)
                  have hI' := hI (x := formV a ((sortV (primI a)).getD q Z)) (p := a.p) (by omega) (by omega)
                  have hsv : pnV a g.toNat q = pnX a.p (invF a.p (formV a ((sortV (primI a)).getD q Z))) (formV a ((sortV (primI a)).getD q Z)) g.toNat := rfl
                  have hpb := hpv q
                  have hby := inv0_bd ha.p hx
                  generalize formV a ((sortV (primI a)).getD q Z) = x at *
                  generalize invF a.p x = b at *
                  (repeat' (conv => whnf)<;>first|exact True.intro|(refine if_ ?_ ?_<;>intro h<;>first|exact h.elim|(exfalso; omega)|skip)|refine vs_ ?_|refine dv_ ?_|exact fin_|(show ∃ _, _ ∧ _; refine ex_ ?_ (by first|with_reducible exact rfl|with_reducible exact hal|with_reducible exact sub_vm (by omega) rfl|with_reducible exact rd_st6|exact hFm'|exact hI'|with_reducible exact hat.p|exact rd_))|(show ∃ _ _, _ ∧ _; refine ex2_ ?_ (by first|with_reducible exact rfl|with_reducible exact hal|with_reducible exact sub_vm (by omega) rfl|with_reducible exact rd_st6|exact hFm'|exact hI'|with_reducible exact hat.p|exact rd_)))
                  conv => whnf
                  refine vc_loop (α := Nat) 0 (fun j => g.toNat - j) (fun j => j ≤ g.toNat) [] (fun j => [(11, .d (.int .i64 (pnX a.p b x j))), (13, .d (.int .i64 ((g.toNat - j : Nat) : Int)))]) (fun j => []) lp_ ?_ ?_
                  · (repeat' (conv => whnf)<;>first|exact True.intro|(refine if_ ?_ ?_<;>intro h<;>first|exact h.elim|(exfalso; omega)|skip)|refine vs_ ?_|refine dv_ ?_|exact fin_|(show ∃ _, _ ∧ _; refine ex_ ?_)|(show ∃ _ _, _ ∧ _; refine ex2_ ?_))
                  · intro j hj
                    have hjb := pnX_bd (p := a.p) (b := b) (by omega) hx j
                    have hmb : 0 ≤ pnX a.p b x j * b ∧ pnX a.p b x j * b ≤ 13 * 13 := mul_bd (A := 13) (B := 13) (by omega) (by omega)
                    by_cases hlt2 : j < g.toNat
                    · (repeat' (conv => whnf)<;>first|exact True.intro|(refine if_ ?_ ?_<;>intro h<;>first|exact h.elim|(exfalso; omega)|skip)|refine vs_ ?_|refine dv_ ?_|exact fin_|(show ∃ _, _ ∧ _; refine ex_ ?_ (by first|with_reducible exact rfl|with_reducible exact hat.p|exact rd_))|(show ∃ _ _, _ ∧ _; refine ex2_ ?_ (by first|with_reducible exact rfl|with_reducible exact hat.p|exact rd_)))
                      conv => whnf
                      refine ⟨j + 1, by omega, by omega, ?_⟩
                      (repeat' (conv => whnf)<;>first|exact True.intro|(refine if_ ?_ ?_<;>intro h<;>first|exact h.elim|(exfalso; omega)|skip)|refine vs_ ?_|refine dv_ ?_|exact fin_|(show ∃ _, _ ∧ _; refine ex_ ?_)|(show ∃ _ _, _ ∧ _; refine ex2_ ?_))
                    · have : j = g.toNat := by omega
                      rw [this, ← hsv]
                      (repeat' (conv => whnf)<;>first|exact True.intro|(refine if_ ?_ ?_<;>intro h<;>first|exact h.elim|(exfalso; omega)|skip)|refine vs_ ?_|refine dv_ ?_|exact fin_|(show ∃ _, _ ∧ _; refine ex_ ?_)|(show ∃ _ _, _ ∧ _; refine ex2_ ?_))
                      conv => whnf
                      refine ⟨q + 1, by omega, by omega, ?_⟩
                      (repeat' (conv => whnf)<;>first|exact True.intro|(refine if_ ?_ ?_<;>intro h<;>first|exact h.elim|(exfalso; omega)|skip)|refine vs_ ?_|refine dv_ ?_|exact fin_|(show ∃ _, _ ∧ _; refine ex_ ?_)|(show ∃ _ _, _ ∧ _; refine ex2_ ?_))
                · have : q = (primI a).length := by omega
                  subst this
                  (repeat' (conv => whnf)<;>first|exact True.intro|(refine if_ ?_ ?_<;>intro h<;>first|exact h.elim|(exfalso; omega)|skip)|refine vs_ ?_|refine dv_ ?_|exact fin_|(show ∃ _, _ ∧ _; refine ex_ ?_ (by first|with_reducible exact rfl|with_reducible exact hat.p|exact rd_))|(show ∃ _ _, _ ∧ _; refine ex2_ ?_ (by first|with_reducible exact rfl|with_reducible exact hat.p|exact rd_)))
            · have hF2 := can_df hF' g6
              rw [dB_f (p := sCommP a ∧ nilL a = [] ∧ SplitP a ∧ sFrobP a) (fun h => g6 h.2.2.2)]
              (repeat' (conv => whnf)<;>first|exact True.intro|(refine if_ ?_ ?_<;>intro h<;>first|exact h.elim|(exfalso; omega)|skip)|refine vs_ ?_|refine dv_ ?_|exact fin_|(show ∃ _, _ ∧ _; refine ex_ ?_ (by first|with_reducible exact rfl|with_reducible exact hal|exact hV'|exact hIn'|exact hL'|exact hS'|exact hF2|exact rd_))|(show ∃ _ _, _ ∧ _; refine ex2_ ?_ (by first|with_reducible exact rfl|with_reducible exact hal|exact hV'|exact hIn'|exact hL'|exact hS'|exact hF2|exact rd_)))
          · rw [dB_f g5] at hS'
            rw [dB_f (p := sCommP a ∧ nilL a = [] ∧ SplitP a ∧ sFrobP a) (fun h => g5 h.2.2.1)]
            (repeat' (conv => whnf)<;>first|exact True.intro|(refine if_ ?_ ?_<;>intro h<;>first|exact h.elim|(exfalso; omega)|skip)|refine vs_ ?_|refine dv_ ?_|exact fin_|(show ∃ _, _ ∧ _; refine ex_ ?_ (by first|with_reducible exact rfl|with_reducible exact hal|exact hV'|exact hIn'|exact hL'|exact hS'|exact rd_))|(show ∃ _ _, _ ∧ _; refine ex2_ ?_ (by first|with_reducible exact rfl|with_reducible exact hal|exact hV'|exact hIn'|exact hL'|exact hS'|exact rd_)))
        · have hn0 : 0 < (nilL a).length := by cases h : nilL a with | nil => exact absurd h g4 | cons x r => simp
          rw [dB_f (p := sCommP a ∧ nilL a = [] ∧ SplitP a ∧ sFrobP a) (fun h => g4 h.2.1)]
          (repeat' (conv => whnf)<;>first|exact True.intro|(refine if_ ?_ ?_<;>intro h<;>first|exact h.elim|(exfalso; omega)|skip)|refine vs_ ?_|refine dv_ ?_|exact fin_|(show ∃ _, _ ∧ _; refine ex_ ?_ (by first|with_reducible exact rfl|with_reducible exact hal|exact hV'|exact hIn'|exact hL'|exact rd_))|(show ∃ _ _, _ ∧ _; refine ex2_ ?_ (by first|with_reducible exact rfl|with_reducible exact hal|exact hV'|exact hIn'|exact hL'|exact rd_)))
      · rw [decide_eq_false g2] at hIn' ⊢
        (repeat' (conv => whnf)<;>first|exact True.intro|(refine if_ ?_ ?_<;>intro h<;>first|exact h.elim|(exfalso; omega)|skip)|refine vs_ ?_|refine dv_ ?_|exact fin_|(show ∃ _, _ ∧ _; refine ex_ ?_ (by first|with_reducible exact rfl|with_reducible exact hal|exact hV'|exact hIn'|exact rd_))|(show ∃ _ _, _ ∧ _; refine ex2_ ?_ (by first|with_reducible exact rfl|with_reducible exact hal|exact hV'|exact hIn'|exact rd_)))
    · rw [dB_f g3] at hV'
      change Can P _ _ (.val (.int .i64 5)) at hV'
      rw [dB_f (p := sCommP a ∧ nilL a = [] ∧ SplitP a ∧ sFrobP a) (fun h => g3 h.1)]
      by_cases g2 : 0 ≤ g ∧ g ≤ 30
      · rw [decide_eq_true g2] at hIn' ⊢
        (repeat' (conv => whnf)<;>first|exact True.intro|(refine if_ ?_ ?_<;>intro h<;>first|exact h.elim|(exfalso; omega)|skip)|refine vs_ ?_|refine dv_ ?_|exact fin_|(show ∃ _, _ ∧ _; refine ex_ ?_ (by first|with_reducible exact rfl|with_reducible exact hal|exact hV'|exact hIn'|exact rd_))|(show ∃ _ _, _ ∧ _; refine ex2_ ?_ (by first|with_reducible exact rfl|with_reducible exact hal|exact hV'|exact hIn'|exact rd_)))
      · rw [decide_eq_false g2] at hIn' ⊢
        (repeat' (conv => whnf)<;>first|exact True.intro|(refine if_ ?_ ?_<;>intro h<;>first|exact h.elim|(exfalso; omega)|skip)|refine vs_ ?_|refine dv_ ?_|exact fin_|(show ∃ _, _ ∧ _; refine ex_ ?_ (by first|with_reducible exact rfl|with_reducible exact hal|exact hV'|exact hIn'|exact rd_))|(show ∃ _ _, _ ∧ _; refine ex2_ ?_ (by first|with_reducible exact rfl|with_reducible exact hal|exact hV'|exact hIn'|exact rd_)))
  · rw [dB_f g1] at hV' ⊢
    change Can P _ _ (.val (.int .i64 1)) at hV'
    (repeat' (conv => whnf)<;>first|exact True.intro|(refine if_ ?_ ?_<;>intro h<;>first|exact h.elim|(exfalso; omega)|skip)|refine vs_ ?_|refine dv_ ?_|exact fin_|(show ∃ _, _ ∧ _; refine ex_ ?_ (by first|with_reducible exact rfl|with_reducible exact hal|exact hV'|exact rd_))|(show ∃ _ _, _ ∧ _; refine ex2_ ?_ (by first|with_reducible exact rfl|with_reducible exact hal|exact hV'|exact rd_)))
def L_PartNumber (P : Program) (N : FN) : Prop := ∀ args, argsHave [tyAlg, .int .i64] args → Can P N.laws_FnExactPartNumber args (.val (.bool true))
theorem l_PartNumber (hA : C_toAlgebra P N) (hS : C_sPartNumber P N) (hI : C_PartNumber P N) (hf : isFn P N.laws_FnExactPartNumber (ir_laws_FnExactPartNumber N) = true) : L_PartNumber P N := fun args h => by
  obtain ⟨d1, d2, rfl, h1, h2⟩ := args2 h
  obtain ⟨a, rfl, ha, _⟩ := arg_alg h1
  obtain ⟨g, rfl, _⟩ := arg_i64 h2
  have hal := (algAt_one a).all
  have hA' := hA (a := a)
  have hS' := hS (g := g) ha.s
  have hI' := hI (g := g) ha
  rw [pn_same ha] at hI'
  obtain ⟨u, c, e⟩ : ∃ (u c : Int), pnR (pnT a g) (dB (sAlgP a)) (decide (0 ≤ g ∧ g ≤ 30)) (dB (sCommP a ∧ nilL a = [] ∧ SplitP a ∧ sFrobP a)) = .tup [.int .i64 u, .int .i64 c] := ⟨_, _, rfl⟩
  rw [e] at hI' hS'
  refine can_of hf rfl rfl ?_
  (repeat' (conv => whnf)<;>first|exact True.intro|(refine if_ ?_ ?_<;>intro h<;>first|exact h.elim|(exfalso; omega)|skip)|refine vs_ ?_|refine dv_ ?_|exact fin_|(show ∃ _, _ ∧ _; refine ex_ ?_ (by first|with_reducible exact rfl|with_reducible exact hal|exact hA'|exact hS'|exact hI'|exact rd_))|(show ∃ _ _, _ ∧ _; refine ex2_ ?_ (by first|with_reducible exact rfl|with_reducible exact hal|exact hA'|exact hS'|exact hI'|exact rd_)))
end Go.X
