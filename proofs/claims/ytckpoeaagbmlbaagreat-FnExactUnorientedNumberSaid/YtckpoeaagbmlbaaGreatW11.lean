import Derived.Test.YtckpoeaagbmlbaaGreatK6
import Derived.Test.YtckpoeaagbmlbaaGreatK1
set_option linter.all false
namespace Go.X
open Go Go.RowKit
set_option maxRecDepth 100000
set_option maxHeartbeats 8000000
variable {P : Program} {N : FN}
theorem genB_f2 {h g : Int} (c : ¬ ((0 ≤ h ∧ h ≤ 30) ∧ 0 ≤ g ∧ g ≤ 30)) : genB h g = false := decide_eq_false c
theorem genB_t2 {h g : Int} (c : (0 ≤ h ∧ h ≤ 30) ∧ 0 ≤ g ∧ g ≤ 30) : genB h g = true := decide_eq_true c
theorem c_sUno (hL : C_sList P N) (hC : C_sStars P N) (hG : C_sIn P N) (hK : C_sKlein P N) (hX : C_sCrossCap P N) (hW : C_sHPower P N) (hT : C_sTimes P N) (hF : C_sForm P N) (hf : isFn P N.spec_UnorientedNumber (ir_spec_UnorientedNumber N) = true) : C_sUno P N := by
  intro a m s t h g hi hm hs ht hcol
  have hat := algAt_one a
  have hal := hat.all
  have hL' : Can P N.spec_l08List [algD a, vsD m s, .lst 6 [vecL t]] _ := hL (q := 1) (t := fun _ => t) hi hm (by omega) hs (fun _ => ht)
  have hC' : Can P N.spec_l08Code [algD a, vsD m s, .lst 6 [vecL t]] _ := hC (q := 1) (t := fun _ => t) hi hm (by omega) hs (fun _ => ht)
  by_cases g1 : sAlgP a ∧ AllSm a 1 fun _ => t
  · have ha := hi.ok g1.1.1
    have hn := ha.n
    have hp2 := prime_bd ha.p
    rw [dB_t g1] at hL' hC' ⊢
    by_cases g2 : m = a.n.toNat ∧ AllSm a m s
    · rw [dB_t g2] at hL' hC' ⊢
      change Can P _ _ (.val (.int .i64 0)) at hL'
      by_cases gh : 0 ≤ h ∧ h ≤ 30
      · have hG1 := can_dt (hG (n := h) (lo := 0) (hi := 30)) gh
        by_cases gg : 0 ≤ g ∧ g ≤ 30
        · have hG2 := can_dt (hG (n := g) (lo := 0) (hi := 30)) gg
          rw [genB_t2 ⟨gh, gg⟩]
          by_cases g3 : sCommP a ∧ sFrobP a ∧ sStarP a s
          · rw [dB_t g3] at hC'
            change Can P _ _ (.val (.int .i64 0)) at hC'
            have hmn := g2.1
            subst hmn
            have hK' := hK ha (hcol g1.1 g3.2.1) hs
            have hX' := hX (kl := sKlein a s) ha hs ht
            by_cases c : crossP a s (sKlein a s) t
            · rw [dB_t ⟨g3, c⟩, uno_0]
              rw [dB_t c] at hX'
              unfold sUno
              generalize sKlein a s = kl at *
              obtain ⟨w, rfl⟩ : ∃ q : Nat, h = q := ⟨h.toNat, by omega⟩
              obtain ⟨g, rfl⟩ : ∃ q : Nat, g = q := ⟨g.toNat, by omega⟩
              rw [Int.toNat_natCast, Int.toNat_natCast]
              have h2 := hW (g := g) ha (hcol g1.1 g3.2.1) (by omega)
              have r0 : Rw a.p (foldV a (sUnit a) (sHandle a) g) := foldV_rw (by omega) (sUnit_rw ha) g
              have r1 : ∀ i, Rw a.p (foldV a (foldV a (sUnit a) (sHandle a) g) t i) := fun i => foldV_rw (by omega) r0 i
              generalize foldV a (sUnit a) (sHandle a) g = y at *
              refine can_of hf rfl rfl ?_
              (repeat' (conv => whnf) <;> first | exact True.intro | (refine if_ ?_ ?_ <;> intro h <;> first | exact h.elim | (exfalso; omega) | skip) | refine vs_ ?_ | refine dv_ ?_ | exact fin_ | (show ∃ _, _ ∧ _; refine ex_ ?_ (by first | with_reducible exact rfl | with_reducible exact hal | exact hL' | exact hC' | exact hG1 | exact hG2 | exact hK' | exact hX' | exact h2 | exact rd_)) | (show ∃ _ _, _ ∧ _; refine ex2_ ?_ (by first | with_reducible exact rfl | with_reducible exact hal | exact hL' | exact hC' | exact hG1 | exact hG2 | exact hK' | exact hX' | exact h2 | exact rd_)) | fail)
              conv => whnf
              refine vc_loop (α := Nat) 0 (fun i => w - i) (fun i => i ≤ w) [] (fun i => [(3, .d (.int .i64 ((w - i : Nat) : Int))), (13, .ptr 14 6 0 0)]) (fun i => [(14, .data 6 [vecL (foldV a y t i)])]) lp_ ?_ ?_
              · (repeat' (conv => whnf) <;> first | exact True.intro | (refine if_ ?_ ?_ <;> intro h <;> first | exact h.elim | (exfalso; omega) | skip) | refine vs_ ?_ (by first | exact st_all (f := Z) | exact sd_) | refine dv_ ?_ | exact fin_ | (show ∃ _, _ ∧ _; refine ex_ ?_) | (show ∃ _ _, _ ∧ _; refine ex2_ ?_) | fail)
              · intro i hi
                by_cases hlt : i < w
                · have hT' := hT ha.b ((r1 i).byt (by omega)) ht (by omega) (by omega)
                  (repeat' (conv => whnf) <;> first | exact True.intro | (refine if_ ?_ ?_ <;> intro h <;> first | exact h.elim | (exfalso; omega) | skip) | refine vs_ ?_ | refine dv_ ?_ | exact fin_ | (show ∃ _, _ ∧ _; refine ex_ ?_ (by first | with_reducible exact rfl | with_reducible exact hal | with_reducible exact rd_st6 | exact hT' | exact rd_)) | (show ∃ _ _, _ ∧ _; refine ex2_ ?_ (by first | with_reducible exact rfl | with_reducible exact hal | with_reducible exact rd_st6 | exact hT' | exact rd_)) | fail)
                  conv => whnf
                  refine ⟨i + 1, by omega, by omega, ?_⟩
                  (repeat' (conv => whnf) <;> first | exact True.intro | (refine if_ ?_ ?_ <;> intro h <;> first | exact h.elim | (exfalso; omega) | skip) | refine vs_ ?_ (by first | exact st_all | exact sd_) | refine dv_ ?_ | exact fin_ | (show ∃ _, _ ∧ _; refine ex_ ?_) | (show ∃ _ _, _ ∧ _; refine ex2_ ?_) | fail)
                · have : i = w := by omega
                  subst this
                  have h7 := hF ha.b ((r1 i).byt (by omega)) (by omega)
                  (repeat' (conv => whnf) <;> first | exact True.intro | (refine if_ ?_ ?_ <;> intro h <;> first | exact h.elim | (exfalso; omega) | skip) | refine vs_ ?_ | refine dv_ ?_ | exact fin_ | (show ∃ _, _ ∧ _; refine ex_ ?_ (by first | with_reducible exact rfl | with_reducible exact hal | exact h7 | exact rd_)) | (show ∃ _ _, _ ∧ _; refine ex2_ ?_ (by first | with_reducible exact rfl | with_reducible exact hal | exact h7 | exact rd_)) | fail)
            · rw [dB_f (fun x => c x.2), uno_5]
              rw [dB_f c] at hX'
              generalize sKlein a s = kl at *
              refine can_of hf rfl rfl ?_
              (repeat' (conv => whnf) <;> first | exact True.intro | (refine if_ ?_ ?_ <;> intro h <;> first | exact h.elim | (exfalso; omega) | skip) | refine vs_ ?_ | refine dv_ ?_ | exact fin_ | (show ∃ _, _ ∧ _; refine ex_ ?_ (by first | with_reducible exact rfl | with_reducible exact hal | exact hL' | exact hC' | exact hG1 | exact hG2 | exact hK' | exact hX' | exact rd_)) | (show ∃ _ _, _ ∧ _; refine ex2_ ?_ (by first | with_reducible exact rfl | with_reducible exact hal | exact hL' | exact hC' | exact hG1 | exact hG2 | exact hK' | exact hX' | exact rd_)) | fail)
          · rw [dB_f g3] at hC'
            change Can P _ _ (.val (.int .i64 5)) at hC'
            rw [dB_f (fun x => g3 x.1), uno_5]
            refine can_of hf rfl rfl ?_
            (repeat' (conv => whnf) <;> first | exact True.intro | (refine if_ ?_ ?_ <;> intro h <;> first | exact h.elim | (exfalso; omega) | skip) | refine vs_ ?_ | refine dv_ ?_ | exact fin_ | (show ∃ _, _ ∧ _; refine ex_ ?_ (by first | with_reducible exact rfl | with_reducible exact hal | exact hL' | exact hC' | exact hG1 | exact hG2 | exact rd_)) | (show ∃ _ _, _ ∧ _; refine ex2_ ?_ (by first | with_reducible exact rfl | with_reducible exact hal | exact hL' | exact hC' | exact hG1 | exact hG2 | exact rd_)) | fail)
        · have hG2 := can_df (hG (n := g) (lo := 0) (hi := 30)) gg
          rw [genB_f2 (fun x => gg x.2), uno_3]
          refine can_of hf rfl rfl ?_
          (repeat' (conv => whnf) <;> first | exact True.intro | (refine if_ ?_ ?_ <;> intro h <;> first | exact h.elim | (exfalso; omega) | skip) | refine vs_ ?_ | refine dv_ ?_ | exact fin_ | (show ∃ _, _ ∧ _; refine ex_ ?_ (by first | with_reducible exact rfl | with_reducible exact hal | exact hL' | exact hG1 | exact hG2 | exact rd_)) | (show ∃ _ _, _ ∧ _; refine ex2_ ?_ (by first | with_reducible exact rfl | with_reducible exact hal | exact hL' | exact hG1 | exact hG2 | exact rd_)) | fail)
      · have hG1 := can_df (hG (n := h) (lo := 0) (hi := 30)) gh
        rw [genB_f2 (fun x => gh x.1), uno_3]
        refine can_of hf rfl rfl ?_
        (repeat' (conv => whnf) <;> first | exact True.intro | (refine if_ ?_ ?_ <;> intro h <;> first | exact h.elim | (exfalso; omega) | skip) | refine vs_ ?_ | refine dv_ ?_ | exact fin_ | (show ∃ _, _ ∧ _; refine ex_ ?_ (by first | with_reducible exact rfl | with_reducible exact hal | exact hL' | exact hG1 | exact rd_)) | (show ∃ _ _, _ ∧ _; refine ex2_ ?_ (by first | with_reducible exact rfl | with_reducible exact hal | exact hL' | exact hG1 | exact rd_)) | fail)
    · rw [dB_f g2] at hL' ⊢
      change Can P _ _ (.val (.int .i64 2)) at hL'
      rw [uno_2]
      refine can_of hf rfl rfl ?_
      (repeat' (conv => whnf) <;> first | exact True.intro | (refine if_ ?_ ?_ <;> intro h <;> first | exact h.elim | (exfalso; omega) | skip) | refine vs_ ?_ | refine dv_ ?_ | exact fin_ | (show ∃ _, _ ∧ _; refine ex_ ?_ (by first | with_reducible exact rfl | with_reducible exact hal | exact hL' | exact rd_)) | (show ∃ _ _, _ ∧ _; refine ex2_ ?_ (by first | with_reducible exact rfl | with_reducible exact hal | exact hL' | exact rd_)) | fail)
  · rw [dB_f g1] at hL' ⊢
    change Can P _ _ (.val (.int .i64 1)) at hL'
    rw [uno_1]
    refine can_of hf rfl rfl ?_
    (repeat' (conv => whnf) <;> first | exact True.intro | (refine if_ ?_ ?_ <;> intro h <;> first | exact h.elim | (exfalso; omega) | skip) | refine vs_ ?_ | refine dv_ ?_ | exact fin_ | (show ∃ _, _ ∧ _; refine ex_ ?_ (by first | with_reducible exact rfl | with_reducible exact hal | exact hL' | exact rd_)) | (show ∃ _ _, _ ∧ _; refine ex2_ ?_ (by first | with_reducible exact rfl | with_reducible exact hal | exact hL' | exact rd_)) | fail)
end Go.X
namespace Go.X
open Go Go.RowKit
set_option maxRecDepth 100000
set_option maxHeartbeats 8000000
variable {P : Program} {N : FN}
theorem genB_f {h g : Int} (c : ¬ ((0 ≤ h ∧ h ≤ 30) ∧ 0 ≤ g ∧ g ≤ 30)) : genB h g = false := decide_eq_false c
theorem genB_t {h g : Int} (c : (0 ≤ h ∧ h ≤ 30) ∧ 0 ≤ g ∧ g ≤ 30) : genB h g = true := decide_eq_true c
theorem scode_05 (z : Bool) : scode true true z = 0 ∨ scode true true z = 5 := by cases z <;> decide
theorem c_Uno (hS : C_stars P N) (hG : C_isGenus P N) (hK : C_klein P N) (hX : C_crossCap P N) (hW : C_vpower P N) (hH : C_handle P N) (hT : C_times P N) (hF : C_form P N) (hf : isFn P N.impl_UnorientedNumber (ir_impl_UnorientedNumber N) = true) : C_Uno P N := by
  intro a m s t h g hi hm hs ht
  have hat := algAt_one a
  have hal := hat.all
  have hS' : Can P N.impl_stars [algD a, vsD m s, .lst 6 [vecL t]] _ := hS (q := 1) (t := fun _ => t) hi hm (by omega) hs (fun _ => ht)
  by_cases g1 : IsAlgP a ∧ AllSm a 1 fun _ => t
  · have ha := hi.alg g1.1
    have hn := ha.n
    have hp2 := prime_bd ha.p
    rw [dB_t g1] at hS' ⊢
    by_cases g2 : m = a.n.toNat ∧ AllSm a m s
    · rw [dB_t g2] at hS' ⊢
      by_cases gh : 0 ≤ h ∧ h ≤ 30
      · have hG1 := can_dt (hG (g := h)) gh
        by_cases gg : 0 ≤ g ∧ g ≤ 30
        · have hG2 := can_dt (hG (g := g)) gg
          rw [genB_t ⟨gh, gg⟩]
          by_cases g3 : CommP a ∧ FrobP a ∧ iStarP a s
          · rw [dB_t g3] at hS'
            change Can P _ _ (.val (.int .i64 0)) at hS'
            have hmn := g2.1
            subst hmn
            have hK' := hK (sz := 224) hat ha hs
            have hX' := hX (sz := 224) (kl := iKlein a s) hat ha hs ht
            by_cases c : crossP a s (iKlein a s) t
            · rw [dB_t ⟨g3, c⟩, uno_0]
              rw [dB_t c] at hX'
              unfold iUno
              generalize iKlein a s = kl at *
              obtain ⟨h, rfl⟩ : ∃ q : Nat, h = q := ⟨h.toNat, by omega⟩
              obtain ⟨g, rfl⟩ : ∃ q : Nat, g = q := ⟨g.toNat, by omega⟩
              rw [Int.toNat_natCast, Int.toNat_natCast]
              have h1 := hW (sz := 224) (k := h) hat ha ht (by omega)
              have h2 := hH (sz := 224) hat ha
              have h3 := hW (sz := 224) (k := g) hat ha ((iHandle_rw (a := a) (by omega)).byt (by omega)) (by omega)
              have r1 : Rw a.p (foldV a (iUnit a) t h) := foldV_rw (by omega) (iUnit_rw ha) h
              have r2 : Rw a.p (foldV a (iUnit a) (iHandle a) g) := foldV_rw (by omega) (iUnit_rw ha) g
              have h4 := hT (sz := 224) hat ha.b (r1.byt (by omega)) (r2.byt (by omega)) (by omega) (by omega)
              have h5 := hF (sz := 224) hat ha.b ((times_rw (a := a) (by omega) (foldV a (iUnit a) t h) (foldV a (iUnit a) (iHandle a) g)).byt (by omega)) (by omega)
              refine can_of hf rfl rfl ?_
              (repeat' (conv => whnf) <;> first | exact True.intro | (refine if_ ?_ ?_ <;> intro h <;> first | exact h.elim | (exfalso; omega) | skip) | refine vs_ ?_ | refine dv_ ?_ | exact fin_ | (show ∃ _, _ ∧ _; refine ex_ ?_ (by first | with_reducible exact rfl | with_reducible exact hal | exact hS' | exact hG1 | exact hG2 | exact hK' | exact hX' | exact h1 | exact h2 | exact h3 | exact h4 | exact h5 | exact rd_)) | (show ∃ _ _, _ ∧ _; refine ex2_ ?_ (by first | with_reducible exact rfl | with_reducible exact hal | exact hS' | exact hG1 | exact hG2 | exact hK' | exact hX' | exact h1 | exact h2 | exact h3 | exact h4 | exact h5 | exact rd_)) | fail)
            · rw [dB_f (fun x => c x.2), uno_5]
              rw [dB_f c] at hX'
              generalize iKlein a s = kl at *
              refine can_of hf rfl rfl ?_
              (repeat' (conv => whnf) <;> first | exact True.intro | (refine if_ ?_ ?_ <;> intro h <;> first | exact h.elim | (exfalso; omega) | skip) | refine vs_ ?_ | refine dv_ ?_ | exact fin_ | (show ∃ _, _ ∧ _; refine ex_ ?_ (by first | with_reducible exact rfl | with_reducible exact hal | exact hS' | exact hG1 | exact hG2 | exact hK' | exact hX' | exact rd_)) | (show ∃ _ _, _ ∧ _; refine ex2_ ?_ (by first | with_reducible exact rfl | with_reducible exact hal | exact hS' | exact hG1 | exact hG2 | exact hK' | exact hX' | exact rd_)) | fail)
          · rw [dB_f g3] at hS'
            change Can P _ _ (.val (.int .i64 5)) at hS'
            rw [dB_f (fun x => g3 x.1), uno_5]
            refine can_of hf rfl rfl ?_
            (repeat' (conv => whnf) <;> first | exact True.intro | (refine if_ ?_ ?_ <;> intro h <;> first | exact h.elim | (exfalso; omega) | skip) | refine vs_ ?_ | refine dv_ ?_ | exact fin_ | (show ∃ _, _ ∧ _; refine ex_ ?_ (by first | with_reducible exact rfl | with_reducible exact hal | exact hS' | exact hG1 | exact hG2 | exact rd_)) | (show ∃ _ _, _ ∧ _; refine ex2_ ?_ (by first | with_reducible exact rfl | with_reducible exact hal | exact hS' | exact hG1 | exact hG2 | exact rd_)) | fail)
        · have hG2 := can_df (hG (g := g)) gg
          rw [genB_f (fun x => gg x.2), uno_3]
          have hc := scode_05 (dB (CommP a ∧ FrobP a ∧ iStarP a s))
          generalize scode true true (dB (CommP a ∧ FrobP a ∧ iStarP a s)) = c at *
          refine can_of hf rfl rfl ?_
          (repeat' (conv => whnf) <;> first | exact True.intro | (refine if_ ?_ ?_ <;> intro h <;> first | exact h.elim | (exfalso; omega) | skip) | refine vs_ ?_ | refine dv_ ?_ | exact fin_ | (show ∃ _, _ ∧ _; refine ex_ ?_ (by first | with_reducible exact rfl | with_reducible exact hal | exact hS' | exact hG1 | exact hG2 | exact rd_)) | (show ∃ _ _, _ ∧ _; refine ex2_ ?_ (by first | with_reducible exact rfl | with_reducible exact hal | exact hS' | exact hG1 | exact hG2 | exact rd_)) | fail)
      · have hG1 := can_df (hG (g := h)) gh
        rw [genB_f (fun x => gh x.1), uno_3]
        have hc := scode_05 (dB (CommP a ∧ FrobP a ∧ iStarP a s))
        generalize scode true true (dB (CommP a ∧ FrobP a ∧ iStarP a s)) = c at *
        refine can_of hf rfl rfl ?_
        (repeat' (conv => whnf) <;> first | exact True.intro | (refine if_ ?_ ?_ <;> intro h <;> first | exact h.elim | (exfalso; omega) | skip) | refine vs_ ?_ | refine dv_ ?_ | exact fin_ | (show ∃ _, _ ∧ _; refine ex_ ?_ (by first | with_reducible exact rfl | with_reducible exact hal | exact hS' | exact hG1 | exact rd_)) | (show ∃ _ _, _ ∧ _; refine ex2_ ?_ (by first | with_reducible exact rfl | with_reducible exact hal | exact hS' | exact hG1 | exact rd_)) | fail)
    · rw [dB_f g2] at hS' ⊢
      change Can P _ _ (.val (.int .i64 2)) at hS'
      rw [uno_2]
      refine can_of hf rfl rfl ?_
      (repeat' (conv => whnf) <;> first | exact True.intro | (refine if_ ?_ ?_ <;> intro h <;> first | exact h.elim | (exfalso; omega) | skip) | refine vs_ ?_ | refine dv_ ?_ | exact fin_ | (show ∃ _, _ ∧ _; refine ex_ ?_ (by first | with_reducible exact rfl | with_reducible exact hal | exact hS' | exact rd_)) | (show ∃ _ _, _ ∧ _; refine ex2_ ?_ (by first | with_reducible exact rfl | with_reducible exact hal | exact hS' | exact rd_)) | fail)
  · rw [dB_f g1] at hS' ⊢
    change Can P _ _ (.val (.int .i64 1)) at hS'
    rw [uno_1]
    refine can_of hf rfl rfl ?_
    (repeat' (conv => whnf) <;> first | exact True.intro | (refine if_ ?_ ?_ <;> intro h <;> first | exact h.elim | (exfalso; omega) | skip) | refine vs_ ?_ | refine dv_ ?_ | exact fin_ | (show ∃ _, _ ∧ _; refine ex_ ?_ (by first | with_reducible exact rfl | with_reducible exact hal | exact hS' | exact rd_)) | (show ∃ _ _, _ ∧ _; refine ex2_ ?_ (by first | with_reducible exact rfl | with_reducible exact hal | exact hS' | exact rd_)) | fail)
end Go.X
