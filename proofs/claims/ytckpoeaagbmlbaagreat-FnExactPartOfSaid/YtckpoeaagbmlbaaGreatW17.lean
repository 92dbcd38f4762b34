import Derived.Test.YtckpoeaagbmlbaaGreatW16
import Derived.Test.YtckpoeaagbmlbaaGreatW12
import Derived.Test.YtckpoeaagbmlbaaGreatK5
import Derived.Test.YtckpoeaagbmlbaaGreatW6
import Derived.Test.YtckpoeaagbmlbaaGreatW7
set_option linter.all false
namespace Go.X
open Go Go.RowKit
set_option maxRecDepth 100000
set_option maxHeartbeats 8000000
set_option linter.unusedVariables false
variable {P : Program} {N : FN}
theorem c_SizesOf (hC : C_commutes P N) (hP : C_prims P N) (hA : C_all P N) (hT : C_spread P N) (hf : isFn P N.impl_SizesOfParts (ir_impl_SizesOfParts N) = true) : C_SizesOf P N := by
  intro a hi
  have hat := algAt_one a
  have hal := hat.all
  have hC' := commutesE hC hi
  unfold szR
  by_cases g : IsAlgP a
  · have ha := hi.alg g
    by_cases c : CommP a
    · have hca := ca_of hi.s ((alg_iff hi).1 g) ((comm_iff ha).1 c)
      have hn := ha.n
      have hp2 := prime_bd ha.p
      have hP' := hP (sz := (algL a).length) hat hca
      have hA' := hA (sz := (algL a).length) hat (by omega)
      have hle := prims_le hca
      have hSl : (sortV (primI a)).length = (primI a).length := sortV_len _
      have hpm := prims_len (a := a)
      have hbl := basL_len (a := a)
      rw [dB_t g, dB_t c] at hC' ⊢
      change Can P _ _ (.val (.int .i64 0)) at hC'
      change Can P _ _ (.tupO 1 (row (primI a).length (szF a false)) [] [.int .i64 0])
      refine can_of hf rfl rfl ?_
      (repeat' (conv => whnf) <;> first | exact True.intro | (refine if_ ?_ ?_ <;> intro h <;> first | exact h.elim | (exfalso; omega) | skip) | refine vs_ ?_ (by first | exact .inr flat_mv | exact sd_) | refine dv_ ?_ | exact fin_ | (show ∃ _, _ ∧ _; refine ex_ ?_ (by first | with_reducible exact rfl | with_reducible exact hal | exact hC' | exact hP' | exact rd_)) | (show ∃ _ _, _ ∧ _; refine ex2_ ?_ (by first | with_reducible exact rfl | with_reducible exact hal | exact hC' | exact hP' | exact rd_)) | fail)
      conv => whnf
      refine vc_loop (α := Nat) 0 (fun q => (primI a).length - q) (fun q => q ≤ (primI a).length) [] (fun q => [(5, .row 6 1), (16, .d (.int .i64 q))]) (fun q => [(6, .data 1 (row q (szF a false)))]) lp_ ?_ ?_
      · (repeat' (conv => whnf) <;> first | exact True.intro | (refine if_ ?_ ?_ <;> intro h <;> first | exact h.elim | (exfalso; omega) | skip) | refine vs_ ?_ | refine dv_ ?_ | exact fin_ | (show ∃ _, _ ∧ _; refine ex_ ?_) | (show ∃ _ _, _ ∧ _; refine ex2_ ?_) | fail)
      · intro q hq
        have hrl : (row q (szF a false)).length = q := row_len ..
        by_cases hlt : q < (primI a).length
        · have hem : (sortV (primI a)).getD q Z ∈ primI a := ((sortV_facts _ (primI a) rfl (orth_dist hca (primI_orth hca))).2.2 _).1 (getD_memE (by omega))
          have heb : Byts ((sortV (primI a)).getD q Z) := ((primI_orth hca).inn _ hem).1.byt (by omega)
          have hT1 := hT (sz := (algL a).length) (v := (sortV (primI a)).getD q Z) (L := basL a) hat ha heb (by omega) basL_byt
          have hl1 := part_len ha ((sortV (primI a)).getD q Z) (basL a)
          have hm1 : ((partL a ((sortV (primI a)).getD q Z) (basL a)).map vecL).length = (partL a ((sortV (primI a)).getD q Z) (basL a)).length := List.length_map ..
          have hz : (((partL a ((sortV (primI a)).getD q Z) (basL a)).length : Nat) : Int) = szF a false q := by
            unfold szF; rw [if_neg (by simp), Int.sub_zero]
          (repeat' (conv => whnf) <;> first | exact True.intro | (refine if_ ?_ ?_ <;> intro h <;> first | exact h.elim | (exfalso; omega) | skip) | refine vs_ ?_ (by first | exact .inr flat_mv | exact sd_) | refine dv_ ?_ | exact fin_ | (show ∃ _, _ ∧ _; refine ex_ ?_ (by first | with_reducible exact rfl | with_reducible exact hal | with_reducible exact sub_vm (by omega) rfl | with_reducible exact rd_st6 | exact hA' | exact hT1 | exact rd_)) | (show ∃ _ _, _ ∧ _; refine ex2_ ?_ (by first | with_reducible exact rfl | with_reducible exact hal | with_reducible exact sub_vm (by omega) rfl | with_reducible exact rd_st6 | exact hA' | exact hT1 | exact rd_)) | fail)
          conv => whnf
          refine ⟨q + 1, by omega, by omega, ?_⟩
          (repeat' (conv => whnf) <;> first | exact True.intro | (refine if_ ?_ ?_ <;> intro h <;> first | exact h.elim | (exfalso; omega) | skip) | refine vs_ ?_ (by first | exact szF_app (by rw [hm1]; exact hz) | exact sd_) | refine dv_ ?_ | exact fin_ | (show ∃ _, _ ∧ _; refine ex_ ?_) | (show ∃ _ _, _ ∧ _; refine ex2_ ?_) | fail)
        · have : q = (primI a).length := by omega
          subst this
          (repeat' (conv => whnf) <;> first | exact True.intro | (refine if_ ?_ ?_ <;> intro h <;> first | exact h.elim | (exfalso; omega) | skip) | refine vs_ ?_ | refine dv_ ?_ | exact fin_ | (show ∃ _, _ ∧ _; refine ex_ ?_) | (show ∃ _ _, _ ∧ _; refine ex2_ ?_) | fail)
          all_goals exact Nat.le_refl 2
    · rw [dB_t g, dB_f c] at hC' ⊢
      change Can P _ _ (.val (.int .i64 5)) at hC'
      change Can P _ _ (.tupO 1 [] [] [.int .i64 5])
      refine can_tupO_emp (can_of hf rfl rfl ?_)
      (repeat' (conv => whnf) <;> first | exact True.intro | (refine if_ ?_ ?_ <;> intro h <;> first | exact h.elim | (exfalso; omega) | skip) | refine vs_ ?_ | refine dv_ ?_ | exact fin_ | (show ∃ _, _ ∧ _; refine ex_ ?_ (by first | with_reducible exact rfl | with_reducible exact hal | exact hC' | exact rd_)) | (show ∃ _ _, _ ∧ _; refine ex2_ ?_ (by first | with_reducible exact rfl | with_reducible exact hal | exact hC' | exact rd_)) | fail)
  · rw [dB_f g] at hC' ⊢
    change Can P _ _ (.val (.int .i64 1)) at hC'
    change Can P _ _ (.tupO 1 [] [] [.int .i64 1])
    refine can_tupO_emp (can_of hf rfl rfl ?_)
    (repeat' (conv => whnf) <;> first | exact True.intro | (refine if_ ?_ ?_ <;> intro h <;> first | exact h.elim | (exfalso; omega) | skip) | refine vs_ ?_ | refine dv_ ?_ | exact fin_ | (show ∃ _, _ ∧ _; refine ex_ ?_ (by first | with_reducible exact rfl | with_reducible exact hal | exact hC' | exact rd_)) | (show ∃ _ _, _ ∧ _; refine ex2_ ?_ (by first | with_reducible exact rfl | with_reducible exact hal | exact hC' | exact rd_)) | fail)
theorem c_sSizesOf (hC : C_sCode5 P N) (hS : C_sSizes P N) (hf : isFn P N.spec_SizesOfParts (ir_spec_SizesOfParts N) = true) : C_sSizesOf P N := by
  intro a hi
  have hat := algAt_one a
  have hal := hat.all
  have hC' := sCode5E hC hi
  unfold szR
  by_cases g : sAlgP a
  · by_cases c : sCommP a
    · have hca := ca_of hi g c
      have hS' := hS (b := false) hca
      rw [dB_t g, dB_t c] at hC' ⊢
      change Can P _ _ (.val (.int .i64 0)) at hC'
      change Can P _ _ (.tupO 1 (row (primI a).length (szF a false)) [] [.int .i64 0])
      refine can_of hf rfl rfl ?_
      (repeat' (conv => whnf) <;> first | exact True.intro | (refine if_ ?_ ?_ <;> intro h <;> first | exact h.elim | (exfalso; omega) | skip) | refine vs_ ?_ | refine dv_ ?_ | exact fin_ | (show ∃ _, _ ∧ _; refine ex_ ?_ (by first | with_reducible exact rfl | with_reducible exact hal | exact hC' | exact hS' | exact rd_)) | (show ∃ _ _, _ ∧ _; refine ex2_ ?_ (by first | with_reducible exact rfl | with_reducible exact hal | exact hC' | exact hS' | exact rd_)) | fail)
      all_goals exact Nat.le_refl 2
    · rw [dB_t g, dB_f c] at hC' ⊢
      change Can P _ _ (.val (.int .i64 5)) at hC'
      change Can P _ _ (.tupO 1 [] [] [.int .i64 5])
      refine can_tupO_emp (can_of hf rfl rfl ?_)
      (repeat' (conv => whnf) <;> first | exact True.intro | (refine if_ ?_ ?_ <;> intro h <;> first | exact h.elim | (exfalso; omega) | skip) | refine vs_ ?_ | refine dv_ ?_ | exact fin_ | (show ∃ _, _ ∧ _; refine ex_ ?_ (by first | with_reducible exact rfl | with_reducible exact hal | exact hC' | exact rd_)) | (show ∃ _ _, _ ∧ _; refine ex2_ ?_ (by first | with_reducible exact rfl | with_reducible exact hal | exact hC' | exact rd_)) | fail)
  · rw [dB_f g] at hC' ⊢
    change Can P _ _ (.val (.int .i64 1)) at hC'
    change Can P _ _ (.tupO 1 [] [] [.int .i64 1])
    refine can_tupO_emp (can_of hf rfl rfl ?_)
    (repeat' (conv => whnf) <;> first | exact True.intro | (refine if_ ?_ ?_ <;> intro h <;> first | exact h.elim | (exfalso; omega) | skip) | refine vs_ ?_ | refine dv_ ?_ | exact fin_ | (show ∃ _, _ ∧ _; refine ex_ ?_ (by first | with_reducible exact rfl | with_reducible exact hal | exact hC' | exact rd_)) | (show ∃ _ _, _ ∧ _; refine ex2_ ?_ (by first | with_reducible exact rfl | with_reducible exact hal | exact hC' | exact rd_)) | fail)
theorem c_PartOf (hC : C_commutes P N) (hP : C_prims P N) (hH : C_ContainsVs P N) (hA : C_all P N) (hT : C_spread P N) (hf : isFn P N.impl_PartOf (ir_impl_PartOf N) = true) : C_PartOf P N := by
  intro a v hi hv
  have hat := algAt_one a
  have hal := hat.all
  have hC' : Can P N.impl_commutes [algD a, .lst 6 [vecL v]] _ := hC (q := 1) (s := fun _ => v) hi (by omega) (fun _ => hv)
  unfold ptR
  by_cases g : IsAlgP a ∧ AllSm a 1 fun _ => v
  · have ha := hi.alg g.1
    by_cases c : CommP a
    · have hca := ca_of hi.s ((alg_iff hi).1 g.1) ((comm_iff ha).1 c)
      have hn := ha.n
      have hP' := hP (sz := (algL a).length) hat hca
      have hH' := hH (L := sortV (primI a)) (v := v) (by rw [sortV_len]; have := prims_le hca; omega)
      have hA' := hA (sz := (algL a).length) hat (by omega)
      have hT1 := hT (sz := (algL a).length) (v := v) (L := basL a) hat ha hv (by rw [basL_len]; omega) basL_byt
      rw [dB_t g, dB_t c] at hC' ⊢
      change Can P _ _ (.val (.int .i64 0)) at hC'
      by_cases h : HasV (sortV (primI a)) v
      · rw [dB_t h] at hH' ⊢
        change Can P _ _ (.tupO 6 ((partL a v (basL a)).map vecL) [] [.int .i64 0])
        refine can_of hf rfl rfl ?_
        (repeat' (conv => whnf) <;> first | exact True.intro | (refine if_ ?_ ?_ <;> intro h <;> first | exact h.elim | (exfalso; omega) | skip) | refine vs_ ?_ (by first | exact .inr flat_mv | exact sd_) | refine dv_ ?_ | exact fin_ | (show ∃ _, _ ∧ _; refine ex_ ?_ (by first | with_reducible exact rfl | with_reducible exact hal | exact hC' | exact hP' | exact hH' | exact hA' | exact hT1 | exact rd_)) | (show ∃ _ _, _ ∧ _; refine ex2_ ?_ (by first | with_reducible exact rfl | with_reducible exact hal | exact hC' | exact hP' | exact hH' | exact hA' | exact hT1 | exact rd_)) | fail)
        all_goals exact Nat.le_refl 2
      · rw [dB_f h] at hH' ⊢
        change Can P _ _ (.tupO 6 [] [] [.int .i64 5])
        refine can_tupO_emp (can_of hf rfl rfl ?_)
        (repeat' (conv => whnf) <;> first | exact True.intro | (refine if_ ?_ ?_ <;> intro h <;> first | exact h.elim | (exfalso; omega) | skip) | refine vs_ ?_ (by first | exact .inr flat_mv | exact sd_) | refine dv_ ?_ | exact fin_ | (show ∃ _, _ ∧ _; refine ex_ ?_ (by first | with_reducible exact rfl | with_reducible exact hal | exact hC' | exact hP' | exact hH' | exact rd_)) | (show ∃ _ _, _ ∧ _; refine ex2_ ?_ (by first | with_reducible exact rfl | with_reducible exact hal | exact hC' | exact hP' | exact hH' | exact rd_)) | fail)
    · rw [dB_t g, dB_f c] at hC' ⊢
      change Can P _ _ (.val (.int .i64 5)) at hC'
      change Can P _ _ (.tupO 6 [] [] [.int .i64 5])
      refine can_tupO_emp (can_of hf rfl rfl ?_)
      (repeat' (conv => whnf) <;> first | exact True.intro | (refine if_ ?_ ?_ <;> intro h <;> first | exact h.elim | (exfalso; omega) | skip) | refine vs_ ?_ | refine dv_ ?_ | exact fin_ | (show ∃ _, _ ∧ _; refine ex_ ?_ (by first | with_reducible exact rfl | with_reducible exact hal | exact hC' | exact rd_)) | (show ∃ _ _, _ ∧ _; refine ex2_ ?_ (by first | with_reducible exact rfl | with_reducible exact hal | exact hC' | exact rd_)) | fail)
  · rw [dB_f g] at hC' ⊢
    change Can P _ _ (.val (.int .i64 1)) at hC'
    change Can P _ _ (.tupO 6 [] [] [.int .i64 1])
    refine can_tupO_emp (can_of hf rfl rfl ?_)
    (repeat' (conv => whnf) <;> first | exact True.intro | (refine if_ ?_ ?_ <;> intro h <;> first | exact h.elim | (exfalso; omega) | skip) | refine vs_ ?_ | refine dv_ ?_ | exact fin_ | (show ∃ _, _ ∧ _; refine ex_ ?_ (by first | with_reducible exact rfl | with_reducible exact hal | exact hC' | exact rd_)) | (show ∃ _ _, _ ∧ _; refine ex2_ ?_ (by first | with_reducible exact rfl | with_reducible exact hal | exact hC' | exact rd_)) | fail)
theorem c_sPartOf (hC : C_sCode5 P N) (hP : C_sIs5 P N) (hB : C_sBasisL P N) (hT : C_sPart P N) (hf : isFn P N.spec_PartOf (ir_spec_PartOf N) = true) : C_sPartOf P N := by
  intro a v hi hv
  have hat := algAt_one a
  have hal := hat.all
  have hC' : Can P N.spec_l05Code [algD a, .lst 6 [vecL v]] _ := hC (q := 1) (s := fun _ => v) hi (by omega) (fun _ => hv)
  unfold ptR
  by_cases g : sAlgP a ∧ AllSm a 1 fun _ => v
  · by_cases c : sCommP a
    · have hca := ca_of hi g.1 c
      have ha := hca.ok
      have hn := ha.n
      have hH' := hP (v := v) hca
      have hB' := hB (a := a) (by omega)
      have hT1 := hT (v := v) (L := basL a) ha hv (by rw [basL_len]; omega) basL_byt
      rw [dB_t g, dB_t c] at hC' ⊢
      change Can P _ _ (.val (.int .i64 0)) at hC'
      by_cases h : HasV (sortV (primI a)) v
      · rw [dB_t h] at hH' ⊢
        change Can P _ _ (.tupO 6 ((partL a v (basL a)).map vecL) [] [.int .i64 0])
        refine can_of hf rfl rfl ?_
        (repeat' (conv => whnf) <;> first | exact True.intro | (refine if_ ?_ ?_ <;> intro h <;> first | exact h.elim | (exfalso; omega) | skip) | refine vs_ ?_ (by first | exact .inr flat_mv | exact sd_) | refine dv_ ?_ | exact fin_ | (show ∃ _, _ ∧ _; refine ex_ ?_ (by first | with_reducible exact rfl | with_reducible exact hal | exact hC' | exact hH' | exact hB' | exact hT1 | exact rd_)) | (show ∃ _ _, _ ∧ _; refine ex2_ ?_ (by first | with_reducible exact rfl | with_reducible exact hal | exact hC' | exact hH' | exact hB' | exact hT1 | exact rd_)) | fail)
        all_goals exact Nat.le_refl 2
      · rw [dB_f h] at hH' ⊢
        change Can P _ _ (.tupO 6 [] [] [.int .i64 5])
        refine can_tupO_emp (can_of hf rfl rfl ?_)
        (repeat' (conv => whnf) <;> first | exact True.intro | (refine if_ ?_ ?_ <;> intro h <;> first | exact h.elim | (exfalso; omega) | skip) | refine vs_ ?_ | refine dv_ ?_ | exact fin_ | (show ∃ _, _ ∧ _; refine ex_ ?_ (by first | with_reducible exact rfl | with_reducible exact hal | exact hC' | exact hH' | exact rd_)) | (show ∃ _ _, _ ∧ _; refine ex2_ ?_ (by first | with_reducible exact rfl | with_reducible exact hal | exact hC' | exact hH' | exact rd_)) | fail)
    · rw [dB_t g, dB_f c] at hC' ⊢
      change Can P _ _ (.val (.int .i64 5)) at hC'
      change Can P _ _ (.tupO 6 [] [] [.int .i64 5])
      refine can_tupO_emp (can_of hf rfl rfl ?_)
      (repeat' (conv => whnf) <;> first | exact True.intro | (refine if_ ?_ ?_ <;> intro h <;> first | exact h.elim | (exfalso; omega) | skip) | refine vs_ ?_ | refine dv_ ?_ | exact fin_ | (show ∃ _, _ ∧ _; refine ex_ ?_ (by first | with_reducible exact rfl | with_reducible exact hal | exact hC' | exact rd_)) | (show ∃ _ _, _ ∧ _; refine ex2_ ?_ (by first | with_reducible exact rfl | with_reducible exact hal | exact hC' | exact rd_)) | fail)
  · rw [dB_f g] at hC' ⊢
    change Can P _ _ (.val (.int .i64 1)) at hC'
    change Can P _ _ (.tupO 6 [] [] [.int .i64 1])
    refine can_tupO_emp (can_of hf rfl rfl ?_)
    (repeat' (conv => whnf) <;> first | exact True.intro | (refine if_ ?_ ?_ <;> intro h <;> first | exact h.elim | (exfalso; omega) | skip) | refine vs_ ?_ | refine dv_ ?_ | exact fin_ | (show ∃ _, _ ∧ _; refine ex_ ?_ (by first | with_reducible exact rfl | with_reducible exact hal | exact hC' | exact rd_)) | (show ∃ _ _, _ ∧ _; refine ex2_ ?_ (by first | with_reducible exact rfl | with_reducible exact hal | exact hC' | exact rd_)) | fail)
end Go.X
