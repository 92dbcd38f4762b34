import Derived.Test.YtehopmcogekcoaaKNc
set_option linter.all false
namespace Go.X
open Go Go.RowKit
set_option maxRecDepth 100000
set_option maxHeartbeats 8000000
variable {P : Program} {N : FN}
theorem c_openedE (hP : C_IsPair P N) (hC : C_ContainsVec P N) (hf : isFn P N.impl_opened (ir_impl_opened N) = true) : C_openedE P N := by
  intro x hi
  have hx := pairAt_one x
  have hP' := hP hi
  refine can_of hf rfl rfl ?_
  by_cases g : IsPairP x
  · have g' := can_t hP' g
    have hC' : Can P N.slices_ContainsFunc_Limpl_Vector_impl_Vector [.lst 6 [], .fn N.impl_opened_1 [] [.pd (pairL x).length [pairL x] 0 0]] (.val (.bool false)) :=
      hC (m := 0) (f := fun _ => Z) (g := N.impl_opened_1) (c := .pd (pairL x).length [pairL x] 0 0) (q := fun _ => false) (by omega) (fun _ h => absurd h (by omega))
    have hC2 := can_emp0 hC' rfl
    rw [dB_t g, if_pos rfl]
    (repeat' (conv => whnf) <;> first | exact True.intro | (with_reducible show (_ → _) ∧ (_ → _); refine if_ ?_ ?_ <;> intro h <;> first | exact h.elim | (exfalso; omega) | skip) | (show _ ∧ _; refine an_ ?_) | (show ∃ _, _ ∧ _; refine ex_ ?_ (by first | with_reducible exact rfl | exact hx.all | exact g' | exact hC2 | exact rd_)) | (show ∃ _ _, _ ∧ _; refine ex2_ ?_ (by first | with_reducible exact rfl | exact hx.all | exact g' | exact hC2 | exact rd_)) | (show Ar.int _ _ _ _ _; refine ar_ ?_) | (show wrapK _ _ _; refine wk_ ?_) | exact fin_ | fail)
  · have g' := can_f hP' g
    rw [dB_f g, if_neg (by simp)]
    (repeat' (conv => whnf) <;> first | exact True.intro | (with_reducible show (_ → _) ∧ (_ → _); refine if_ ?_ ?_ <;> intro h <;> first | exact h.elim | (exfalso; omega) | skip) | (show _ ∧ _; refine an_ ?_) | (show ∃ _, _ ∧ _; refine ex_ ?_ (by first | with_reducible exact rfl | exact hx.all | exact g' | exact rd_)) | (show ∃ _ _, _ ∧ _; refine ex2_ ?_ (by first | with_reducible exact rfl | exact hx.all | exact g' | exact rd_)) | (show Ar.int _ _ _ _ _; refine ar_ ?_) | (show wrapK _ _ _; refine wk_ ?_) | exact fin_ | fail)
theorem c_IsCardyPair (hO : C_openedE P N) (hN : C_n P N) (hB : C_basis P N) (hU : C_unzip P N) (hZ : C_zip P N) (hS : C_sandwich P N) (hf : isFn P N.impl_IsCardyPair (ir_impl_IsCardyPair N) = true) : C_IsCardyPair P N := by
  intro x hi
  have hx := pairAt_one x
  have hO' := hO hi
  have hxo := hx.o
  have hxa := hx.all
  refine can_of hf rfl rfl ?_
  by_cases g : IsPairP x
  · rw [dB_t g, if_pos rfl] at hO' ⊢
    have ho := hi.o.alg g.1.2.1
    have hc := hi.c.alg g.1.1
    have hn := ho.n
    have hp2 := prime_bd ho.p
    have hq2 := prime_bd hc.p
    (repeat' (conv => whnf) <;> first | exact True.intro | (with_reducible show (_ → _) ∧ (_ → _); refine if_ ?_ ?_ <;> intro h <;> first | exact h.elim | (exfalso; omega) | skip) | (show _ ∧ _; refine an_ ?_) | (show ∃ _, _ ∧ _; refine ex_ ?_ (by first | with_reducible exact rfl | with_reducible exact hxa | exact hO' | exact hN hxo | exact rd_)) | (show ∃ _ _, _ ∧ _; refine ex2_ ?_ (by first | with_reducible exact rfl | with_reducible exact hxa | exact hO' | exact hN hxo | exact rd_)) | (show Ar.int _ _ _ _ _; refine ar_ ?_) | (show wrapK _ _ _; refine wk_ ?_) | exact fin_ | fail)
    conv => whnf
    refine vc_loop (α := Nat) 0 (fun i => x.o.n.toNat - i) (fun i => i ≤ x.o.n.toNat ∧ ∀ q, q < i → VEq (zipN x.o.p x.z (iUnzip x (basV q)) 6) (iSand x (basV q))) [] (fun i => [(12, .d (.int .i64 x.o.n)), (13, .d (.int .i64 i))]) (fun i => []) lp_ ?_ ?_
    · (repeat' (conv => whnf) <;> first | exact True.intro | (with_reducible show (_ → _) ∧ (_ → _); refine if_ ?_ ?_ <;> intro h <;> first | exact h.elim | (exfalso; omega) | skip) | (show _ ∧ _; refine an_ ?_) | (show ∃ _, _ ∧ _; refine ex_ ?_) | (show ∃ _ _, _ ∧ _; refine ex2_ ?_) | (show Ar.int _ _ _ _ _; refine ar_ ?_) | (show wrapK _ _ _; refine wk_ ?_) | exact fin_ | fail)
    · rintro i ⟨hi6, hall⟩
      by_cases hlt : i < x.o.n.toNat
      · have hU' := hU (sz := (pairL x).length) hx hc ho hi.z (basV_byt i)
        have rU : Rw x.c.p (iUnzip x (basV i)) := uzR_rw (by omega) _
        have hZ' := hZ (sz := (pairL x).length) hx (by omega) hi.z (rU.byt (by omega))
        have hS' : Can P N.impl_Pair_sandwich [.pd (pairL x).length [pairL x] 0 0, vecD (basV i)] (.val (vecD (iSand x (basV i)))) := hS hx ho (basV_byt i)
        by_cases s : VEq (zipN x.o.p x.z (iUnzip x (basV i)) 6) (iSand x (basV i))
        · (repeat' (conv => whnf) <;> first | exact True.intro | (with_reducible show (_ → _) ∧ (_ → _); refine if_ ?_ ?_ <;> intro h <;> first | exact h.elim | (exfalso; omega) | skip) | (show _ ∧ _; refine an_ ?_ (by first | exact ⟨conf_vec _, conf_vec _⟩ | exact sd_)) | (show ∃ _, _ ∧ _; refine ex_ ?_ (by first | with_reducible exact rfl | exact hB (by omega) | exact hU' | exact hZ' | exact hS' | exact eq_t s | exact rd_)) | (show ∃ _ _, _ ∧ _; refine ex2_ ?_ (by first | with_reducible exact rfl | exact hB (by omega) | exact hU' | exact hZ' | exact hS' | exact eq_t s | exact rd_)) | (show Ar.int _ _ _ _ _; refine ar_ ?_) | (show wrapK _ _ _; refine wk_ ?_) | exact fin_ | fail)
          conv => whnf
          refine ⟨i + 1, ⟨by omega, all_succ hall s⟩, by omega, ?_⟩
          (repeat' (conv => whnf) <;> first | exact True.intro | (with_reducible show (_ → _) ∧ (_ → _); refine if_ ?_ ?_ <;> intro h <;> first | exact h.elim | (exfalso; omega) | skip) | (show _ ∧ _; refine an_ ?_) | (show ∃ _, _ ∧ _; refine ex_ ?_) | (show ∃ _ _, _ ∧ _; refine ex2_ ?_) | (show Ar.int _ _ _ _ _; refine ar_ ?_) | (show wrapK _ _ _; refine wk_ ?_) | exact fin_ | fail)
        · have e : dB (IsPairP x ∧ iCardyP x) = false := dB_f fun h => s (h.2 i hlt)
          rw [e]
          (repeat' (conv => whnf) <;> first | exact True.intro | (with_reducible show (_ → _) ∧ (_ → _); refine if_ ?_ ?_ <;> intro h <;> first | exact h.elim | (exfalso; omega) | skip) | (show _ ∧ _; refine an_ ?_ (by first | exact ⟨conf_vec _, conf_vec _⟩ | exact sd_)) | (show ∃ _, _ ∧ _; refine ex_ ?_ (by first | with_reducible exact rfl | exact hB (by omega) | exact hU' | exact hZ' | exact hS' | exact eq_f s | exact rd_)) | (show ∃ _ _, _ ∧ _; refine ex2_ ?_ (by first | with_reducible exact rfl | exact hB (by omega) | exact hU' | exact hZ' | exact hS' | exact eq_f s | exact rd_)) | (show Ar.int _ _ _ _ _; refine ar_ ?_) | (show wrapK _ _ _; refine wk_ ?_) | exact fin_ | fail)
      · have e : dB (IsPairP x ∧ iCardyP x) = true := dB_t ⟨g, fun q hq => hall q (by omega)⟩
        rw [e]
        (repeat' (conv => whnf) <;> first | exact True.intro | (with_reducible show (_ → _) ∧ (_ → _); refine if_ ?_ ?_ <;> intro h <;> first | exact h.elim | (exfalso; omega) | skip) | (show _ ∧ _; refine an_ ?_) | (show ∃ _, _ ∧ _; refine ex_ ?_) | (show ∃ _ _, _ ∧ _; refine ex2_ ?_) | (show Ar.int _ _ _ _ _; refine ar_ ?_) | (show wrapK _ _ _; refine wk_ ?_) | exact fin_ | fail)
  · rw [dB_f (fun h => g h.1), dB_f g, if_neg (by simp)]
    rw [dB_f g, if_neg (by simp)] at hO'
    (repeat' (conv => whnf) <;> first | exact True.intro | (with_reducible show (_ → _) ∧ (_ → _); refine if_ ?_ ?_ <;> intro h <;> first | exact h.elim | (exfalso; omega) | skip) | (show _ ∧ _; refine an_ ?_) | (show ∃ _, _ ∧ _; refine ex_ ?_ (by first | with_reducible exact rfl | with_reducible exact hxa | exact hO' | exact rd_)) | (show ∃ _ _, _ ∧ _; refine ex2_ ?_ (by first | with_reducible exact rfl | with_reducible exact hxa | exact hO' | exact rd_)) | (show Ar.int _ _ _ _ _; refine ar_ ?_) | (show wrapK _ _ _; refine wk_ ?_) | exact fin_ | fail)
end Go.X
