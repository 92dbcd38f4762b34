import Derived.Test.YtehopmcogekcoaaKNc
set_option linter.all false
namespace Go.X
open Go Go.RowKit
set_option maxRecDepth 100000
set_option maxHeartbeats 8000000
variable {P : Program} {N : FN}
theorem c_sIsCardyPair (hI : C_sIs P N) (hB : C_sBasis P N) (hU : C_sUnzip P N) (hZ : C_sZip P N) (hS : C_sSandwich P N) (hf : isFn P N.spec_IsCardyPair (ir_spec_IsCardyPair N) = true) : C_sIsCardyPair P N := by
  intro x hi hcol
  have hx := pairAt_one x
  have hI' := hI hi
  have hxo := hx.o
  have hxoa := hx.o.all
  have hxa := hx.all
  refine can_of hf rfl rfl ?_
  by_cases g : sIsP x
  · rw [dB_t g, if_pos rfl]
    rw [dB_t g] at hI'
    have ho := hi.o.ok g.1.2.1.1
    have hc := hi.c.ok g.1.1.1
    have hn := ho.n
    have hp2 := prime_bd ho.p
    have hq2 := prime_bd hc.p
    have hnc := hc.n
    (repeat' (conv => whnf) <;> first | exact True.intro | (with_reducible show (_ → _) ∧ (_ → _); refine if_ ?_ ?_ <;> intro h <;> first | exact h.elim | (exfalso; omega) | skip) | (show _ ∧ _; refine an_ ?_) | (show ∃ _, _ ∧ _; refine ex_ ?_ (by first | with_reducible exact rfl | with_reducible exact hxa | exact hI' | exact rd_)) | (show ∃ _ _, _ ∧ _; refine ex2_ ?_ (by first | with_reducible exact rfl | with_reducible exact hxa | exact hI' | exact rd_)) | (show Ar.int _ _ _ _ _; refine ar_ ?_) | (show wrapK _ _ _; refine wk_ ?_) | exact fin_ | fail)
    conv => whnf
    refine vc_loop (α := Nat) 0 (fun i => x.o.n.toNat - i) (fun i => i ≤ x.o.n.toNat ∧ ∀ q, q < i → VEq (zipN x.o.p x.z (sUnzip x (basV q)) x.c.n.toNat) (sSand x (basV q))) [] (fun i => [(4, .d (.int .i64 i))]) (fun i => []) lp_ ?_ ?_
    · (repeat' (conv => whnf) <;> first | exact True.intro | (with_reducible show (_ → _) ∧ (_ → _); refine if_ ?_ ?_ <;> intro h <;> first | exact h.elim | (exfalso; omega) | skip) | (show _ ∧ _; refine an_ ?_) | (show ∃ _, _ ∧ _; refine ex_ ?_) | (show ∃ _ _, _ ∧ _; refine ex2_ ?_) | (show Ar.int _ _ _ _ _; refine ar_ ?_) | (show wrapK _ _ _; refine wk_ ?_) | exact fin_ | fail)
    · rintro i ⟨hi6, hall⟩
      by_cases hlt : i < x.o.n.toNat
      · have hU' := hU hc ho (hcol g).1 hi.z (basV_byt i)
        have rU : Rw x.c.p (sUnzip x (basV i)) := uzT_rw (by omega) _
        have hZ' := hZ (x := x) (by omega) (by omega) hi.z (rU.byt (by omega))
        have hS' : Can P N.spec_l10Sandwich [algD x.o, vecD (basV i)] (.val (vecD (sSand x (basV i)))) := hS ho (hcol g).2 (basV_byt i)
        by_cases s : VEq (zipN x.o.p x.z (sUnzip x (basV i)) x.c.n.toNat) (sSand x (basV i))
        · (repeat' (conv => whnf) <;> first | exact True.intro | (with_reducible show (_ → _) ∧ (_ → _); refine if_ ?_ ?_ <;> intro h <;> first | exact h.elim | (exfalso; omega) | skip) | (show _ ∧ _; refine an_ ?_ (by first | exact ⟨conf_vec _, conf_vec _⟩ | exact sd_)) | (show ∃ _, _ ∧ _; refine ex_ ?_ (by first | with_reducible exact rfl | with_reducible exact hxa | with_reducible exact hxoa | exact hB (by omega) | with_reducible exact rd_st6 | with_reducible exact hU' | with_reducible exact hZ' | with_reducible exact hS' | exact eq_t s | exact rd_)) | (show ∃ _ _, _ ∧ _; refine ex2_ ?_ (by first | with_reducible exact rfl | with_reducible exact hxa | with_reducible exact hxoa | exact hB (by omega) | with_reducible exact rd_st6 | with_reducible exact hU' | with_reducible exact hZ' | with_reducible exact hS' | exact eq_t s | exact rd_)) | (show Ar.int _ _ _ _ _; refine ar_ ?_) | (show wrapK _ _ _; refine wk_ ?_) | exact fin_ | fail)
          conv => whnf
          refine ⟨i + 1, ⟨by omega, all_succ hall s⟩, by omega, ?_⟩
          (repeat' (conv => whnf) <;> first | exact True.intro | (with_reducible show (_ → _) ∧ (_ → _); refine if_ ?_ ?_ <;> intro h <;> first | exact h.elim | (exfalso; omega) | skip) | (show _ ∧ _; refine an_ ?_) | (show ∃ _, _ ∧ _; refine ex_ ?_) | (show ∃ _ _, _ ∧ _; refine ex2_ ?_) | (show Ar.int _ _ _ _ _; refine ar_ ?_) | (show wrapK _ _ _; refine wk_ ?_) | exact fin_ | fail)
        · have e : dB (sIsP x ∧ sCardyP x) = false := dB_f fun h => s (h.2 i hlt)
          rw [e]
          (repeat' (conv => whnf) <;> first | exact True.intro | (with_reducible show (_ → _) ∧ (_ → _); refine if_ ?_ ?_ <;> intro h <;> first | exact h.elim | (exfalso; omega) | skip) | (show _ ∧ _; refine an_ ?_ (by first | exact ⟨conf_vec _, conf_vec _⟩ | exact sd_)) | (show ∃ _, _ ∧ _; refine ex_ ?_ (by first | with_reducible exact rfl | with_reducible exact hxa | with_reducible exact hxoa | exact hB (by omega) | with_reducible exact rd_st6 | with_reducible exact hU' | with_reducible exact hZ' | with_reducible exact hS' | exact eq_f s | exact rd_)) | (show ∃ _ _, _ ∧ _; refine ex2_ ?_ (by first | with_reducible exact rfl | with_reducible exact hxa | with_reducible exact hxoa | exact hB (by omega) | with_reducible exact rd_st6 | with_reducible exact hU' | with_reducible exact hZ' | with_reducible exact hS' | exact eq_f s | exact rd_)) | (show Ar.int _ _ _ _ _; refine ar_ ?_) | (show wrapK _ _ _; refine wk_ ?_) | exact fin_ | fail)
      · have e : dB (sIsP x ∧ sCardyP x) = true := dB_t ⟨g, fun q hq => hall q (by omega)⟩
        rw [e]
        (repeat' (conv => whnf) <;> first | exact True.intro | (with_reducible show (_ → _) ∧ (_ → _); refine if_ ?_ ?_ <;> intro h <;> first | exact h.elim | (exfalso; omega) | skip) | (show _ ∧ _; refine an_ ?_) | (show ∃ _, _ ∧ _; refine ex_ ?_) | (show ∃ _ _, _ ∧ _; refine ex2_ ?_) | (show Ar.int _ _ _ _ _; refine ar_ ?_) | (show wrapK _ _ _; refine wk_ ?_) | exact fin_ | fail)
  · rw [dB_f (fun h => g h.1), dB_f g, if_neg (by simp)]
    rw [dB_f g] at hI'
    (repeat' (conv => whnf) <;> first | exact True.intro | (with_reducible show (_ → _) ∧ (_ → _); refine if_ ?_ ?_ <;> intro h <;> first | exact h.elim | (exfalso; omega) | skip) | (show _ ∧ _; refine an_ ?_) | (show ∃ _, _ ∧ _; refine ex_ ?_ (by first | with_reducible exact rfl | with_reducible exact hxa | exact hI' | exact rd_)) | (show ∃ _ _, _ ∧ _; refine ex2_ ?_ (by first | with_reducible exact rfl | with_reducible exact hxa | exact hI' | exact rd_)) | (show Ar.int _ _ _ _ _; refine ar_ ?_) | (show wrapK _ _ _; refine wk_ ?_) | exact fin_ | fail)
end Go.X
