import Derived.Test.YtehopmcogekcoaaKNc
set_option linter.all false
namespace Go.X
open Go Go.RowKit
set_option maxRecDepth 100000
set_option maxHeartbeats 8000000
variable {P : Program} {N : FN}
theorem c_sUnzip (hC : C_sCop P N) (hA : C_sAdd P N) (hB : C_sBasis P N) (hT : C_sTimes P N) (hF : C_sForm P N) (hf : isFn P N.spec_l10Unzip (ir_spec_l10Unzip N) = true) : C_sUnzip P N := by
  intro x w hc ho hs hz hw
  have hn := hc.n
  have hp2 := prime_bd hc.p
  have hq2 := prime_bd ho.p
  have hno := ho.n
  have hC' := hC hc hs
  have hrw := sCop_rw hc
  have hx := pairAt_one x
  have hxc := hx.c.all
  have hxo := hx.o.all
  have hl : (arr x.c.n.toNat (sCop x.c)).length = x.c.n.toNat := arr_len ..
  have hg : ∀ k, k < x.c.n.toNat → get2 (rowsL x.c.n.toNat (arr x.c.n.toNat (sCop x.c))) ((k : Nat) : Int).toNat 0 = some (rowD x.c.n.toNat (sCop x.c k)) := fun k hk => by
    rw [rd_rows (by omega), List.getD_eq_getElem?_getD, arr_get hk]; rfl
  have hac := algAt_st (a := x.c)
  have hao := (algAt_st (a := x.o)).all
  unfold sUnzip
  refine can_of hf rfl rfl ?_
  (repeat' (conv => whnf) <;> first | exact True.intro | (with_reducible show (_ → _) ∧ (_ → _); refine if_ ?_ ?_ <;> intro h <;> first | exact h.elim | (exfalso; omega) | skip) | (show _ ∧ _; refine an_ ?_ (by first | exact Nat.le_of_eq algZ_len.symm | exact sd_)) | (show ∃ _, _ ∧ _; refine ex_ ?_ (by first | with_reducible exact rfl | with_reducible exact hxc | with_reducible exact hxo | exact hC' | exact rd_)) | (show ∃ _ _, _ ∧ _; refine ex2_ ?_ (by first | with_reducible exact rfl | with_reducible exact hxc | with_reducible exact hxo | exact hC' | exact rd_)) | (show Ar.int _ _ _ _ _; refine ar_ ?_) | (show wrapK _ _ _; refine wk_ ?_) | exact fin_ | fail)
  conv => whnf
  refine vc_loop (α := Nat) 0 (fun k => x.c.n.toNat - k) (fun k => k ≤ x.c.n.toNat) [] (fun k => [(7, .d (rowsD x.c.n.toNat (arr x.c.n.toNat (sCop x.c)))), (8, .ptr 9 6 0 0), (9, .d (.int .i64 k))]) (fun k => [(9, .data 6 [vecL (uzT x.c.p (sCop x.c) (uzF x w) x.c.n.toNat k)])]) lp_ ?_ ?_
  · (repeat' (conv => whnf) <;> first | exact True.intro | (with_reducible show (_ → _) ∧ (_ → _); refine if_ ?_ ?_ <;> intro h <;> first | exact h.elim | (exfalso; omega) | skip) | (show _ ∧ _; refine an_ ?_ (by first | exact zeros6 (fun i _ => rfl) | exact sd_)) | (show ∃ _, _ ∧ _; refine ex_ ?_) | (show ∃ _ _, _ ∧ _; refine ex2_ ?_) | (show Ar.int _ _ _ _ _; refine ar_ ?_) | (show wrapK _ _ _; refine wk_ ?_) | exact fin_ | fail)
  · intro k hk
    have hT' : Can P N.spec_l01Times [algD x.o, vecD w, vecD (x.z k)] (.val (vecD (timesV x.o w (x.z k)))) := hT ho.b hw (hz k) (by omega) (by omega)
    have hF' : Can P N.spec_l01Form [algD x.o, vecD (timesV x.o w (x.z k))] (.val (.int .i64 (uzF x w k))) := hF ho.b ((times_rw (by omega) _ _).byt (by omega)) (by omega)
    by_cases hlt : k < x.c.n.toNat
    · (repeat' (conv => whnf) <;> first | exact True.intro | (with_reducible show (_ → _) ∧ (_ → _); refine if_ ?_ ?_ <;> intro h <;> first | exact h.elim | (exfalso; omega) | skip) | (show _ ∧ _; refine an_ ?_) | (show ∃ _, _ ∧ _; refine ex_ ?_ (by first | with_reducible exact rfl | with_reducible exact hao | with_reducible exact hT' | with_reducible exact hF' | with_reducible exact hx.zv (by omega) | exact rd_)) | (show ∃ _ _, _ ∧ _; refine ex2_ ?_ (by first | with_reducible exact rfl | with_reducible exact hao | with_reducible exact hT' | with_reducible exact hF' | with_reducible exact hx.zv (by omega) | exact rd_)) | (show Ar.int _ _ _ _ _; refine ar_ ?_) | (show wrapK _ _ _; refine wk_ ?_) | exact fin_ | fail)
      conv => whnf
      refine vc_loop (α := Nat) 0 (fun j => x.c.n.toNat - j) (fun j => j ≤ x.c.n.toNat) [] (fun j => [(7, .d (rowsD x.c.n.toNat (arr x.c.n.toNat (sCop x.c)))), (8, .ptr 9 6 0 0), (9, .d (.int .i64 k)), (10, .d (.int .i64 (uzF x w k))), (11, .d (.int .i64 j))]) (fun j => [(9, .data 6 [vecL (uzS x.c.p (sCop x.c) (uzF x w) (uzT x.c.p (sCop x.c) (uzF x w) x.c.n.toNat k) k j)])]) lp_ ?_ ?_
      · (repeat' (conv => whnf) <;> first | exact True.intro | (with_reducible show (_ → _) ∧ (_ → _); refine if_ ?_ ?_ <;> intro h <;> first | exact h.elim | (exfalso; omega) | skip) | (show _ ∧ _; refine an_ ?_) | (show ∃ _, _ ∧ _; refine ex_ ?_) | (show ∃ _ _, _ ∧ _; refine ex2_ ?_) | (show Ar.int _ _ _ _ _; refine ar_ ?_) | (show wrapK _ _ _; refine wk_ ?_) | exact fin_ | fail)
      · intro j hj
        have h1 := hrw k j
        have h2 := (uzS_rw (p := x.c.p) (B := sCop x.c) (c := uzF x w) (k := k) (by omega) (uzT_rw (p := x.c.p) (B := sCop x.c) (c := uzF x w) (n := x.c.n.toNat) (by omega) k) j).byt (by omega)
        have h3 := uzF_bd (x := x) (w := w) ho k
        have h4 := mul_bd (A := 12) (B := 12) (show 0 ≤ uzF x w k ∧ uzF x w k ≤ 12 by omega) (show 0 ≤ sCop x.c k j ∧ sCop x.c k j ≤ 12 by omega)
        by_cases hlt2 : j < x.c.n.toNat
        · (repeat' (conv => whnf) <;> first | exact True.intro | (with_reducible show (_ → _) ∧ (_ → _); refine if_ ?_ ?_ <;> intro h <;> first | exact h.elim | (exfalso; omega) | skip) | (show _ ∧ _; refine an_ ?_) | (show ∃ _, _ ∧ _; refine ex_ ?_ (by first | with_reducible exact rfl | with_reducible exact hg k hlt | exact hB (by omega) | exact hA h2 (basV_byt j) (by omega) (by omega) | exact rd_)) | (show ∃ _ _, _ ∧ _; refine ex2_ ?_ (by first | with_reducible exact rfl | with_reducible exact hg k hlt | exact hB (by omega) | exact hA h2 (basV_byt j) (by omega) (by omega) | exact rd_)) | (show Ar.int _ _ _ _ _; refine ar_ ?_) | (show wrapK _ _ _; refine wk_ ?_) | exact fin_ | fail)
          conv => whnf
          refine ⟨j + 1, by omega, by omega, ?_⟩
          (repeat' (conv => whnf) <;> first | exact True.intro | (with_reducible show (_ → _) ∧ (_ → _); refine if_ ?_ ?_ <;> intro h <;> first | exact h.elim | (exfalso; omega) | skip) | (show _ ∧ _; refine an_ ?_ (by first | exact st_all | exact sd_)) | (show ∃ _, _ ∧ _; refine ex_ ?_) | (show ∃ _ _, _ ∧ _; refine ex2_ ?_) | (show Ar.int _ _ _ _ _; refine ar_ ?_) | (show wrapK _ _ _; refine wk_ ?_) | exact fin_ | fail)
        · have : j = x.c.n.toNat := by omega
          rw [this]
          (repeat' (conv => whnf) <;> first | exact True.intro | (with_reducible show (_ → _) ∧ (_ → _); refine if_ ?_ ?_ <;> intro h <;> first | exact h.elim | (exfalso; omega) | skip) | (show _ ∧ _; refine an_ ?_) | (show ∃ _, _ ∧ _; refine ex_ ?_) | (show ∃ _ _, _ ∧ _; refine ex2_ ?_) | (show Ar.int _ _ _ _ _; refine ar_ ?_) | (show wrapK _ _ _; refine wk_ ?_) | exact fin_ | fail)
          conv => whnf
          refine ⟨k + 1, by omega, by omega, ?_⟩
          (repeat' (conv => whnf) <;> first | exact True.intro | (with_reducible show (_ → _) ∧ (_ → _); refine if_ ?_ ?_ <;> intro h <;> first | exact h.elim | (exfalso; omega) | skip) | (show _ ∧ _; refine an_ ?_) | (show ∃ _, _ ∧ _; refine ex_ ?_) | (show ∃ _ _, _ ∧ _; refine ex2_ ?_) | (show Ar.int _ _ _ _ _; refine ar_ ?_) | (show wrapK _ _ _; refine wk_ ?_) | exact fin_ | fail)
    · have : k = x.c.n.toNat := by omega
      rw [this]
      (repeat' (conv => whnf) <;> first | exact True.intro | (with_reducible show (_ → _) ∧ (_ → _); refine if_ ?_ ?_ <;> intro h <;> first | exact h.elim | (exfalso; omega) | skip) | (show _ ∧ _; refine an_ ?_) | (show ∃ _, _ ∧ _; refine ex_ ?_) | (show ∃ _ _, _ ∧ _; refine ex2_ ?_) | (show Ar.int _ _ _ _ _; refine ar_ ?_) | (show wrapK _ _ _; refine wk_ ?_) | exact fin_ | fail)
theorem c_sUnzipVector (hO : C_sOpen P N) (hS : C_sUnzip P N) (hf : isFn P N.spec_UnzipVector (ir_spec_UnzipVector N) = true) : C_sUnzipVector P N := by
  intro x w hi hcol hw
  have hx := pairAt_one x
  have hO' := hO hi hw
  by_cases g : sIsP x ∧ Small w x.o.n x.o.p
  · rw [dB_t g, if_pos rfl] at hO' ⊢
    have ho := hi.o.ok g.1.1.2.1.1
    have hc := hi.c.ok g.1.1.1.1
    refine can_of hf rfl rfl ?_
    (repeat' (conv => whnf) <;> first | exact True.intro | (with_reducible show (_ → _) ∧ (_ → _); refine if_ ?_ ?_ <;> intro h <;> first | exact h.elim | (exfalso; omega) | skip) | (show _ ∧ _; refine an_ ?_) | (show ∃ _, _ ∧ _; refine ex_ ?_ (by first | with_reducible exact rfl | exact hx.all | exact hO' | exact hS hc ho (hcol g.1) hi.z hw | exact rd_)) | (show ∃ _ _, _ ∧ _; refine ex2_ ?_ (by first | with_reducible exact rfl | exact hx.all | exact hO' | exact hS hc ho (hcol g.1) hi.z hw | exact rd_)) | (show Ar.int _ _ _ _ _; refine ar_ ?_) | (show wrapK _ _ _; refine wk_ ?_) | exact fin_ | fail)
  · rw [dB_f g, if_neg (by simp)] at hO' ⊢
    refine can_of hf rfl rfl ?_
    (repeat' (conv => whnf) <;> first | exact True.intro | (with_reducible show (_ → _) ∧ (_ → _); refine if_ ?_ ?_ <;> intro h <;> first | exact h.elim | (exfalso; omega) | skip) | (show _ ∧ _; refine an_ ?_) | (show ∃ _, _ ∧ _; refine ex_ ?_ (by first | with_reducible exact rfl | exact hx.all | exact hO' | exact rfl | exact rd_)) | (show ∃ _ _, _ ∧ _; refine ex2_ ?_ (by first | with_reducible exact rfl | exact hx.all | exact hO' | exact rfl | exact rd_)) | (show Ar.int _ _ _ _ _; refine ar_ ?_) | (show wrapK _ _ _; refine wk_ ?_) | exact fin_ | fail)
end Go.X
