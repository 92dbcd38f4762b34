import Derived.Test.YtehopmcogekcoaaK3
set_option linter.all false
namespace Go.X
open Go Go.RowKit
set_option maxRecDepth 100000
set_option maxHeartbeats 8000000
variable {P : Program} {N : FN}
theorem c_sUnzip (hC : C_sCop P N) (hA : C_sAdd P N) (hB : C_sBasis P N) (hT : C_sTimes P N) (hF : C_sForm P N) (hf : isFn P N.spec_l10Unzip (ir_spec_l10Unzip N) = true) : C_sUnzip P N := by
  intro x w hc ho hs hz hw
  have hn := hc.n
  have hp2 := prime_bd hc.p
  have hq2 := prime_bd ho.p
  have hno := ho.n
  have hC' := hC hc hs
  have hrw := sCop_rw hc
  have hx := pairAt_one x
  have hxc := hx.c.all
  have hxo := hx.o.all
  have hl : (arr x.c.n.toNat (sCop x.c)).length = x.c.n.toNat := arr_len ..
  have hg : ∀ k, k < x.c.n.toNat → get2 (rowsL x.c.n.toNat (arr x.c.n.toNat (sCop x.c))) ((k : Nat) : Int).toNat 0 = some (rowD x.c.n.toNat (sCop x.c k)) := fun k hk => by
    rw [rd_rows (by omega), List.getD_eq_getElem?_getD, arr_get hk]; rfl
  have hac := algAt_st (a := x.c)
  have hao := (algAt_st (a := x.o)).all
  unfold sUnzip
  refine can_of hf rfl rfl ?_
  (repeat' (conv => whnf) <;> first | exact True.intro | (refine if_ ?_ ?_ <;> intro h <;> first | exact h.elim | (exfalso; omega) | skip) | refine vs_ ?_ (by first | exact Nat.le_of_eq algZ_len.symm | exact sd_) | refine dv_ ?_ | exact fin_ | (show ∃ _, _ ∧ _; refine ex_ ?_ (by first | with_reducible exact rfl | with_reducible exact hxc | with_reducible exact hxo | exact hC' | exact rd_)) | refine ex2_ ?_ (by first | with_reducible exact rfl | with_reducible exact hxc | with_reducible exact hxo | exact hC' | exact rd_) | fail)
  conv => whnf
  refine vc_loop (α := Nat) 0 (fun k => x.c.n.toNat - k) (fun k => k ≤ x.c.n.toNat) [] (fun k => [(7, .d (rowsD x.c.n.toNat (arr x.c.n.toNat (sCop x.c)))), (8, .ptr 9 6 0 0), (9, .d (.int .i64 k))]) (fun k => [(9, .data 6 [vecL (uzT x.c.p (sCop x.c) (uzF x w) x.c.n.toNat k)])]) lp_ ?_ ?_
  · (repeat' (conv => whnf) <;> first | exact True.intro | (refine if_ ?_ ?_ <;> intro h <;> first | exact h.elim | (exfalso; omega) | skip) | refine vs_ ?_ (by first | exact zeros6 (fun i _ => rfl) | exact sd_) | refine dv_ ?_ | exact fin_ | (show ∃ _, _ ∧ _; refine ex_ ?_) | refine ex2_ ?_ | fail)
  · intro k hk
    have hT' : Can P N.spec_l01Times [algD x.o, vecD w, vecD (x.z k)] (.val (vecD (timesV x.o w (x.z k)))) := hT ho.b hw (hz k) (by omega) (by omega)
    have hF' : Can P N.spec_l01Form [algD x.o, vecD (timesV x.o w (x.z k))] (.val (.int .i64 (uzF x w k))) := hF ho.b ((times_rw (by omega) _ _).byt (by omega)) (by omega)
    by_cases hlt : k < x.c.n.toNat
    · (repeat' (conv => whnf) <;> first | exact True.intro | (refine if_ ?_ ?_ <;> intro h <;> first | exact h.elim | (exfalso; omega) | skip) | refine vs_ ?_ | refine dv_ ?_ | exact fin_ | (show ∃ _, _ ∧ _; refine ex_ ?_ (by first | with_reducible exact rfl | with_reducible exact hao | with_reducible exact hT' | with_reducible exact hF' | with_reducible exact hx.zv (by omega) | exact rd_)) | refine ex2_ ?_ (by first | with_reducible exact rfl | with_reducible exact hao | with_reducible exact hT' | with_reducible exact hF' | with_reducible exact hx.zv (by omega) | exact rd_) | fail)
      conv => whnf
      refine vc_loop (α := Nat) 0 (fun j => x.c.n.toNat - j) (fun j => j ≤ x.c.n.toNat) [] (fun j => [(7, .d (rowsD x.c.n.toNat (arr x.c.n.toNat (sCop x.c)))), (8, .ptr 9 6 0 0), (9, .d (.int .i64 k)), (10, .d (.int .i64 (uzF x w k))), (11, .d (.int .i64 j))]) (fun j => [(9, .data 6 [vecL (uzS x.c.p (sCop x.c) (uzF x w) (uzT x.c.p (sCop x.c) (uzF x w) x.c.n.toNat k) k j)])]) lp_ ?_ ?_
      · (repeat' (conv => whnf) <;> first | exact True.intro | (refine if_ ?_ ?_ <;> intro h <;> first | exact h.elim | (exfalso; omega) | skip) | refine vs_ ?_ | refine dv_ ?_ | exact fin_ | (show ∃ _, _ ∧ _; refine ex_ ?_) | refine ex2_ ?_ | fail)
      · intro j hj
        have h1 := hrw k j
        have h2 := (uzS_rw (p := x.c.p) (B := sCop x.c) (c := uzF x w) (k := k) (by omega) (uzT_rw (p := x.c.p) (B := sCop x.c) (c := uzF x w) (n := x.c.n.toNat) (by omega) k) j).byt (by omega)
        have h3 := uzF_bd (x := x) (w := w) ho k
        have h4 := mul_bd (A := 12) (B := 12) (show 0 ≤ uzF x w k ∧ uzF x w k ≤ 12 by omega) (show 0 ≤ sCop x.c k j ∧ sCop x.c k j ≤ 12 by omega)
        by_cases hlt2 : j < x.c.n.toNat
        · (repeat' (conv => whnf) <;> first | exact True.intro | (refine if_ ?_ ?_ <;> intro h <;> first | exact h.elim | (exfalso; omega) | skip) | refine vs_ ?_ | refine dv_ ?_ | exact fin_ | (show ∃ _, _ ∧ _; refine ex_ ?_ (by first | with_reducible exact rfl | with_reducible exact hg k hlt | exact hB (by omega) | exact hA h2 (basV_byt j) (by omega) (by omega) | exact rd_)) | refine ex2_ ?_ (by first | with_reducible exact rfl | with_reducible exact hg k hlt | exact hB (by omega) | exact hA h2 (basV_byt j) (by omega) (by omega) | exact rd_) | fail)
          conv => whnf
          refine ⟨j + 1, by omega, by omega, ?_⟩
          (repeat' (conv => whnf) <;> first | exact True.intro | (refine if_ ?_ ?_ <;> intro h <;> first | exact h.elim | (exfalso; omega) | skip) | refine vs_ ?_ (by first | exact st_all | exact sd_) | refine dv_ ?_ | exact fin_ | (show ∃ _, _ ∧ _; refine ex_ ?_) | refine ex2_ ?_ | fail)
        · have : j = x.c.n.toNat := by omega
          rw [this]
          (repeat' (conv => whnf) <;> first | exact True.intro | (refine if_ ?_ ?_ <;> intro h <;> first | exact h.elim | (exfalso; omega) | skip) | refine vs_ ?_ | refine dv_ ?_ | exact fin_ | (show ∃ _, _ ∧ _; refine ex_ ?_) | refine ex2_ ?_ | fail)
          conv => whnf
          refine ⟨k + 1, by omega, by omega, ?_⟩
          (repeat' (conv => whnf) <;> first | exact True.intro | (refine if_ ?_ ?_ <;> intro h <;> first | exact h.elim | (exfalso; omega) | skip) | refine vs_ ?_ | refine dv_ ?_ | exact fin_ | (show ∃ _, _ ∧ _; refine ex_ ?_) | refine ex2_ ?_ | fail)
    · have : k = x.c.n.toNat := by omega
      rw [this]
      (repeat' (conv => whnf) <;> first | exact True.intro | (refine if_ ?_ ?_ <;> intro h <;> first | exact h.elim | (exfalso; omega) | skip) | refine vs_ ?_ | refine dv_ ?_ | exact fin_ | (show ∃ _, _ ∧ _; refine ex_ ?_) | refine ex2_ ?_ | fail)
theorem c_sUnzipVector (hO : C_sOpen P N) (hS : C_sUnzip P N) (hf : isFn P N.spec_UnzipVector (ir_spec_UnzipVector N) = true) : C_sUnzipVector P N := by
  intro x w hi hcol hw
  have hx := pairAt_one x
  have hO' := hO hi hw
  by_cases g : sIsP x ∧ Small w x.o.n x.o.p
  · rw [dB_t g, if_pos rfl] at hO' ⊢
    have ho := hi.o.ok g.1.1.2.1.1
    have hc := hi.c.ok g.1.1.1.1
    refine can_of hf rfl rfl ?_
    (repeat' (conv => whnf) <;> first | exact True.intro | (refine if_ ?_ ?_ <;> intro h <;> first | exact h.elim | (exfalso; omega) | skip) | refine vs_ ?_ | refine dv_ ?_ | exact fin_ | (show ∃ _, _ ∧ _; refine ex_ ?_ (by first | with_reducible exact rfl | exact hx.all | exact hO' | exact hS hc ho (hcol g.1) hi.z hw | exact rd_)) | refine ex2_ ?_ (by first | with_reducible exact rfl | exact hx.all | exact hO' | exact hS hc ho (hcol g.1) hi.z hw | exact rd_) | fail)
  · rw [dB_f g, if_neg (by simp)] at hO' ⊢
    refine can_of hf rfl rfl ?_
    (repeat' (conv => whnf) <;> first | exact True.intro | (refine if_ ?_ ?_ <;> intro h <;> first | exact h.elim | (exfalso; omega) | skip) | refine vs_ ?_ | refine dv_ ?_ | exact fin_ | (show ∃ _, _ ∧ _; refine ex_ ?_ (by first | with_reducible exact rfl | exact hx.all | exact hO' | exact rfl | exact rd_)) | refine ex2_ ?_ (by first | with_reducible exact rfl | exact hx.all | exact hO' | exact rfl | exact rd_) | fail)
end Go.X
namespace Go.X
open Go Go.RowKit
set_option maxRecDepth 100000
set_option maxHeartbeats 8000000
variable {P : Program} {N : FN}
theorem c_openedE (hP : C_IsPair P N) (hC : C_ContainsVec P N) (hf : isFn P N.impl_opened (ir_impl_opened N) = true) : C_openedE P N := by
  intro x hi
  have hx := pairAt_one x
  have hP' := hP hi
  refine can_of hf rfl rfl ?_
  by_cases g : IsPairP x
  · have g' := can_t hP' g
    have hC' : Can P N.slices_ContainsFunc_Limpl_Vector_impl_Vector [.lst 6 [], .fn N.impl_opened_1 [] [.pd (pairL x).length [pairL x] 0 0]] (.val (.bool false)) :=
      hC (m := 0) (f := fun _ => Z) (g := N.impl_opened_1) (c := .pd (pairL x).length [pairL x] 0 0) (q := fun _ => false) (by omega) (fun _ h => absurd h (by omega))
    have hC2 := can_emp0 hC' rfl
    rw [dB_t g, if_pos rfl]
    (repeat' (conv => whnf) <;> first | exact True.intro | (refine if_ ?_ ?_ <;> intro h <;> first | exact h.elim | (exfalso; omega) | skip) | refine vs_ ?_ | refine dv_ ?_ | exact fin_ | (show ∃ _, _ ∧ _; refine ex_ ?_ (by first | with_reducible exact rfl | exact hx.all | exact g' | exact hC2 | exact rd_)) | refine ex2_ ?_ (by first | with_reducible exact rfl | exact hx.all | exact g' | exact hC2 | exact rd_) | fail)
  · have g' := can_f hP' g
    rw [dB_f g, if_neg (by simp)]
    (repeat' (conv => whnf) <;> first | exact True.intro | (refine if_ ?_ ?_ <;> intro h <;> first | exact h.elim | (exfalso; omega) | skip) | refine vs_ ?_ | refine dv_ ?_ | exact fin_ | (show ∃ _, _ ∧ _; refine ex_ ?_ (by first | with_reducible exact rfl | exact hx.all | exact g' | exact rd_)) | refine ex2_ ?_ (by first | with_reducible exact rfl | exact hx.all | exact g' | exact rd_) | fail)
theorem c_IsCardyPair (hO : C_openedE P N) (hN : C_n P N) (hB : C_basis P N) (hU : C_unzip P N) (hZ : C_zip P N) (hS : C_sandwich P N) (hf : isFn P N.impl_IsCardyPair (ir_impl_IsCardyPair N) = true) : C_IsCardyPair P N := by
  intro x hi
  have hx := pairAt_one x
  have hO' := hO hi
  have hxo := hx.o
  have hxa := hx.all
  refine can_of hf rfl rfl ?_
  by_cases g : IsPairP x
  · rw [dB_t g, if_pos rfl] at hO' ⊢
    have ho := hi.o.alg g.1.2.1
    have hc := hi.c.alg g.1.1
    have hn := ho.n
    have hp2 := prime_bd ho.p
    have hq2 := prime_bd hc.p
    (repeat' (conv => whnf) <;> first | exact True.intro | (refine if_ ?_ ?_ <;> intro h <;> first | exact h.elim | (exfalso; omega) | skip) | refine vs_ ?_ | refine dv_ ?_ | exact fin_ | (show ∃ _, _ ∧ _; refine ex_ ?_ (by first | with_reducible exact rfl | with_reducible exact hxa | exact hO' | exact hN hxo | exact rd_)) | refine ex2_ ?_ (by first | with_reducible exact rfl | with_reducible exact hxa | exact hO' | exact hN hxo | exact rd_) | fail)
    conv => whnf
    refine vc_loop (α := Nat) 0 (fun i => x.o.n.toNat - i) (fun i => i ≤ x.o.n.toNat ∧ ∀ q, q < i → VEq (zipN x.o.p x.z (iUnzip x (basV q)) 6) (iSand x (basV q))) [] (fun i => [(12, .d (.int .i64 x.o.n)), (13, .d (.int .i64 i))]) (fun i => []) lp_ ?_ ?_
    · (repeat' (conv => whnf) <;> first | exact True.intro | (refine if_ ?_ ?_ <;> intro h <;> first | exact h.elim | (exfalso; omega) | skip) | refine vs_ ?_ | refine dv_ ?_ | exact fin_ | (show ∃ _, _ ∧ _; refine ex_ ?_) | refine ex2_ ?_ | fail)
    · rintro i ⟨hi6, hall⟩
      by_cases hlt : i < x.o.n.toNat
      · have hU' := hU (sz := (pairL x).length) hx hc ho hi.z (basV_byt i)
        have rU : Rw x.c.p (iUnzip x (basV i)) := uzR_rw (by omega) _
        have hZ' := hZ (sz := (pairL x).length) hx (by omega) hi.z (rU.byt (by omega))
        have hS' : Can P N.impl_Pair_sandwich [.pd (pairL x).length [pairL x] 0 0, vecD (basV i)] (.val (vecD (iSand x (basV i)))) := hS hx ho (basV_byt i)
        by_cases s : VEq (zipN x.o.p x.z (iUnzip x (basV i)) 6) (iSand x (basV i))
        · (repeat' (conv => whnf) <;> first | exact True.intro | (refine if_ ?_ ?_ <;> intro h <;> first | exact h.elim | (exfalso; omega) | skip) | refine vs_ ?_ (by first | exact ⟨conf_vec _, conf_vec _⟩ | exact sd_) | refine dv_ ?_ | exact fin_ | (show ∃ _, _ ∧ _; refine ex_ ?_ (by first | with_reducible exact rfl | exact hB (by omega) | exact hU' | exact hZ' | exact hS' | exact eq_t s | exact rd_)) | refine ex2_ ?_ (by first | with_reducible exact rfl | exact hB (by omega) | exact hU' | exact hZ' | exact hS' | exact eq_t s | exact rd_) | fail)
          conv => whnf
          refine ⟨i + 1, ⟨by omega, all_succ hall s⟩, by omega, ?_⟩
          (repeat' (conv => whnf) <;> first | exact True.intro | (refine if_ ?_ ?_ <;> intro h <;> first | exact h.elim | (exfalso; omega) | skip) | refine vs_ ?_ | refine dv_ ?_ | exact fin_ | (show ∃ _, _ ∧ _; refine ex_ ?_) | refine ex2_ ?_ | fail)
        · have e : dB (IsPairP x ∧ iCardyP x) = false := dB_f fun h => s (h.2 i hlt)
          rw [e]
          (repeat' (conv => whnf) <;> first | exact True.intro | (refine if_ ?_ ?_ <;> intro h <;> first | exact h.elim | (exfalso; omega) | skip) | refine vs_ ?_ (by first | exact ⟨conf_vec _, conf_vec _⟩ | exact sd_) | refine dv_ ?_ | exact fin_ | (show ∃ _, _ ∧ _; refine ex_ ?_ (by first | with_reducible exact rfl | exact hB (by omega) | exact hU' | exact hZ' | exact hS' | exact eq_f s | exact rd_)) | refine ex2_ ?_ (by first | with_reducible exact rfl | exact hB (by omega) | exact hU' | exact hZ' | exact hS' | exact eq_f s | exact rd_) | fail)
      · have e : dB (IsPairP x ∧ iCardyP x) = true := dB_t ⟨g, fun q hq => hall q (by omega)⟩
        rw [e]
        (repeat' (conv => whnf) <;> first | exact True.intro | (refine if_ ?_ ?_ <;> intro h <;> first | exact h.elim | (exfalso; omega) | skip) | refine vs_ ?_ | refine dv_ ?_ | exact fin_ | (show ∃ _, _ ∧ _; refine ex_ ?_) | refine ex2_ ?_ | fail)
  · rw [dB_f (fun h => g h.1), dB_f g, if_neg (by simp)]
    rw [dB_f g, if_neg (by simp)] at hO'
    (repeat' (conv => whnf) <;> first | exact True.intro | (refine if_ ?_ ?_ <;> intro h <;> first | exact h.elim | (exfalso; omega) | skip) | refine vs_ ?_ | refine dv_ ?_ | exact fin_ | (show ∃ _, _ ∧ _; refine ex_ ?_ (by first | with_reducible exact rfl | with_reducible exact hxa | exact hO' | exact rd_)) | refine ex2_ ?_ (by first | with_reducible exact rfl | with_reducible exact hxa | exact hO' | exact rd_) | fail)
end Go.X
namespace Go.X
open Go Go.RowKit
set_option maxRecDepth 100000
set_option maxHeartbeats 8000000
variable {P : Program} {N : FN}
theorem c_unzip (hC : C_copairing P N) (hA : C_add P N) (hB : C_basis P N) (hT : C_times P N) (hF : C_form P N) (hf : isFn P N.impl_Pair_unzip (ir_impl_Pair_unzip N) = true) : C_unzip P N := by
  intro sz l e off x w hx hc ho hz hw
  have hn := hc.n
  have hp2 := prime_bd hc.p
  have hq2 := prime_bd ho.p
  have hno := ho.n
  have hC' := hC (sz := sz) hx.c hc
  have hlen := iCop_len hc
  have hrw := iCop_rw hc
  have hac := hx.c
  have hao := hx.o
  refine can_of hf rfl rfl ?_
  unfold iUnzip
  generalize iCop x.c = B at *
  (repeat' (conv => whnf) <;> first | exact True.intro | (refine if_ ?_ ?_ <;> intro h <;> first | exact h.elim | (exfalso; omega) | skip) | refine vs_ ?_ | refine dv_ ?_ | exact fin_ | (show ∃ _, _ ∧ _; refine ex_ ?_ (by first | with_reducible exact rfl | exact hC' | exact rd_)) | refine ex2_ ?_ (by first | with_reducible exact rfl | exact hC' | exact rd_) | fail)
  conv => whnf
  refine vc_loop (α := Nat) 0 (fun k => B.length - k) (fun k => k ≤ B.length) [] (fun k => [(5, .ptr 6 6 0 0), (14, .d (rowsD x.c.n.toNat B)), (15, .d (.int .i64 B.length)), (16, .d (.int .i64 k))]) (fun k => [(6, .data 6 [vecL (uzR x.c.p (fun k => B.getD k Z) (uzF x w) x.c.n.toNat k)])]) lp_ ?_ ?_
  · (repeat' (conv => whnf) <;> first | exact True.intro | (refine if_ ?_ ?_ <;> intro h <;> first | exact h.elim | (exfalso; omega) | skip) | refine vs_ ?_ (by first | exact zeros6 (fun i _ => rfl) | exact sd_) | refine dv_ ?_ | exact fin_ | (show ∃ _, _ ∧ _; refine ex_ ?_) | refine ex2_ ?_ | fail)
  · intro k hk
    by_cases hlt : k < B.length
    · (repeat' (conv => whnf) <;> first | exact True.intro | (refine if_ ?_ ?_ <;> intro h <;> first | exact h.elim | (exfalso; omega) | skip) | refine vs_ ?_ | refine dv_ ?_ | exact fin_ | (show ∃ _, _ ∧ _; refine ex_ ?_) | refine ex2_ ?_ | fail)
      conv => whnf
      refine vc_loop (α := Nat) 0 (fun j => x.c.n.toNat - j) (fun j => j ≤ x.c.n.toNat) [] (fun j => [(5, .ptr 6 6 0 0), (6, .d (.int .i64 k)), (14, .d (rowsD x.c.n.toNat B)), (15, .d (.int .i64 B.length)), (16, .d (.int .i64 k)), (21, .d (rowD x.c.n.toNat (B.getD k Z))), (22, .d (.int .i64 x.c.n.toNat)), (23, .d (.int .i64 j))]) (fun j => [(6, .data 6 [vecL (uzI x.c.p (fun k => B.getD k Z) (uzF x w) (uzR x.c.p (fun k => B.getD k Z) (uzF x w) x.c.n.toNat k) k j)])]) lp_ ?_ ?_
      · (repeat' (conv => whnf) <;> first | exact True.intro | (refine if_ ?_ ?_ <;> intro h <;> first | exact h.elim | (exfalso; omega) | skip) | refine vs_ ?_ | refine dv_ ?_ | exact fin_ | (show ∃ _, _ ∧ _; refine ex_ ?_) | refine ex2_ ?_ | fail)
      · intro j hj
        have h1 := hrw k j
        have h2 := (uzI_rw (p := x.c.p) (B := fun k => B.getD k Z) (c := uzF x w) (k := k) (by omega) (uzR_rw (p := x.c.p) (B := fun k => B.getD k Z) (c := uzF x w) (n := x.c.n.toNat) (by omega) k) j).byt (by omega)
        have h3 := uzF_bd (x := x) (w := w) ho j
        have h4 := mul_bd (A := 255) (B := 255) (show 0 ≤ B.getD k Z j ∧ B.getD k Z j ≤ 255 by omega) (show 0 ≤ uzF x w j ∧ uzF x w j ≤ 255 by omega)
        have h5 := mod_bd (B.getD k Z j * uzF x w j) (p := x.c.p) (by omega)
        have hT' : Can P N.impl_Algebra_times [.pd sz l e (off + 224), vecD w, vecD (x.z j)] (.val (vecD (timesV x.o w (x.z j)))) := hT hx.o ho.b hw (hz j) (by omega) (by omega)
        have hF' : Can P N.impl_Algebra_form [.pd sz l e (off + 224), vecD (timesV x.o w (x.z j))] (.val (.int .i64 (uzF x w j))) := hF hx.o ho.b ((times_rw (by omega) _ _).byt (by omega)) (by omega)
        by_cases hlt2 : j < x.c.n.toNat
        · by_cases g : B.getD k Z j = 0
          · have e : uzI x.c.p (fun k => B.getD k Z) (uzF x w) (uzR x.c.p (fun k => B.getD k Z) (uzF x w) x.c.n.toNat k) k (j + 1) = uzI x.c.p (fun k => B.getD k Z) (uzF x w) (uzR x.c.p (fun k => B.getD k Z) (uzF x w) x.c.n.toNat k) k j := by
              show (if B.getD k Z j = 0 then _ else _) = _
              rw [if_pos g]
            (repeat' (conv => whnf) <;> first | exact True.intro | (refine if_ ?_ ?_ <;> intro h <;> first | exact h.elim | (exfalso; omega) | skip) | refine vs_ ?_ | refine dv_ ?_ | exact fin_ | (show ∃ _, _ ∧ _; refine ex_ ?_) | refine ex2_ ?_ | fail)
            conv => whnf
            refine ⟨j + 1, by omega, by omega, ?_⟩
            rw [e]
            (repeat' (conv => whnf) <;> first | exact True.intro | (refine if_ ?_ ?_ <;> intro h <;> first | exact h.elim | (exfalso; omega) | skip) | refine vs_ ?_ | refine dv_ ?_ | exact fin_ | (show ∃ _, _ ∧ _; refine ex_ ?_) | refine ex2_ ?_ | fail)
          · have e : uzI x.c.p (fun k => B.getD k Z) (uzF x w) (uzR x.c.p (fun k => B.getD k Z) (uzF x w) x.c.n.toNat k) k (j + 1) = addV x.c.p (B.getD k Z j * uzF x w j % x.c.p) (uzI x.c.p (fun k => B.getD k Z) (uzF x w) (uzR x.c.p (fun k => B.getD k Z) (uzF x w) x.c.n.toNat k) k j) (basV k) := by
              show (if B.getD k Z j = 0 then _ else _) = _
              rw [if_neg g]
            (repeat' (conv => whnf) <;> first | exact True.intro | (refine if_ ?_ ?_ <;> intro h <;> first | exact h.elim | (exfalso; omega) | skip) | refine vs_ ?_ | refine dv_ ?_ | exact fin_ | (show ∃ _, _ ∧ _; refine ex_ ?_ (by first | with_reducible exact rfl | with_reducible exact hT' | with_reducible exact hF' | exact hB (by omega) | with_reducible exact hx.zv (by omega) | exact hA hx.c h2 (basV_byt k) (by omega) (by omega) | exact rd_)) | refine ex2_ ?_ (by first | with_reducible exact rfl | with_reducible exact hT' | with_reducible exact hF' | exact hB (by omega) | with_reducible exact hx.zv (by omega) | exact hA hx.c h2 (basV_byt k) (by omega) (by omega) | exact rd_) | fail)
            conv => whnf
            refine ⟨j + 1, by omega, by omega, ?_⟩
            rw [e]
            (repeat' (conv => whnf) <;> first | exact True.intro | (refine if_ ?_ ?_ <;> intro h <;> first | exact h.elim | (exfalso; omega) | skip) | refine vs_ ?_ (by first | exact st_all | exact sd_) | refine dv_ ?_ | exact fin_ | (show ∃ _, _ ∧ _; refine ex_ ?_) | refine ex2_ ?_ | fail)
        · have : j = x.c.n.toNat := by omega
          rw [this]
          (repeat' (conv => whnf) <;> first | exact True.intro | (refine if_ ?_ ?_ <;> intro h <;> first | exact h.elim | (exfalso; omega) | skip) | refine vs_ ?_ | refine dv_ ?_ | exact fin_ | (show ∃ _, _ ∧ _; refine ex_ ?_) | refine ex2_ ?_ | fail)
          conv => whnf
          refine ⟨k + 1, by omega, by omega, ?_⟩
          (repeat' (conv => whnf) <;> first | exact True.intro | (refine if_ ?_ ?_ <;> intro h <;> first | exact h.elim | (exfalso; omega) | skip) | refine vs_ ?_ | refine dv_ ?_ | exact fin_ | (show ∃ _, _ ∧ _; refine ex_ ?_) | refine ex2_ ?_ | fail)
    · have : k = B.length := by omega
      rw [← this]
      (repeat' (conv => whnf) <;> first | exact True.intro | (refine if_ ?_ ?_ <;> intro h <;> first | exact h.elim | (exfalso; omega) | skip) | refine vs_ ?_ | refine dv_ ?_ | exact fin_ | (show ∃ _, _ ∧ _; refine ex_ ?_) | refine ex2_ ?_ | fail)
theorem c_UnzipVector (hO : C_opened P N) (hS : C_unzip P N) (hf : isFn P N.impl_UnzipVector (ir_impl_UnzipVector N) = true) : C_UnzipVector P N := by
  intro x w hi hw
  have hx := pairAt_one x
  have hO' := hO hi hw
  by_cases g : IsPairP x ∧ Small w x.o.n x.o.p
  · rw [dB_t g, if_pos rfl] at hO' ⊢
    have ho := hi.o.alg g.1.1.2.1
    have hc := hi.c.alg g.1.1.1
    refine can_of hf rfl rfl ?_
    (repeat' (conv => whnf) <;> first | exact True.intro | (refine if_ ?_ ?_ <;> intro h <;> first | exact h.elim | (exfalso; omega) | skip) | refine vs_ ?_ | refine dv_ ?_ | exact fin_ | (show ∃ _, _ ∧ _; refine ex_ ?_ (by first | with_reducible exact rfl | exact hx.all | exact hO' | exact hS hx hc ho hi.z hw | exact rd_)) | refine ex2_ ?_ (by first | with_reducible exact rfl | exact hx.all | exact hO' | exact hS hx hc ho hi.z hw | exact rd_) | fail)
  · rw [dB_f g, if_neg (by simp)] at hO' ⊢
    refine can_of hf rfl rfl ?_
    (repeat' (conv => whnf) <;> first | exact True.intro | (refine if_ ?_ ?_ <;> intro h <;> first | exact h.elim | (exfalso; omega) | skip) | refine vs_ ?_ | refine dv_ ?_ | exact fin_ | (show ∃ _, _ ∧ _; refine ex_ ?_ (by first | with_reducible exact rfl | exact hx.all | exact hO' | exact rfl | exact rd_)) | refine ex2_ ?_ (by first | with_reducible exact rfl | exact hx.all | exact hO' | exact rfl | exact rd_) | fail)
end Go.X
namespace Go.X
open Go Go.RowKit
set_option maxRecDepth 100000
set_option maxHeartbeats 8000000
variable {P : Program} {N : FN}
theorem c_sIsCardyPair (hI : C_sIs P N) (hB : C_sBasis P N) (hU : C_sUnzip P N) (hZ : C_sZip P N) (hS : C_sSandwich P N) (hf : isFn P N.spec_IsCardyPair (ir_spec_IsCardyPair N) = true) : C_sIsCardyPair P N := by
  intro x hi hcol
  have hx := pairAt_one x
  have hI' := hI hi
  have hxo := hx.o
  have hxoa := hx.o.all
  have hxa := hx.all
  refine can_of hf rfl rfl ?_
  by_cases g : sIsP x
  · rw [dB_t g, if_pos rfl]
    rw [dB_t g] at hI'
    have ho := hi.o.ok g.1.2.1.1
    have hc := hi.c.ok g.1.1.1
    have hn := ho.n
    have hp2 := prime_bd ho.p
    have hq2 := prime_bd hc.p
    have hnc := hc.n
    (repeat' (conv => whnf) <;> first | exact True.intro | (refine if_ ?_ ?_ <;> intro h <;> first | exact h.elim | (exfalso; omega) | skip) | refine vs_ ?_ | refine dv_ ?_ | exact fin_ | (show ∃ _, _ ∧ _; refine ex_ ?_ (by first | with_reducible exact rfl | with_reducible exact hxa | exact hI' | exact rd_)) | refine ex2_ ?_ (by first | with_reducible exact rfl | with_reducible exact hxa | exact hI' | exact rd_) | fail)
    conv => whnf
    refine vc_loop (α := Nat) 0 (fun i => x.o.n.toNat - i) (fun i => i ≤ x.o.n.toNat ∧ ∀ q, q < i → VEq (zipN x.o.p x.z (sUnzip x (basV q)) x.c.n.toNat) (sSand x (basV q))) [] (fun i => [(4, .d (.int .i64 i))]) (fun i => []) lp_ ?_ ?_
    · (repeat' (conv => whnf) <;> first | exact True.intro | (refine if_ ?_ ?_ <;> intro h <;> first | exact h.elim | (exfalso; omega) | skip) | refine vs_ ?_ | refine dv_ ?_ | exact fin_ | (show ∃ _, _ ∧ _; refine ex_ ?_) | refine ex2_ ?_ | fail)
    · rintro i ⟨hi6, hall⟩
      by_cases hlt : i < x.o.n.toNat
      · have hU' := hU hc ho (hcol g).1 hi.z (basV_byt i)
        have rU : Rw x.c.p (sUnzip x (basV i)) := uzT_rw (by omega) _
        have hZ' := hZ (x := x) (by omega) (by omega) hi.z (rU.byt (by omega))
        have hS' : Can P N.spec_l10Sandwich [algD x.o, vecD (basV i)] (.val (vecD (sSand x (basV i)))) := hS ho (hcol g).2 (basV_byt i)
        by_cases s : VEq (zipN x.o.p x.z (sUnzip x (basV i)) x.c.n.toNat) (sSand x (basV i))
        · (repeat' (conv => whnf) <;> first | exact True.intro | (refine if_ ?_ ?_ <;> intro h <;> first | exact h.elim | (exfalso; omega) | skip) | refine vs_ ?_ (by first | exact ⟨conf_vec _, conf_vec _⟩ | exact sd_) | refine dv_ ?_ | exact fin_ | (show ∃ _, _ ∧ _; refine ex_ ?_ (by first | with_reducible exact rfl | with_reducible exact hxa | with_reducible exact hxoa | exact hB (by omega) | with_reducible exact rd_st6 | with_reducible exact hU' | with_reducible exact hZ' | with_reducible exact hS' | exact eq_t s | exact rd_)) | refine ex2_ ?_ (by first | with_reducible exact rfl | with_reducible exact hxa | with_reducible exact hxoa | exact hB (by omega) | with_reducible exact rd_st6 | with_reducible exact hU' | with_reducible exact hZ' | with_reducible exact hS' | exact eq_t s | exact rd_) | fail)
          conv => whnf
          refine ⟨i + 1, ⟨by omega, all_succ hall s⟩, by omega, ?_⟩
          (repeat' (conv => whnf) <;> first | exact True.intro | (refine if_ ?_ ?_ <;> intro h <;> first | exact h.elim | (exfalso; omega) | skip) | refine vs_ ?_ | refine dv_ ?_ | exact fin_ | (show ∃ _, _ ∧ _; refine ex_ ?_) | refine ex2_ ?_ | fail)
        · have e : dB (sIsP x ∧ sCardyP x) = false := dB_f fun h => s (h.2 i hlt)
          rw [e]
          (repeat' (conv => whnf) <;> first | exact True.intro | (refine if_ ?_ ?_ <;> intro h <;> first | exact h.elim | (exfalso; omega) | skip) | refine vs_ ?_ (by first | exact ⟨conf_vec _, conf_vec _⟩ | exact sd_) | refine dv_ ?_ | exact fin_ | (show ∃ _, _ ∧ _; refine ex_ ?_ (by first | with_reducible exact rfl | with_reducible exact hxa | with_reducible exact hxoa | exact hB (by omega) | with_reducible exact rd_st6 | with_reducible exact hU' | with_reducible exact hZ' | with_reducible exact hS' | exact eq_f s | exact rd_)) | refine ex2_ ?_ (by first | with_reducible exact rfl | with_reducible exact hxa | with_reducible exact hxoa | exact hB (by omega) | with_reducible exact rd_st6 | with_reducible exact hU' | with_reducible exact hZ' | with_reducible exact hS' | exact eq_f s | exact rd_) | fail)
      · have e : dB (sIsP x ∧ sCardyP x) = true := dB_t ⟨g, fun q hq => hall q (by omega)⟩
        rw [e]
        (repeat' (conv => whnf) <;> first | exact True.intro | (refine if_ ?_ ?_ <;> intro h <;> first | exact h.elim | (exfalso; omega) | skip) | refine vs_ ?_ | refine dv_ ?_ | exact fin_ | (show ∃ _, _ ∧ _; refine ex_ ?_) | refine ex2_ ?_ | fail)
  · rw [dB_f (fun h => g h.1), dB_f g, if_neg (by simp)]
    rw [dB_f g] at hI'
    (repeat' (conv => whnf) <;> first | exact True.intro | (refine if_ ?_ ?_ <;> intro h <;> first | exact h.elim | (exfalso; omega) | skip) | refine vs_ ?_ | refine dv_ ?_ | exact fin_ | (show ∃ _, _ ∧ _; refine ex_ ?_ (by first | with_reducible exact rfl | with_reducible exact hxa | exact hI' | exact rd_)) | refine ex2_ ?_ (by first | with_reducible exact rfl | with_reducible exact hxa | exact hI' | exact rd_) | fail)
end Go.X
