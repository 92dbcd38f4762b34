import Derived.Test.YtehopmcogekcoaaKNc
set_option linter.all false
namespace Go.X
open Go Go.RowKit
set_option maxRecDepth 100000
set_option maxHeartbeats 8000000
variable {P : Program} {N : FN}
theorem c_unzip (hC : C_copairing P N) (hA : C_add P N) (hB : C_basis P N) (hT : C_times P N) (hF : C_form P N) (hf : isFn P N.impl_Pair_unzip (ir_impl_Pair_unzip N) = true) : C_unzip P N := by
  intro sz l e off x w hx hc ho hz hw
  have hn := hc.n
  have hp2 := prime_bd hc.p
  have hq2 := prime_bd ho.p
  have hno := ho.n
  have hC' := hC (sz := sz) hx.c hc
  have hlen := iCop_len hc
  have hrw := iCop_rw hc
  have hac := hx.c
  have hao := hx.o
  refine can_of hf rfl rfl ?_
  unfold iUnzip
  generalize iCop x.c = B at *
  (repeat' (conv => whnf) <;> first | exact True.intro | (with_reducible show (_ → _) ∧ (_ → _); refine if_ ?_ ?_ <;> intro h <;> first | exact h.elim | (exfalso; omega) | skip) | (show _ ∧ _; refine an_ ?_) | (show ∃ _, _ ∧ _; refine ex_ ?_ (by first | with_reducible exact rfl | exact hC' | exact rd_)) | (show ∃ _ _, _ ∧ _; refine ex2_ ?_ (by first | with_reducible exact rfl | exact hC' | exact rd_)) | (show Ar.int _ _ _ _ _; refine ar_ ?_) | (show wrapK _ _ _; refine wk_ ?_) | exact fin_ | fail)
  conv => whnf
  refine vc_loop (α := Nat) 0 (fun k => B.length - k) (fun k => k ≤ B.length) [] (fun k => [(5, .ptr 6 6 0 0), (14, .d (rowsD x.c.n.toNat B)), (15, .d (.int .i64 B.length)), (16, .d (.int .i64 k))]) (fun k => [(6, .data 6 [vecL (uzR x.c.p (fun k => B.getD k Z) (uzF x w) x.c.n.toNat k)])]) lp_ ?_ ?_
  · (repeat' (conv => whnf) <;> first | exact True.intro | (with_reducible show (_ → _) ∧ (_ → _); refine if_ ?_ ?_ <;> intro h <;> first | exact h.elim | (exfalso; omega) | skip) | (show _ ∧ _; refine an_ ?_ (by first | exact zeros6 (fun i _ => rfl) | exact sd_)) | (show ∃ _, _ ∧ _; refine ex_ ?_) | (show ∃ _ _, _ ∧ _; refine ex2_ ?_) | (show Ar.int _ _ _ _ _; refine ar_ ?_) | (show wrapK _ _ _; refine wk_ ?_) | exact fin_ | fail)
  · intro k hk
    by_cases hlt : k < B.length
    · (repeat' (conv => whnf) <;> first | exact True.intro | (with_reducible show (_ → _) ∧ (_ → _); refine if_ ?_ ?_ <;> intro h <;> first | exact h.elim | (exfalso; omega) | skip) | (show _ ∧ _; refine an_ ?_) | (show ∃ _, _ ∧ _; refine ex_ ?_) | (show ∃ _ _, _ ∧ _; refine ex2_ ?_) | (show Ar.int _ _ _ _ _; refine ar_ ?_) | (show wrapK _ _ _; refine wk_ ?_) | exact fin_ | fail)
      conv => whnf
      refine vc_loop (α := Nat) 0 (fun j => x.c.n.toNat - j) (fun j => j ≤ x.c.n.toNat) [] (fun j => [(5, .ptr 6 6 0 0), (6, .d (.int .i64 k)), (14, .d (rowsD x.c.n.toNat B)), (15, .d (.int .i64 B.length)), (16, .d (.int .i64 k)), (21, .d (rowD x.c.n.toNat (B.getD k Z))), (22, .d (.int .i64 x.c.n.toNat)), (23, .d (.int .i64 j))]) (fun j => [(6, .data 6 [vecL (uzI x.c.p (fun k => B.getD k Z) (uzF x w) (uzR x.c.p (fun k => B.getD k Z) (uzF x w) x.c.n.toNat k) k j)])]) lp_ ?_ ?_
      · (repeat' (conv => whnf) <;> first | exact True.intro | (with_reducible show (_ → _) ∧ (_ → _); refine if_ ?_ ?_ <;> intro h <;> first | exact h.elim | (exfalso; omega) | skip) | (show _ ∧ _; refine an_ ?_) | (show ∃ _, _ ∧ _; refine ex_ ?_) | (show ∃ _ _, _ ∧ _; refine ex2_ ?_) | (show Ar.int _ _ _ _ _; refine ar_ ?_) | (show wrapK _ _ _; refine wk_ ?_) | exact fin_ | fail)
      · intro j hj
        have h1 := hrw k j
        have h2 := (uzI_rw (p := x.c.p) (B := fun k => B.getD k Z) (c := uzF x w) (k := k) (by omega) (uzR_rw (p := x.c.p) (B := fun k => B.getD k Z) (c := uzF x w) (n := x.c.n.toNat) (by omega) k) j).byt (by omega)
        have h3 := uzF_bd (x := x) (w := w) ho j
        have h4 := mul_bd (A := 255) (B := 255) (show 0 ≤ B.getD k Z j ∧ B.getD k Z j ≤ 255 by omega) (show 0 ≤ uzF x w j ∧ uzF x w j ≤ 255 by omega)
        have h5 := mod_bd (B.getD k Z j * uzF x w j) (p := x.c.p) (by omega)
        have hT' : Can P N.impl_Algebra_times [.pd sz l e (off + 224), vecD w, vecD (x.z j)] (.val (vecD (timesV x.o w (x.z j)))) := hT hx.o ho.b hw (hz j) (by omega) (by omega)
        have hF' : Can P N.impl_Algebra_form [.pd sz l e (off + 224), vecD (timesV x.o w (x.z j))] (.val (.int .i64 (uzF x w j))) := hF hx.o ho.b ((times_rw (by omega) _ _).byt (by omega)) (by omega)
        by_cases hlt2 : j < x.c.n.toNat
        · by_cases g : B.getD k Z j = 0
          · have e : uzI x.c.p (fun k => B.getD k Z) (uzF x w) (uzR x.c.p (fun k => B.getD k Z) (uzF x w) x.c.n.toNat k) k (j + 1) = uzI x.c.p (fun k => B.getD k Z) (uzF x w) (uzR x.c.p (fun k => B.getD k Z) (uzF x w) x.c.n.toNat k) k j := by
              show (if B.getD k Z j = 0 then _ else _) = _
              rw [if_pos g]
            (repeat' (conv => whnf) <;> first | exact True.intro | (with_reducible show (_ → _) ∧ (_ → _); refine if_ ?_ ?_ <;> intro h <;> first | exact h.elim | (exfalso; omega) | skip) | (show _ ∧ _; refine an_ ?_) | (show ∃ _, _ ∧ _; refine ex_ ?_) | (show ∃ _ _, _ ∧ _; refine ex2_ ?_) | (show Ar.int _ _ _ _ _; refine ar_ ?_) | (show wrapK _ _ _; refine wk_ ?_) | exact fin_ | fail)
            conv => whnf
            refine ⟨j + 1, by omega, by omega, ?_⟩
            rw [e]
            (repeat' (conv => whnf) <;> first | exact True.intro | (with_reducible show (_ → _) ∧ (_ → _); refine if_ ?_ ?_ <;> intro h <;> first | exact h.elim | (exfalso; omega) | skip) | (show _ ∧ _; refine an_ ?_) | (show ∃ _, _ ∧ _; refine ex_ ?_) | (show ∃ _ _, _ ∧ _; refine ex2_ ?_) | (show Ar.int _ _ _ _ _; refine ar_ ?_) | (show wrapK _ _ _; refine wk_ ?_) | exact fin_ | fail)
          · have e : uzI x.c.p (fun k => B.getD k Z) (uzF x w) (uzR x.c.p (fun k => B.getD k Z) (uzF x w) x.c.n.toNat k) k (j + 1) = addV x.c.p (B.getD k Z j * uzF x w j % x.c.p) (uzI x.c.p (fun k => B.getD k Z) (uzF x w) (uzR x.c.p (fun k => B.getD k Z) (uzF x w) x.c.n.toNat k) k j) (basV k) := by
              show (if B.getD k Z j = 0 then _ else _) = _
              rw [if_neg g]
            (repeat' (conv => whnf) <;> first | exact True.intro | (with_reducible show (_ → _) ∧ (_ → _); refine if_ ?_ ?_ <;> intro h <;> first | exact h.elim | (exfalso; omega) | skip) | (show _ ∧ _; refine an_ ?_) | (show ∃ _, _ ∧ _; refine ex_ ?_ (by first | with_reducible exact rfl | with_reducible exact hT' | with_reducible exact hF' | exact hB (by omega) | with_reducible exact hx.zv (by omega) | exact hA hx.c h2 (basV_byt k) (by omega) (by omega) | exact rd_)) | (show ∃ _ _, _ ∧ _; refine ex2_ ?_ (by first | with_reducible exact rfl | with_reducible exact hT' | with_reducible exact hF' | exact hB (by omega) | with_reducible exact hx.zv (by omega) | exact hA hx.c h2 (basV_byt k) (by omega) (by omega) | exact rd_)) | (show Ar.int _ _ _ _ _; refine ar_ ?_) | (show wrapK _ _ _; refine wk_ ?_) | exact fin_ | fail)
            conv => whnf
            refine ⟨j + 1, by omega, by omega, ?_⟩
            rw [e]
            (repeat' (conv => whnf) <;> first | exact True.intro | (with_reducible show (_ → _) ∧ (_ → _); refine if_ ?_ ?_ <;> intro h <;> first | exact h.elim | (exfalso; omega) | skip) | (show _ ∧ _; refine an_ ?_ (by first | exact st_all | exact sd_)) | (show ∃ _, _ ∧ _; refine ex_ ?_) | (show ∃ _ _, _ ∧ _; refine ex2_ ?_) | (show Ar.int _ _ _ _ _; refine ar_ ?_) | (show wrapK _ _ _; refine wk_ ?_) | exact fin_ | fail)
        · have : j = x.c.n.toNat := by omega
          rw [this]
          (repeat' (conv => whnf) <;> first | exact True.intro | (with_reducible show (_ → _) ∧ (_ → _); refine if_ ?_ ?_ <;> intro h <;> first | exact h.elim | (exfalso; omega) | skip) | (show _ ∧ _; refine an_ ?_) | (show ∃ _, _ ∧ _; refine ex_ ?_) | (show ∃ _ _, _ ∧ _; refine ex2_ ?_) | (show Ar.int _ _ _ _ _; refine ar_ ?_) | (show wrapK _ _ _; refine wk_ ?_) | exact fin_ | fail)
          conv => whnf
          refine ⟨k + 1, by omega, by omega, ?_⟩
          (repeat' (conv => whnf) <;> first | exact True.intro | (with_reducible show (_ → _) ∧ (_ → _); refine if_ ?_ ?_ <;> intro h <;> first | exact h.elim | (exfalso; omega) | skip) | (show _ ∧ _; refine an_ ?_) | (show ∃ _, _ ∧ _; refine ex_ ?_) | (show ∃ _ _, _ ∧ _; refine ex2_ ?_) | (show Ar.int _ _ _ _ _; refine ar_ ?_) | (show wrapK _ _ _; refine wk_ ?_) | exact fin_ | fail)
    · have : k = B.length := by omega
      rw [← this]
      (repeat' (conv => whnf) <;> first | exact True.intro | (with_reducible show (_ → _) ∧ (_ → _); refine if_ ?_ ?_ <;> intro h <;> first | exact h.elim | (exfalso; omega) | skip) | (show _ ∧ _; refine an_ ?_) | (show ∃ _, _ ∧ _; refine ex_ ?_) | (show ∃ _ _, _ ∧ _; refine ex2_ ?_) | (show Ar.int _ _ _ _ _; refine ar_ ?_) | (show wrapK _ _ _; refine wk_ ?_) | exact fin_ | fail)
theorem c_UnzipVector (hO : C_opened P N) (hS : C_unzip P N) (hf : isFn P N.impl_UnzipVector (ir_impl_UnzipVector N) = true) : C_UnzipVector P N := by
  intro x w hi hw
  have hx := pairAt_one x
  have hO' := hO hi hw
  by_cases g : IsPairP x ∧ Small w x.o.n x.o.p
  · rw [dB_t g, if_pos rfl] at hO' ⊢
    have ho := hi.o.alg g.1.1.2.1
    have hc := hi.c.alg g.1.1.1
    refine can_of hf rfl rfl ?_
    (repeat' (conv => whnf) <;> first | exact True.intro | (with_reducible show (_ → _) ∧ (_ → _); refine if_ ?_ ?_ <;> intro h <;> first | exact h.elim | (exfalso; omega) | skip) | (show _ ∧ _; refine an_ ?_) | (show ∃ _, _ ∧ _; refine ex_ ?_ (by first | with_reducible exact rfl | exact hx.all | exact hO' | exact hS hx hc ho hi.z hw | exact rd_)) | (show ∃ _ _, _ ∧ _; refine ex2_ ?_ (by first | with_reducible exact rfl | exact hx.all | exact hO' | exact hS hx hc ho hi.z hw | exact rd_)) | (show Ar.int _ _ _ _ _; refine ar_ ?_) | (show wrapK _ _ _; refine wk_ ?_) | exact fin_ | fail)
  · rw [dB_f g, if_neg (by simp)] at hO' ⊢
    refine can_of hf rfl rfl ?_
    (repeat' (conv => whnf) <;> first | exact True.intro | (with_reducible show (_ → _) ∧ (_ → _); refine if_ ?_ ?_ <;> intro h <;> first | exact h.elim | (exfalso; omega) | skip) | (show _ ∧ _; refine an_ ?_) | (show ∃ _, _ ∧ _; refine ex_ ?_ (by first | with_reducible exact rfl | exact hx.all | exact hO' | exact rfl | exact rd_)) | (show ∃ _ _, _ ∧ _; refine ex2_ ?_ (by first | with_reducible exact rfl | exact hx.all | exact hO' | exact rfl | exact rd_)) | (show Ar.int _ _ _ _ _; refine ar_ ?_) | (show wrapK _ _ _; refine wk_ ?_) | exact fin_ | fail)
end Go.X
