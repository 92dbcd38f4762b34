import Derived.Test.YtehopmcogekcoaaM3
set_option linter.all false
namespace Go.X
open Go Go.RowKit
set_option maxRecDepth 100000
set_option maxHeartbeats 8000000
set_option linter.unusedSimpArgs false
set_option linter.unusedVariables false
variable {P : Program} {N : FN}
theorem c_paired (hC : C_copairing P N) (hA : C_add P N) (hf : isFn P N.impl_Algebra_paired (ir_impl_Algebra_paired N) = true) : C_paired P N := by
  intro sz l e off a g c d of hat ha hb hof
  have hn := ha.n
  have hp2 := prime_bd ha.p
  have hC' := hC (sz := sz) hat ha
  have hlen := iCop_len ha
  have hrw := iCop_rw ha
  refine can_of hf rfl rfl ?_
  generalize iCop a = B at *
  (repeat' (conv => whnf) <;> first | exact True.intro | (with_reducible show (_ → _) ∧ (_ → _); refine if_ ?_ ?_ <;> intro h <;> first | exact h.elim | (exfalso; omega) | skip) | (show _ ∧ _; refine an_ ?_) | (show ∃ _, _ ∧ _; refine ex_ ?_ (by first | with_reducible exact rfl | exact hC' | exact rd_)) | (show ∃ _ _, _ ∧ _; refine ex2_ ?_ (by first | with_reducible exact rfl | exact hC' | exact rd_)) | (show Ar.int _ _ _ _ _; refine ar_ ?_) | (show wrapK _ _ _; refine wk_ ?_) | exact fin_ | fail)
  conv => whnf
  refine vc_loop (α := Nat) 0 (fun k => B.length - k) (fun k => k ≤ B.length) [] (fun k => [(5, .ptr 6 6 0 0), (12, .d (rowsD a.n.toNat B)), (13, .d (.int .i64 B.length)), (14, .d (.int .i64 k))]) (fun k => [(6, .data 6 [vecL (pairR a.p (fun k => B.getD k Z) of a.n.toNat k)])]) lp_ ?_ ?_
  · (repeat' (conv => whnf) <;> first | exact True.intro | (with_reducible show (_ → _) ∧ (_ → _); refine if_ ?_ ?_ <;> intro h <;> first | exact h.elim | (exfalso; omega) | skip) | (show _ ∧ _; refine an_ ?_ (by first | exact zeros6 (fun i _ => rfl) | exact sd_)) | (show ∃ _, _ ∧ _; refine ex_ ?_) | (show ∃ _ _, _ ∧ _; refine ex2_ ?_) | (show Ar.int _ _ _ _ _; refine ar_ ?_) | (show wrapK _ _ _; refine wk_ ?_) | exact fin_ | fail)
  · intro k hk
    by_cases hlt : k < B.length
    · (repeat' (conv => whnf) <;> first | exact True.intro | (with_reducible show (_ → _) ∧ (_ → _); refine if_ ?_ ?_ <;> intro h <;> first | exact h.elim | (exfalso; omega) | skip) | (show _ ∧ _; refine an_ ?_) | (show ∃ _, _ ∧ _; refine ex_ ?_) | (show ∃ _ _, _ ∧ _; refine ex2_ ?_) | (show Ar.int _ _ _ _ _; refine ar_ ?_) | (show wrapK _ _ _; refine wk_ ?_) | exact fin_ | fail)
      conv => whnf
      refine vc_loop (α := Nat) 0 (fun j => a.n.toNat - j) (fun j => j ≤ a.n.toNat) [] (fun j => [(5, .ptr 6 6 0 0), (6, .d (.int .i64 k)), (12, .d (rowsD a.n.toNat B)), (13, .d (.int .i64 B.length)), (14, .d (.int .i64 k)), (19, .d (rowD a.n.toNat (B.getD k Z))), (20, .d (.int .i64 a.n.toNat)), (21, .d (.int .i64 j))]) (fun j => [(6, .data 6 [vecL (pairC a.p (fun k => B.getD k Z) of (pairR a.p (fun k => B.getD k Z) of a.n.toNat k) k j)])]) lp_ ?_ ?_
      · (repeat' (conv => whnf) <;> first | exact True.intro | (with_reducible show (_ → _) ∧ (_ → _); refine if_ ?_ ?_ <;> intro h <;> first | exact h.elim | (exfalso; omega) | skip) | (show _ ∧ _; refine an_ ?_) | (show ∃ _, _ ∧ _; refine ex_ ?_) | (show ∃ _ _, _ ∧ _; refine ex2_ ?_) | (show Ar.int _ _ _ _ _; refine ar_ ?_) | (show wrapK _ _ _; refine wk_ ?_) | exact fin_ | fail)
      · intro j hj
        have h1 := hrw k j
        have h2 := (pairC_rw (p := a.p) (B := fun k => B.getD k Z) (of := of) (k := k) (by omega) (pairR_rw (p := a.p) (B := fun k => B.getD k Z) (of := of) (n := a.n.toNat) (by omega) k) j).byt (by omega)
        by_cases hlt2 : j < a.n.toNat
        · (repeat' (conv => whnf) <;> first | exact True.intro | (with_reducible show (_ → _) ∧ (_ → _); refine if_ ?_ ?_ <;> intro h <;> first | exact h.elim | (exfalso; omega) | skip) | (show _ ∧ _; refine an_ ?_) | (show ∃ _, _ ∧ _; refine ex_ ?_ (by first | with_reducible exact rfl | exact hof k j hlt hlt2 | exact hA hat h2 (hb k j) (by omega) (by omega) | exact rd_)) | (show ∃ _ _, _ ∧ _; refine ex2_ ?_ (by first | with_reducible exact rfl | exact hof k j hlt hlt2 | exact hA hat h2 (hb k j) (by omega) (by omega) | exact rd_)) | (show Ar.int _ _ _ _ _; refine ar_ ?_) | (show wrapK _ _ _; refine wk_ ?_) | exact fin_ | fail)
          conv => whnf
          refine ⟨j + 1, by omega, by omega, ?_⟩
          (repeat' (conv => whnf) <;> first | exact True.intro | (with_reducible show (_ → _) ∧ (_ → _); refine if_ ?_ ?_ <;> intro h <;> first | exact h.elim | (exfalso; omega) | skip) | (show _ ∧ _; refine an_ ?_ (by first | exact st_all | exact sd_)) | (show ∃ _, _ ∧ _; refine ex_ ?_) | (show ∃ _ _, _ ∧ _; refine ex2_ ?_) | (show Ar.int _ _ _ _ _; refine ar_ ?_) | (show wrapK _ _ _; refine wk_ ?_) | exact fin_ | fail)
        · have : j = a.n.toNat := by omega
          rw [this]
          (repeat' (conv => whnf) <;> first | exact True.intro | (with_reducible show (_ → _) ∧ (_ → _); refine if_ ?_ ?_ <;> intro h <;> first | exact h.elim | (exfalso; omega) | skip) | (show _ ∧ _; refine an_ ?_) | (show ∃ _, _ ∧ _; refine ex_ ?_) | (show ∃ _ _, _ ∧ _; refine ex2_ ?_) | (show Ar.int _ _ _ _ _; refine ar_ ?_) | (show wrapK _ _ _; refine wk_ ?_) | exact fin_ | fail)
          conv => whnf
          refine ⟨k + 1, by omega, by omega, ?_⟩
          (repeat' (conv => whnf) <;> first | exact True.intro | (with_reducible show (_ → _) ∧ (_ → _); refine if_ ?_ ?_ <;> intro h <;> first | exact h.elim | (exfalso; omega) | skip) | (show _ ∧ _; refine an_ ?_) | (show ∃ _, _ ∧ _; refine ex_ ?_) | (show ∃ _ _, _ ∧ _; refine ex2_ ?_) | (show Ar.int _ _ _ _ _; refine ar_ ?_) | (show wrapK _ _ _; refine wk_ ?_) | exact fin_ | fail)
    · have : k = B.length := by omega
      rw [← this]
      (repeat' (conv => whnf) <;> first | exact True.intro | (with_reducible show (_ → _) ∧ (_ → _); refine if_ ?_ ?_ <;> intro h <;> first | exact h.elim | (exfalso; omega) | skip) | (show _ ∧ _; refine an_ ?_) | (show ∃ _, _ ∧ _; refine ex_ ?_) | (show ∃ _ _, _ ∧ _; refine ex2_ ?_) | (show Ar.int _ _ _ _ _; refine ar_ ?_) | (show wrapK _ _ _; refine wk_ ?_) | exact fin_ | fail)
theorem c_sandwich1 (hB : C_basis P N) (hT : C_times P N) (hf : isFn P N.impl_Pair_sandwich_1 (ir_impl_Pair_sandwich_1 N) = true) : C_sandwich1 P N := by
  intro sz l e off x w k j hx ho hw hk hj
  have hn := ho.n
  have hp2 := prime_bd ho.p
  have h1 := (times_rw (a := x.o) (by omega) (basV k) w).byt (by omega)
  refine can_of hf rfl rfl ?_
  (repeat' (conv => whnf) <;> first | exact True.intro | (with_reducible show (_ → _) ∧ (_ → _); refine if_ ?_ ?_ <;> intro h <;> first | exact h.elim | (exfalso; omega) | skip) | (show _ ∧ _; refine an_ ?_) | (show ∃ _, _ ∧ _; refine ex_ ?_ (by first | with_reducible exact rfl | exact hB hk | exact hB hj | exact hT hx.o ho.b (basV_byt k) hw (by omega) (by omega) | exact hT hx.o ho.b h1 (basV_byt j) (by omega) (by omega) | exact rd_)) | (show ∃ _ _, _ ∧ _; refine ex2_ ?_ (by first | with_reducible exact rfl | exact hB hk | exact hB hj | exact hT hx.o ho.b (basV_byt k) hw (by omega) (by omega) | exact hT hx.o ho.b h1 (basV_byt j) (by omega) (by omega) | exact rd_)) | (show Ar.int _ _ _ _ _; refine ar_ ?_) | (show wrapK _ _ _; refine wk_ ?_) | exact fin_ | fail)
theorem c_sandwich (hP : C_paired P N) (h1 : C_sandwich1 P N) (hf : isFn P N.impl_Pair_sandwich (ir_impl_Pair_sandwich N) = true) : C_sandwich P N := by
  intro sz l e off x w hx ho hw
  have hn := ho.n
  have hp2 := prime_bd ho.p
  have hlen := iCop_len ho
  have hP' := hP (sz := sz) (g := N.impl_Pair_sandwich_1) (c := .pd 1 [[.pd sz l e off]] 0 0) (d := .pd 6 [vecL w] 0 0) (of := sandV x.o w) hx.o ho (fun k j => (times_rw (by omega) _ _).byt (by omega)) (fun k j hk hj => h1 hx ho hw (by omega) (by omega))
  refine can_of hf rfl rfl ?_
  (repeat' (conv => whnf) <;> first | exact True.intro | (with_reducible show (_ → _) ∧ (_ → _); refine if_ ?_ ?_ <;> intro h <;> first | exact h.elim | (exfalso; omega) | skip) | (show _ ∧ _; refine an_ ?_) | (show ∃ _, _ ∧ _; refine ex_ ?_ (by first | with_reducible exact rfl | exact hP' | exact rd_)) | (show ∃ _ _, _ ∧ _; refine ex2_ ?_ (by first | with_reducible exact rfl | exact hP' | exact rd_)) | (show Ar.int _ _ _ _ _; refine ar_ ?_) | (show wrapK _ _ _; refine wk_ ?_) | exact fin_ | fail)
end Go.X
