import Derived.Test.YtehopmcogekcoaaM3
set_option linter.all false
namespace Go.X
open Go Go.RowKit
set_option maxRecDepth 100000
set_option maxHeartbeats 8000000
set_option linter.unusedSimpArgs false
set_option linter.unusedVariables false
variable {P : Program} {N : FN}
theorem tsum_bd {a : Alg} {v w : Nat → Int} (hb : AlgB a) (hv : Byts v) (hw : Byts w) (hn6 : 0 ≤ a.n ∧ a.n ≤ 6) {k i j : Nat} (hi : i ≤ 6) (hj : j ≤ 6) : 0 ≤ tsum a v w k i + sumN j (fun j => v i * w j * a.T i j k) ∧ tsum a v w k i + sumN j (fun j => v i * w j * a.T i j k) ≤ 700000000 := by
  have hc : ∀ i j, 0 ≤ v i * w j * a.T i j k ∧ v i * w j * a.T i j k ≤ 255 * 255 * 255 := fun i j => mul_bd (mul_bd (hv i) (hw j)) (hb.1 i j k)
  have h1 := sumN_bd (f := fun j => v i * w j * a.T i j k) (hc i) j
  have h2 : ∀ i, 0 ≤ sumN a.n.toNat (fun j => v i * w j * a.T i j k) ∧ sumN a.n.toNat (fun j => v i * w j * a.T i j k) ≤ 100000000 := fun i => by
    have := sumN_bd (f := fun j => v i * w j * a.T i j k) (hc i) a.n.toNat
    omega
  have h3 := sumN_bd h2 i
  unfold tsum
  omega
theorem c_sTimes (hf : isFn P N.spec_l01Times (ir_spec_l01Times N) = true) : C_sTimes P N := by
  intro a v w hb hv hw hp hn6
  refine can_of hf rfl rfl ?_
  (repeat' (conv => whnf) <;> first | exact True.intro | (with_reducible show (_ → _) ∧ (_ → _); refine if_ ?_ ?_ <;> intro h <;> first | exact h.elim | (exfalso; omega) | skip) | (show _ ∧ _; refine an_ ?_) | (show ∃ _, _ ∧ _; refine ex_ ?_) | (show ∃ _ _, _ ∧ _; refine ex2_ ?_) | (show Ar.int _ _ _ _ _; refine ar_ ?_) | (show wrapK _ _ _; refine wk_ ?_) | exact fin_ | fail)
  conv => whnf
  refine vc_loop (α := Nat) 0 (fun k => a.n.toNat - k) (fun k => k ≤ a.n.toNat) [] (fun k => [(3, .ptr 4 224 0 0), (7, .ptr 8 6 0 0), (8, .d (.int .i64 k))]) (fun k => [(4, .data 224 [algL a]), (8, .data 6 [vecL (prog k (timesV a v w) Z)])]) lp_ ?_ ?_
  · (repeat' (conv => whnf) <;> first | exact True.intro | (with_reducible show (_ → _) ∧ (_ → _); refine if_ ?_ ?_ <;> intro h <;> first | exact h.elim | (exfalso; omega) | skip) | (show _ ∧ _; refine an_ ?_ (by first | exact zeros6 (fun i _ => by simp [prog, Z]) | exact congrArg (fun n => Chunk.data n [algL a]) (arr_len ..) | exact congrArg (fun n => AV.ptr 4 n 0 0) (arr_len ..) | exact sd_)) | (show ∃ _, _ ∧ _; refine ex_ ?_) | (show ∃ _ _, _ ∧ _; refine ex2_ ?_) | (show Ar.int _ _ _ _ _; refine ar_ ?_) | (show wrapK _ _ _; refine wk_ ?_) | exact fin_ | fail)
  · intro k hk
    (repeat' (conv => whnf) <;> first | exact True.intro | (with_reducible show (_ → _) ∧ (_ → _); refine if_ ?_ ?_ <;> intro h <;> first | exact h.elim | (exfalso; omega) | skip) | (show _ ∧ _; refine an_ ?_) | (show ∃ _, _ ∧ _; refine ex_ ?_) | (show ∃ _ _, _ ∧ _; refine ex2_ ?_) | (show Ar.int _ _ _ _ _; refine ar_ ?_) | (show wrapK _ _ _; refine wk_ ?_) | exact fin_ | fail)
    · conv => whnf
      refine vc_loop (α := Nat) 0 (fun i => a.n.toNat - i) (fun i => i ≤ a.n.toNat) [] (fun i => [(8, .d (.int .i64 k)), (9, .d (.int .i64 (tsum a v w k i))), (10, .d (.int .i64 i))]) (fun i => []) lp_ ?_ ?_
      · (repeat' (conv => whnf) <;> first | exact True.intro | (with_reducible show (_ → _) ∧ (_ → _); refine if_ ?_ ?_ <;> intro h <;> first | exact h.elim | (exfalso; omega) | skip) | (show _ ∧ _; refine an_ ?_) | (show ∃ _, _ ∧ _; refine ex_ ?_) | (show ∃ _ _, _ ∧ _; refine ex2_ ?_) | (show Ar.int _ _ _ _ _; refine ar_ ?_) | (show wrapK _ _ _; refine wk_ ?_) | exact fin_ | fail)
      · intro i hi
        (repeat' (conv => whnf) <;> first | exact True.intro | (with_reducible show (_ → _) ∧ (_ → _); refine if_ ?_ ?_ <;> intro h <;> first | exact h.elim | (exfalso; omega) | skip) | (show _ ∧ _; refine an_ ?_) | (show ∃ _, _ ∧ _; refine ex_ ?_) | (show ∃ _ _, _ ∧ _; refine ex2_ ?_) | (show Ar.int _ _ _ _ _; refine ar_ ?_) | (show wrapK _ _ _; refine wk_ ?_) | exact fin_ | fail)
        · conv => whnf
          refine vc_loop (α := Nat) 0 (fun j => a.n.toNat - j) (fun j => j ≤ a.n.toNat) [] (fun j => [(8, .d (.int .i64 k)), (9, .d (.int .i64 (tsum a v w k i + sumN j fun j => v i * w j * a.T i j k))), (10, .d (.int .i64 i)), (11, .d (.int .i64 j))]) (fun j => []) lp_ ?_ ?_
          · (repeat' (conv => whnf) <;> first | exact True.intro | (with_reducible show (_ → _) ∧ (_ → _); refine if_ ?_ ?_ <;> intro h <;> first | exact h.elim | (exfalso; omega) | skip) | (show _ ∧ _; refine an_ ?_ (by first | exact congrArg (fun x => AV.d (D.int .i64 x)) (Int.add_zero _).symm | exact sd_)) | (show ∃ _, _ ∧ _; refine ex_ ?_) | (show ∃ _ _, _ ∧ _; refine ex2_ ?_) | (show Ar.int _ _ _ _ _; refine ar_ ?_) | (show wrapK _ _ _; refine wk_ ?_) | exact fin_ | fail)
          · intro j hj
            have h1 := hv i
            have h2 := hw j
            have h3 := mul_bd h1 h2
            have h4 := tsum_bd hb hv hw hn6 (k := k) (i := i) (j := j) (by omega) (by omega)
            have h5 := mul_bd h3 (hb.1 i j k)
            have h6 := hb.1 i j k
            (repeat' (conv => whnf) <;> first | exact True.intro | (with_reducible show (_ → _) ∧ (_ → _); refine if_ ?_ ?_ <;> intro h <;> first | exact h.elim | (exfalso; omega) | skip) | (show _ ∧ _; refine an_ ?_) | (show ∃ _, _ ∧ _; refine ex_ ?_) | (show ∃ _ _, _ ∧ _; refine ex2_ ?_) | (show Ar.int _ _ _ _ _; refine ar_ ?_) | (show wrapK _ _ _; refine wk_ ?_) | exact fin_ | fail)
            · conv => whnf
              refine ⟨j + 1, by omega, by omega, ?_⟩
              (repeat' (conv => whnf) <;> first | exact True.intro | (with_reducible show (_ → _) ∧ (_ → _); refine if_ ?_ ?_ <;> intro h <;> first | exact h.elim | (exfalso; omega) | skip) | (show _ ∧ _; refine an_ ?_ (by first | exact congrArg (fun x => AV.d (D.int .i64 x)) (Int.add_assoc ..) | exact sd_)) | (show ∃ _, _ ∧ _; refine ex_ ?_) | (show ∃ _ _, _ ∧ _; refine ex2_ ?_) | (show Ar.int _ _ _ _ _; refine ar_ ?_) | (show wrapK _ _ _; refine wk_ ?_) | exact fin_ | fail)
            · conv => whnf
              refine ⟨i + 1, by omega, by omega, ?_⟩
              have e : j = a.n.toNat := by omega
              subst e
              (repeat' (conv => whnf) <;> first | exact True.intro | (with_reducible show (_ → _) ∧ (_ → _); refine if_ ?_ ?_ <;> intro h <;> first | exact h.elim | (exfalso; omega) | skip) | (show _ ∧ _; refine an_ ?_) | (show ∃ _, _ ∧ _; refine ex_ ?_) | (show ∃ _ _, _ ∧ _; refine ex2_ ?_) | (show Ar.int _ _ _ _ _; refine ar_ ?_) | (show wrapK _ _ _; refine wk_ ?_) | exact fin_ | fail)
        · have h4 := tsum_bd hb hv hw hn6 (k := k) (i := i) (j := 0) (by omega) (by omega)
          simp only [sumN, Int.add_zero] at h4
          have h5 := mod_bd (tsum a v w k i) hp.1
          have e : i = a.n.toNat := by omega
          have e2 : tsum a v w k i % a.p = timesV a v w k := by
            subst e; unfold timesV; rw [if_pos (by omega)]
          (repeat' (conv => whnf) <;> first | exact True.intro | (with_reducible show (_ → _) ∧ (_ → _); refine if_ ?_ ?_ <;> intro h <;> first | exact h.elim | (exfalso; omega) | skip) | (show _ ∧ _; refine an_ ?_) | (show ∃ _, _ ∧ _; refine ex_ ?_) | (show ∃ _ _, _ ∧ _; refine ex2_ ?_) | (show Ar.int _ _ _ _ _; refine ar_ ?_) | (show wrapK _ _ _; refine wk_ ?_) | exact fin_ | fail)
          · conv => whnf
            refine ⟨k + 1, by omega, by omega, ?_⟩
            (repeat' (conv => whnf) <;> first | exact True.intro | (with_reducible show (_ → _) ∧ (_ → _); refine if_ ?_ ?_ <;> intro h <;> first | exact h.elim | (exfalso; omega) | skip) | (show _ ∧ _; refine an_ ?_ (by first | exact st_prog e2 | exact sd_)) | (show ∃ _, _ ∧ _; refine ex_ ?_) | (show ∃ _ _, _ ∧ _; refine ex2_ ?_) | (show Ar.int _ _ _ _ _; refine ar_ ?_) | (show wrapK _ _ _; refine wk_ ?_) | exact fin_ | fail)
    · conv => whnf
      refine congrArg D.agg (cel_ext fun q hq => ?_)
      unfold prog
      split
      · rfl
      · unfold timesV; rw [if_neg (by omega)]; rfl
theorem c_unitNumber (hf : isFn P N.impl_unitNumber (ir_impl_unitNumber N) = true) : C_unitNumber P N := by
  intro i j
  refine can_of hf rfl rfl ?_
  (repeat' (conv => whnf) <;> first | exact True.intro | (with_reducible show (_ → _) ∧ (_ → _); refine if_ ?_ ?_ <;> intro h <;> first | exact h.elim | (exfalso; omega) | skip) | (show _ ∧ _; refine an_ ?_) | (show ∃ _, _ ∧ _; refine ex_ ?_) | (show ∃ _ _, _ ∧ _; refine ex2_ ?_) | (show Ar.int _ _ _ _ _; refine ar_ ?_) | (show wrapK _ _ _; refine wk_ ?_) | exact fin_ | fail)
  · conv => whnf
    rw [if_pos (by omega)]
  · conv => whnf
    rw [if_neg (by omega)]
theorem c_vector (hf : isFn P N.impl_vector (ir_impl_vector N) = true) : C_vector P N := by
  intro m r hm hr
  refine can_of hf rfl rfl ?_
  (repeat' (conv => whnf) <;> first | exact True.intro | (with_reducible show (_ → _) ∧ (_ → _); refine if_ ?_ ?_ <;> intro h <;> first | exact h.elim | (exfalso; omega) | skip) | (show _ ∧ _; refine an_ ?_) | (show ∃ _, _ ∧ _; refine ex_ ?_) | (show ∃ _ _, _ ∧ _; refine ex2_ ?_) | (show Ar.int _ _ _ _ _; refine ar_ ?_) | (show wrapK _ _ _; refine wk_ ?_) | exact fin_ | fail)
  conv => whnf
  refine vc_loop (α := Nat) 0 (fun i => m - i) (fun i => i ≤ m) [] (fun i => [(3, .ptr 4 6 0 0), (7, .d (rowD m r)), (8, .d (.int .i64 m)), (9, .d (.int .i64 i))]) (fun i => [(4, .data 6 [vecL (prog i (vecR m r) Z)])]) lp_ ?_ ?_
  · (repeat' (conv => whnf) <;> first | exact True.intro | (with_reducible show (_ → _) ∧ (_ → _); refine if_ ?_ ?_ <;> intro h <;> first | exact h.elim | (exfalso; omega) | skip) | (show _ ∧ _; refine an_ ?_ (by first | exact zeros6 (fun i _ => by simp [prog, Z]) | exact sd_)) | (show ∃ _, _ ∧ _; refine ex_ ?_) | (show ∃ _ _, _ ∧ _; refine ex2_ ?_) | (show Ar.int _ _ _ _ _; refine ar_ ?_) | (show wrapK _ _ _; refine wk_ ?_) | exact fin_ | fail)
  · intro i hi
    have h1 := hr i
    (repeat' (conv => whnf) <;> first | exact True.intro | (with_reducible show (_ → _) ∧ (_ → _); refine if_ ?_ ?_ <;> intro h <;> first | exact h.elim | (exfalso; omega) | skip) | (show _ ∧ _; refine an_ ?_) | (show ∃ _, _ ∧ _; refine ex_ ?_) | (show ∃ _ _, _ ∧ _; refine ex2_ ?_) | (show Ar.int _ _ _ _ _; refine ar_ ?_) | (show wrapK _ _ _; refine wk_ ?_) | exact fin_ | fail)
    · conv => whnf
      refine ⟨i + 1, by omega, by omega, ?_⟩
      (repeat' (conv => whnf) <;> first | exact True.intro | (with_reducible show (_ → _) ∧ (_ → _); refine if_ ?_ ?_ <;> intro h <;> first | exact h.elim | (exfalso; omega) | skip) | (show _ ∧ _; refine an_ ?_ (by first | exact st_prog (by unfold vecR; rw [if_pos (by omega)]) | exact sd_)) | (show ∃ _, _ ∧ _; refine ex_ ?_) | (show ∃ _ _, _ ∧ _; refine ex2_ ?_) | (show Ar.int _ _ _ _ _; refine ar_ ?_) | (show wrapK _ _ _; refine wk_ ?_) | exact fin_ | fail)
    · conv => whnf
      refine congrArg D.agg (cel_ext fun q hq => ?_)
      unfold prog vecR
      split
      · rfl
      · rw [if_neg (by omega)]; rfl
theorem c_vectorE (hf : isFn P N.impl_vector (ir_impl_vector N) = true) : C_vectorE P N := by
  refine can_of hf rfl rfl ?_
  (repeat' (conv => whnf) <;> first | exact True.intro | (with_reducible show (_ → _) ∧ (_ → _); refine if_ ?_ ?_ <;> intro h <;> first | exact h.elim | (exfalso; omega) | skip) | (show _ ∧ _; refine an_ ?_) | (show ∃ _, _ ∧ _; refine ex_ ?_) | (show ∃ _ _, _ ∧ _; refine ex2_ ?_) | (show Ar.int _ _ _ _ _; refine ar_ ?_) | (show wrapK _ _ _; refine wk_ ?_) | exact fin_ | fail)
  conv => whnf
  refine vc_loop (α := Nat) 0 (fun i => 0) (fun i => i = 0) [] (fun i => [(3, .ptr 4 6 0 0), (7, .d .emp), (8, .d (.int .i64 0)), (9, .d (.int .i64 0))]) (fun i => [(4, .data 6 [vecL Z])]) lp_ ?_ ?_
  · (repeat' (conv => whnf) <;> first | exact True.intro | (with_reducible show (_ → _) ∧ (_ → _); refine if_ ?_ ?_ <;> intro h <;> first | exact h.elim | (exfalso; omega) | skip) | (show _ ∧ _; refine an_ ?_ (by first | exact zeros6 (fun i _ => by simp [prog, Z]) | exact sd_)) | (show ∃ _, _ ∧ _; refine ex_ ?_) | (show ∃ _ _, _ ∧ _; refine ex2_ ?_) | (show Ar.int _ _ _ _ _; refine ar_ ?_) | (show wrapK _ _ _; refine wk_ ?_) | exact fin_ | fail)
  · rintro _ rfl
    (repeat' (conv => whnf) <;> first | exact True.intro | (with_reducible show (_ → _) ∧ (_ → _); refine if_ ?_ ?_ <;> intro h <;> first | exact h.elim | (exfalso; omega) | skip) | (show _ ∧ _; refine an_ ?_) | (show ∃ _, _ ∧ _; refine ex_ ?_) | (show ∃ _ _, _ ∧ _; refine ex2_ ?_) | (show Ar.int _ _ _ _ _; refine ar_ ?_) | (show wrapK _ _ _; refine wk_ ?_) | exact fin_ | fail)
end Go.X
