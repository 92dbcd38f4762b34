import Derived.Test.YtehopmcogekcoaaM3
set_option linter.all false
namespace Go.X
open Go Go.RowKit
set_option maxRecDepth 100000
set_option maxHeartbeats 8000000
set_option linter.unusedSimpArgs false
set_option linter.unusedVariables false
variable {P : Program} {N : FN}
def tS (a : Alg) (v w : Nat → Int) (i j : Nat) : Nat → Int := fun k => if (k : Int) < a.n then tsum a v w k i + sumN j fun j => v i * w j * a.T i j k else 0
theorem tS_bd {a : Alg} {v w : Nat → Int} (hb : AlgB a) (hv : Byts v) (hw : Byts w) (hn6 : 0 ≤ a.n ∧ a.n ≤ 6) {i j : Nat} (hi : i ≤ 6) (hj : j ≤ 6) (k : Nat) : 0 ≤ tS a v w i j k ∧ tS a v w i j k ≤ 700000000 := by
  unfold tS
  split
  · have hc : ∀ i j, 0 ≤ v i * w j * a.T i j k ∧ v i * w j * a.T i j k ≤ 255 * 255 * 255 := fun i j => mul_bd (mul_bd (hv i) (hw j)) (hb.1 i j k)
    have h1 := sumN_bd (f := fun j => v i * w j * a.T i j k) (hc i) j
    have h2 : ∀ i, 0 ≤ sumN a.n.toNat (fun j => v i * w j * a.T i j k) ∧ sumN a.n.toNat (fun j => v i * w j * a.T i j k) ≤ 100000000 := fun i => by
      have := sumN_bd (f := fun j => v i * w j * a.T i j k) (hc i) a.n.toNat
      omega
    have h3 := sumN_bd h2 i
    unfold tsum
    omega
  · omega
theorem tS_zero {a : Alg} {v w : Nat → Int} {i j : Nat} (h : v i * w j = 0) : cel .i64 6 (tS a v w i j) = cel .i64 6 (tS a v w i (j + 1)) := cel_ext fun k _ => by
  unfold tS; simp only [sumN, h, Int.zero_mul, Int.add_zero]
theorem tS_next {a : Alg} {v w : Nat → Int} {i j k : Nat} (h : (k : Int) < a.n) : tS a v w i j k + v i * w j * a.T i j k = tS a v w i (j + 1) k := by
  unfold tS; simp only [h, if_true, sumN]; omega
theorem tS_prog {a : Alg} {v w : Nat → Int} {i j k : Nat} (h : a.n ≤ (k : Int)) : cel .i64 6 (prog k (tS a v w i (j + 1)) (tS a v w i j)) = cel .i64 6 (tS a v w i (j + 1)) := cel_ext fun q _ => by
  unfold prog
  split
  · rfl
  · unfold tS; rw [if_neg (by omega), if_neg (by omega)]
theorem tS_row {a : Alg} {v w : Nat → Int} {i j : Nat} (h : a.n ≤ (j : Int)) (hj : j ≤ a.n.toNat) : cel .i64 6 (tS a v w i j) = cel .i64 6 (tS a v w (i + 1) 0) := cel_ext fun q _ => by
  have : j = a.n.toNat := by omega
  subst this
  unfold tS tsum; simp only [sumN]; split <;> omega
theorem tS_end {a : Alg} {v w : Nat → Int} {i k : Nat} (h : a.n ≤ (i : Int)) (hi : i ≤ a.n.toNat) : tS a v w i 0 k % a.p = timesV a v w k := by
  have : i = a.n.toNat := by omega
  subst this
  unfold tS timesV; simp only [sumN, Int.add_zero]
  split
  · rfl
  · simp
theorem c_times (hn : C_n P N) (hf : isFn P N.impl_Algebra_times (ir_impl_Algebra_times N) = true) : C_times P N := by
  intro sz l e off a v w ha hb hv hw hp hn6
  refine can_of hf rfl rfl ?_
  (repeat' (conv => whnf) <;> first | exact True.intro | (with_reducible show (_ → _) ∧ (_ → _); refine if_ ?_ ?_ <;> intro h <;> first | exact h.elim | (exfalso; omega) | skip) | (show _ ∧ _; refine an_ ?_) | (show ∃ _, _ ∧ _; refine ex_ ?_ (by first | with_reducible exact rfl | exact hn ‹_› | exact rd_)) | (show ∃ _ _, _ ∧ _; refine ex2_ ?_ (by first | with_reducible exact rfl | exact hn ‹_› | exact rd_)) | (show Ar.int _ _ _ _ _; refine ar_ ?_) | (show wrapK _ _ _; refine wk_ ?_) | exact fin_ | fail)
  conv => whnf
  refine vc_loop (α := Nat) 0 (fun i => a.n.toNat - i) (fun i => i ≤ a.n.toNat) [] (fun i => [(4, .ptr 5 6 0 0), (5, .ptr 6 6 0 0), (7, .ptr 8 6 0 0), (17, .d (.int .i64 a.n)), (18, .d (.int .i64 i))]) (fun i => [(5, .data 6 [vecL v]), (6, .data 6 [vecL w]), (8, .data 6 [cel .i64 6 (tS a v w i 0)])]) lp_ ?_ ?_
  · (repeat' (conv => whnf) <;> first | exact True.intro | (with_reducible show (_ → _) ∧ (_ → _); refine if_ ?_ ?_ <;> intro h <;> first | exact h.elim | (exfalso; omega) | skip) | (show _ ∧ _; refine an_ ?_ (by first | exact zeros6 (fun i _ => by simp [tS, tsum, sumN]) | exact sd_)) | (show ∃ _, _ ∧ _; refine ex_ ?_) | (show ∃ _ _, _ ∧ _; refine ex2_ ?_) | (show Ar.int _ _ _ _ _; refine ar_ ?_) | (show wrapK _ _ _; refine wk_ ?_) | exact fin_ | fail)
  · intro i hi
    (repeat' (conv => whnf) <;> first | exact True.intro | (with_reducible show (_ → _) ∧ (_ → _); refine if_ ?_ ?_ <;> intro h <;> first | exact h.elim | (exfalso; omega) | skip) | (show _ ∧ _; refine an_ ?_) | (show ∃ _, _ ∧ _; refine ex_ ?_ (by first | with_reducible exact rfl | exact hn ‹_› | exact rd_)) | (show ∃ _ _, _ ∧ _; refine ex2_ ?_ (by first | with_reducible exact rfl | exact hn ‹_› | exact rd_)) | (show Ar.int _ _ _ _ _; refine ar_ ?_) | (show wrapK _ _ _; refine wk_ ?_) | exact fin_ | fail)
    · conv => whnf
      refine vc_loop (α := Nat) 0 (fun j => a.n.toNat - j) (fun j => j ≤ a.n.toNat) [] (fun j => [(4, .ptr 5 6 0 0), (5, .ptr 6 6 0 0), (7, .ptr 8 6 0 0), (17, .d (.int .i64 a.n)), (18, .d (.int .i64 i)), (8, .d (.int .i64 i)), (22, .d (.int .i64 a.n)), (23, .d (.int .i64 j))]) (fun j => [(5, .data 6 [vecL v]), (6, .data 6 [vecL w]), (8, .data 6 [cel .i64 6 (tS a v w i j)])]) lp_ ?_ ?_
      · (repeat' (conv => whnf) <;> first | exact True.intro | (with_reducible show (_ → _) ∧ (_ → _); refine if_ ?_ ?_ <;> intro h <;> first | exact h.elim | (exfalso; omega) | skip) | (show _ ∧ _; refine an_ ?_) | (show ∃ _, _ ∧ _; refine ex_ ?_) | (show ∃ _ _, _ ∧ _; refine ex2_ ?_) | (show Ar.int _ _ _ _ _; refine ar_ ?_) | (show wrapK _ _ _; refine wk_ ?_) | exact fin_ | fail)
      · intro j hj
        have h1 := hv i
        have h2 := hw j
        have h3 := mul_bd h1 h2
        (repeat' (conv => whnf) <;> first | exact True.intro | (with_reducible show (_ → _) ∧ (_ → _); refine if_ ?_ ?_ <;> intro h <;> first | exact h.elim | (exfalso; omega) | skip) | (show _ ∧ _; refine an_ ?_) | (show ∃ _, _ ∧ _; refine ex_ ?_ (by first | with_reducible exact rfl | exact hn ‹_› | exact rd_)) | (show ∃ _ _, _ ∧ _; refine ex2_ ?_ (by first | with_reducible exact rfl | exact hn ‹_› | exact rd_)) | (show Ar.int _ _ _ _ _; refine ar_ ?_) | (show wrapK _ _ _; refine wk_ ?_) | exact fin_ | fail)
        · conv => whnf
          refine ⟨j + 1, by omega, by omega, ?_⟩
          (repeat' (conv => whnf) <;> first | exact True.intro | (with_reducible show (_ → _) ∧ (_ → _); refine if_ ?_ ?_ <;> intro h <;> first | exact h.elim | (exfalso; omega) | skip) | (show _ ∧ _; refine an_ ?_ (by first | exact congrArg (fun x => Chunk.data 6 [x]) (tS_zero ‹_›) | exact sd_)) | (show ∃ _, _ ∧ _; refine ex_ ?_) | (show ∃ _ _, _ ∧ _; refine ex2_ ?_) | (show Ar.int _ _ _ _ _; refine ar_ ?_) | (show wrapK _ _ _; refine wk_ ?_) | exact fin_ | fail)
        · conv => whnf
          refine vc_loop (α := Nat) 0 (fun k => a.n.toNat - k) (fun k => k ≤ a.n.toNat) [] (fun k => [(4, .ptr 5 6 0 0), (5, .ptr 6 6 0 0), (7, .ptr 8 6 0 0), (17, .d (.int .i64 a.n)), (18, .d (.int .i64 i)), (8, .d (.int .i64 i)), (22, .d (.int .i64 a.n)), (23, .d (.int .i64 j)), (9, .d (.int .i64 j)), (10, .d (.int .i64 (v i * w j))), (38, .d (.int .i64 a.n)), (39, .d (.int .i64 k))]) (fun k => [(5, .data 6 [vecL v]), (6, .data 6 [vecL w]), (8, .data 6 [cel .i64 6 (prog k (tS a v w i (j + 1)) (tS a v w i j))])]) lp_ ?_ ?_
          · (repeat' (conv => whnf) <;> first | exact True.intro | (with_reducible show (_ → _) ∧ (_ → _); refine if_ ?_ ?_ <;> intro h <;> first | exact h.elim | (exfalso; omega) | skip) | (show _ ∧ _; refine an_ ?_ (by first | exact congrArg (fun x => Chunk.data 6 [x]) cel_prog0.symm | exact sd_)) | (show ∃ _, _ ∧ _; refine ex_ ?_) | (show ∃ _ _, _ ∧ _; refine ex2_ ?_) | (show Ar.int _ _ _ _ _; refine ar_ ?_) | (show wrapK _ _ _; refine wk_ ?_) | exact fin_ | fail)
          · intro k hk
            have h4 := tS_bd hb hv hw hn6 (i := i) (j := j) (by omega) (by omega) k
            have h5 := mul_bd h3 (hb.1 i j k)
            have h6 := hb.1 i j k
            (repeat' (conv => whnf) <;> first | exact True.intro | (with_reducible show (_ → _) ∧ (_ → _); refine if_ ?_ ?_ <;> intro h <;> first | exact h.elim | (exfalso; omega) | skip) | (show _ ∧ _; refine an_ ?_) | (show ∃ _, _ ∧ _; refine ex_ ?_) | (show ∃ _ _, _ ∧ _; refine ex2_ ?_) | (show Ar.int _ _ _ _ _; refine ar_ ?_) | (show wrapK _ _ _; refine wk_ ?_) | exact fin_ | fail)
            · conv => whnf
              refine ⟨k + 1, by omega, by omega, ?_⟩
              (repeat' (conv => whnf) <;> first | exact True.intro | (with_reducible show (_ → _) ∧ (_ → _); refine if_ ?_ ?_ <;> intro h <;> first | exact h.elim | (exfalso; omega) | skip) | (show _ ∧ _; refine an_ ?_ (by first | exact st_prog (tS_next ‹_›) | exact sd_)) | (show ∃ _, _ ∧ _; refine ex_ ?_) | (show ∃ _ _, _ ∧ _; refine ex2_ ?_) | (show Ar.int _ _ _ _ _; refine ar_ ?_) | (show wrapK _ _ _; refine wk_ ?_) | exact fin_ | fail)
            · conv => whnf
              refine ⟨j + 1, by omega, by omega, ?_⟩
              (repeat' (conv => whnf) <;> first | exact True.intro | (with_reducible show (_ → _) ∧ (_ → _); refine if_ ?_ ?_ <;> intro h <;> first | exact h.elim | (exfalso; omega) | skip) | (show _ ∧ _; refine an_ ?_ (by first | exact congrArg (fun x => Chunk.data 6 [x]) (tS_prog ‹_›) | exact sd_)) | (show ∃ _, _ ∧ _; refine ex_ ?_) | (show ∃ _ _, _ ∧ _; refine ex2_ ?_) | (show Ar.int _ _ _ _ _; refine ar_ ?_) | (show wrapK _ _ _; refine wk_ ?_) | exact fin_ | fail)
        · conv => whnf
          refine ⟨i + 1, by omega, by omega, ?_⟩
          (repeat' (conv => whnf) <;> first | exact True.intro | (with_reducible show (_ → _) ∧ (_ → _); refine if_ ?_ ?_ <;> intro h <;> first | exact h.elim | (exfalso; omega) | skip) | (show _ ∧ _; refine an_ ?_ (by first | exact congrArg (fun x => Chunk.data 6 [x]) (tS_row ‹_› hj) | exact sd_)) | (show ∃ _, _ ∧ _; refine ex_ ?_) | (show ∃ _ _, _ ∧ _; refine ex2_ ?_) | (show Ar.int _ _ _ _ _; refine ar_ ?_) | (show wrapK _ _ _; refine wk_ ?_) | exact fin_ | fail)
    · conv => whnf
      refine vc_loop (α := Nat) 0 (fun q => 6 - q) (fun q => q ≤ 6) [] (fun q => [(12, .ptr 13 6 0 0), (64, .d (.agg (cel .i64 6 (tS a v w i 0)))), (65, .d (.int .i64 q))]) (fun q => [(13, .data 6 [vecL (prog q (timesV a v w) Z)])]) lp_ ?_ ?_
      · (repeat' (conv => whnf) <;> first | exact True.intro | (with_reducible show (_ → _) ∧ (_ → _); refine if_ ?_ ?_ <;> intro h <;> first | exact h.elim | (exfalso; omega) | skip) | (show _ ∧ _; refine an_ ?_ (by first | exact zeros6 (fun i _ => by simp [prog, Z]) | exact sd_)) | (show ∃ _, _ ∧ _; refine ex_ ?_) | (show ∃ _ _, _ ∧ _; refine ex2_ ?_) | (show Ar.int _ _ _ _ _; refine ar_ ?_) | (show wrapK _ _ _; refine wk_ ?_) | exact fin_ | fail)
      · intro q hq
        have h4 := tS_bd hb hv hw hn6 (i := i) (j := 0) (by omega) (by omega) q
        have h5 := mod_bd (tS a v w i 0 q) hp.1
        (repeat' (conv => whnf) <;> first | exact True.intro | (with_reducible show (_ → _) ∧ (_ → _); refine if_ ?_ ?_ <;> intro h <;> first | exact h.elim | (exfalso; omega) | skip) | (show _ ∧ _; refine an_ ?_) | (show ∃ _, _ ∧ _; refine ex_ ?_) | (show ∃ _ _, _ ∧ _; refine ex2_ ?_) | (show Ar.int _ _ _ _ _; refine ar_ ?_) | (show wrapK _ _ _; refine wk_ ?_) | exact fin_ | fail)
        · conv => whnf
          refine ⟨q + 1, by omega, by omega, ?_⟩
          (repeat' (conv => whnf) <;> first | exact True.intro | (with_reducible show (_ → _) ∧ (_ → _); refine if_ ?_ ?_ <;> intro h <;> first | exact h.elim | (exfalso; omega) | skip) | (show _ ∧ _; refine an_ ?_ (by first | exact st_prog (tS_end ‹_› hi) | exact sd_)) | (show ∃ _, _ ∧ _; refine ex_ ?_) | (show ∃ _ _, _ ∧ _; refine ex2_ ?_) | (show Ar.int _ _ _ _ _; refine ar_ ?_) | (show wrapK _ _ _; refine wk_ ?_) | exact fin_ | fail)
end Go.X
