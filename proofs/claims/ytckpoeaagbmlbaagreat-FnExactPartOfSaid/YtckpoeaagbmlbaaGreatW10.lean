import Derived.Test.YtckpoeaagbmlbaaGreatK7
set_option linter.all false
namespace Go.X
open Go Go.RowKit
set_option maxRecDepth 100000
set_option maxHeartbeats 8000000
variable {P : Program} {N : FN}
theorem get_vec1 {m i j : Nat} {f : Nat → Nat → Int} (hi : i < m) (hj : j < 6) : get2 (arr m fun i => vecL (f i)) ((i : Nat) : Int).toNat (0 + ((j : Nat) : Int).toNat * 1) = some (.int .u8 (f i j)) := by
  simp only [get2, Int.toNat_natCast, arr_get hi, Option.bind_some, Nat.zero_add, Nat.mul_one, cel_get hj]
theorem c_heldVS (hf : isFn P N.laws_heldVectorS (ir_laws_heldVectorS N) = true) : C_heldVS P N := by
  intro m k hm hk
  have hl : (arr m fun i => vecL (mkV k i)).length = m := arr_len ..
  refine can_of hf rfl rfl ?_
  (repeat' (conv => whnf) <;> first | exact True.intro | (refine if_ ?_ ?_ <;> intro h <;> first | exact h.elim | (exfalso; omega) | skip) | refine vs_ ?_ | refine dv_ ?_ | exact fin_ | (show ∃ _, _ ∧ _; refine ex_ ?_) | (show ∃ _ _, _ ∧ _; refine ex2_ ?_) | fail)
  conv => whnf
  refine vc_loop (α := Nat) 0 (fun i => m - i) (fun i => i ≤ m) [] (fun i => [(1, .d (.int .i64 (k + 6 * i))), (5, .d (.int .i64 i))]) (fun i => []) lp_ ?_ ?_
  · (repeat' (conv => whnf) <;> first | exact True.intro | (refine if_ ?_ ?_ <;> intro h <;> first | exact h.elim | (exfalso; omega) | skip) | refine vs_ ?_ | refine dv_ ?_ | exact fin_ | (show ∃ _, _ ∧ _; refine ex_ ?_) | (show ∃ _ _, _ ∧ _; refine ex2_ ?_) | fail)
  · intro i hi
    by_cases hlt : i < m
    · (repeat' (conv => whnf) <;> first | exact True.intro | (refine if_ ?_ ?_ <;> intro h <;> first | exact h.elim | (exfalso; omega) | skip) | refine vs_ ?_ | refine dv_ ?_ | exact fin_ | (show ∃ _, _ ∧ _; refine ex_ ?_) | (show ∃ _ _, _ ∧ _; refine ex2_ ?_) | fail)
      conv => whnf
      refine vc_loop (α := Nat) 0 (fun j => 6 - j) (fun j => j ≤ 6) [] (fun j => [(1, .d (.int .i64 (k + 6 * i + j))), (5, .d (.int .i64 i)), (6, .d (.int .i64 j))]) (fun j => []) lp_ ?_ ?_
      · (repeat' (conv => whnf) <;> first | exact True.intro | (refine if_ ?_ ?_ <;> intro h <;> first | exact h.elim | (exfalso; omega) | skip) | refine vs_ ?_ | refine dv_ ?_ | exact fin_ | (show ∃ _, _ ∧ _; refine ex_ ?_) | (show ∃ _ _, _ ∧ _; refine ex2_ ?_) | fail)
      · intro j hj
        by_cases hlt2 : j < 6
        · have hv : mkV k i j = (k + 6 * i + j) % 256 := rfl
          (repeat' (conv => whnf) <;> first | exact True.intro | (refine if_ ?_ ?_ <;> intro h <;> first | exact h.elim | (exfalso; omega) | skip) | refine wk_u8m ?_ | refine vs_ ?_ | refine dv_ ?_ | exact fin_ | (show ∃ _, _ ∧ _; refine ex_ ?_ (by first | with_reducible exact rfl | with_reducible exact get_vec1 (by omega) (by omega) | exact rd_)) | (show ∃ _ _, _ ∧ _; refine ex2_ ?_ (by first | with_reducible exact rfl | with_reducible exact get_vec1 (by omega) (by omega) | exact rd_)) | fail)
          conv => whnf
          refine ⟨j + 1, by omega, by omega, ?_⟩
          (repeat' (conv => whnf) <;> first | exact True.intro | (refine if_ ?_ ?_ <;> intro h <;> first | exact h.elim | (exfalso; omega) | skip) | refine vs_ ?_ | refine dv_ ?_ | exact fin_ | (show ∃ _, _ ∧ _; refine ex_ ?_) | (show ∃ _ _, _ ∧ _; refine ex2_ ?_) | fail)
        · have : j = 6 := by omega
          subst this
          (repeat' (conv => whnf) <;> first | exact True.intro | (refine if_ ?_ ?_ <;> intro h <;> first | exact h.elim | (exfalso; omega) | skip) | refine vs_ ?_ | refine dv_ ?_ | exact fin_ | (show ∃ _, _ ∧ _; refine ex_ ?_) | (show ∃ _ _, _ ∧ _; refine ex2_ ?_) | fail)
          conv => whnf
          refine ⟨i + 1, by omega, by omega, ?_⟩
          (repeat' (conv => whnf) <;> first | exact True.intro | (refine if_ ?_ ?_ <;> intro h <;> first | exact h.elim | (exfalso; omega) | skip) | refine vs_ ?_ | refine dv_ ?_ | exact fin_ | (show ∃ _, _ ∧ _; refine ex_ ?_) | (show ∃ _ _, _ ∧ _; refine ex2_ ?_) | fail)
    · have : i = m := by omega
      subst this
      (repeat' (conv => whnf) <;> first | exact True.intro | (refine if_ ?_ ?_ <;> intro h <;> first | exact h.elim | (exfalso; omega) | skip) | refine vs_ ?_ | refine dv_ ?_ | exact fin_ | (show ∃ _, _ ∧ _; refine ex_ ?_) | (show ∃ _ _, _ ∧ _; refine ex2_ ?_) | fail)
theorem mkQ_0 {k : Int} {s : Nat → Nat → Int} {m : Nat} : (arr m fun i => vecL (s i)) = arr m fun i => vecL (mkQ k s 0 i) := arr_ext fun i _ => by
  refine congrArg vecL (funext fun j => ?_)
  unfold mkQ; rw [if_neg (by omega)]
theorem mkQ_s {k : Int} {s : Nat → Nat → Int} {m i j : Nat} (hi : i < m) (hj : j < 6) : Chunk.data 6 ((arr m fun i' => vecL (mkQ k s (6 * i + j) i')).set ((i : Nat) : Int).toNat ((vecL (mkQ k s (6 * i + j) i)).set (0 + ((j : Nat) : Int).toNat * 1) (.int .u8 ((k + 6 * i + j) % 256)))) = Chunk.data 6 (arr m fun i' => vecL (mkQ k s (6 * i + (j + 1)) i')) := by
  rw [Int.toNat_natCast, Int.toNat_natCast, Nat.zero_add, Nat.mul_one, arr_set]
  refine congrArg (Chunk.data 6) (arr_ext fun i' hi' => ?_)
  unfold upd
  by_cases c : i' = i
  · subst c
    rw [if_pos rfl]
    refine Eq.trans cel_set (cel_ext fun j' hj' => ?_)
    unfold upd mkQ
    by_cases d : j' = j
    · subst d
      rw [if_pos rfl, if_pos (by omega)]; rfl
    · rw [if_neg d]
      by_cases g : 6 * i' + j' < 6 * i' + j
      · rw [if_pos g, if_pos (by omega)]
      · rw [if_neg g, if_neg (by omega)]
  · rw [if_neg c]
    refine cel_ext fun j' hj' => ?_
    unfold mkQ
    by_cases g : 6 * i' + j' < 6 * i + j
    · rw [if_pos g, if_pos (by omega)]
    · rw [if_neg g, if_neg (by omega)]
theorem mkQ_n {k : Int} {s : Nat → Nat → Int} {m : Nat} : (arr m fun i => vecL (mkQ k s (6 * m) i)) = arr m fun i => vecL (mkV k i) := arr_ext fun i hi => cel_ext fun j hj => by
  unfold mkQ; rw [if_pos (by omega)]
theorem sub_vec1 {m i : Nat} {f : Nat → List D} (hi : i < m) : (arr m f)[((i : Nat) : Int).toNat]? = some (f i) := by rw [Int.toNat_natCast, arr_get hi]
theorem c_markVS (hf : isFn P N.laws_markVectorS (ir_laws_markVectorS N) = true) : C_markVS P N := by
  intro m s k hm hk
  refine can_ofM hf rfl rfl ?_
  have hl : (arr m fun i => vecL (s i)).length = m := arr_len ..
  (repeat' (conv => whnf) <;> first | exact True.intro | (refine if_ ?_ ?_ <;> intro h <;> first | exact h.elim | (exfalso; omega) | skip) | refine vs_ ?_ | refine dv_ ?_ | exact fin_ | (show ∃ _, _ ∧ _; refine ex_ ?_) | (show ∃ _ _, _ ∧ _; refine ex2_ ?_) | fail)
  conv => whnf
  refine vc_loop (α := Nat) 0 (fun i => m - i) (fun i => i ≤ m) [] (fun i => [(1, .d (.int .i64 (k + 6 * i))), (5, .d (.int .i64 i))]) (fun i => [(0, .data 6 (arr m fun i' => vecL (mkQ k s (6 * i) i')))]) lp_ ?_ ?_
  · (repeat' (conv => whnf) <;> first | exact True.intro | (refine if_ ?_ ?_ <;> intro h <;> first | exact h.elim | (exfalso; omega) | skip) | refine vs_ ?_ (by first | exact congrArg (Chunk.data 6) mkQ_0 | exact sd_) | refine dv_ ?_ | exact fin_ | (show ∃ _, _ ∧ _; refine ex_ ?_) | (show ∃ _ _, _ ∧ _; refine ex2_ ?_) | fail)
  · intro i hi
    have hl2 : (arr m fun i' => vecL (mkQ k s (6 * i) i')).length = m := arr_len ..
    by_cases hlt : i < m
    · (repeat' (conv => whnf) <;> first | exact True.intro | (refine if_ ?_ ?_ <;> intro h <;> first | exact h.elim | (exfalso; omega) | skip) | refine vs_ ?_ | refine dv_ ?_ | exact fin_ | (show ∃ _, _ ∧ _; refine ex_ ?_) | (show ∃ _ _, _ ∧ _; refine ex2_ ?_) | fail)
      conv => whnf
      refine vc_loop (α := Nat) 0 (fun j => 6 - j) (fun j => j ≤ 6) [] (fun j => [(1, .d (.int .i64 (k + 6 * i + j))), (5, .d (.int .i64 i)), (6, .d (.int .i64 j))]) (fun j => [(0, .data 6 (arr m fun i' => vecL (mkQ k s (6 * i + j) i')))]) lp_ ?_ ?_
      · (repeat' (conv => whnf) <;> first | exact True.intro | (refine if_ ?_ ?_ <;> intro h <;> first | exact h.elim | (exfalso; omega) | skip) | refine vs_ ?_ | refine dv_ ?_ | exact fin_ | (show ∃ _, _ ∧ _; refine ex_ ?_) | (show ∃ _ _, _ ∧ _; refine ex2_ ?_) | fail)
      · intro j hj
        have hl3 : (arr m fun i' => vecL (mkQ k s (6 * i + j) i')).length = m := arr_len ..
        by_cases hlt2 : j < 6
        · have hv : mkV k i j = (k + 6 * i + j) % 256 := rfl
          (repeat' (conv => whnf) <;> first | exact True.intro | (refine if_ ?_ ?_ <;> intro h <;> first | exact h.elim | (exfalso; omega) | skip) | refine wk_u8m ?_ | refine vs_ ?_ | refine dv_ ?_ | exact fin_ | (show ∃ _, _ ∧ _; refine ex_ ?_ (by first | with_reducible exact rfl | with_reducible exact sub_vec1 hlt | exact rd_)) | (show ∃ _ _, _ ∧ _; refine ex2_ ?_ (by first | with_reducible exact rfl | with_reducible exact sub_vec1 hlt | exact rd_)) | fail)
          conv => whnf
          refine ⟨j + 1, by omega, by omega, ?_⟩
          (repeat' (conv => whnf) <;> first | exact True.intro | (refine if_ ?_ ?_ <;> intro h <;> first | exact h.elim | (exfalso; omega) | skip) | refine vs_ ?_ (by first | exact mkQ_s hlt hlt2 | exact sd_) | refine dv_ ?_ | exact fin_ | (show ∃ _, _ ∧ _; refine ex_ ?_) | (show ∃ _ _, _ ∧ _; refine ex2_ ?_) | fail)
        · have : j = 6 := by omega
          subst this
          (repeat' (conv => whnf) <;> first | exact True.intro | (refine if_ ?_ ?_ <;> intro h <;> first | exact h.elim | (exfalso; omega) | skip) | refine vs_ ?_ | refine dv_ ?_ | exact fin_ | (show ∃ _, _ ∧ _; refine ex_ ?_) | (show ∃ _ _, _ ∧ _; refine ex2_ ?_) | fail)
          conv => whnf
          refine ⟨i + 1, by omega, by omega, ?_⟩
          (repeat' (conv => whnf) <;> first | exact True.intro | (refine if_ ?_ ?_ <;> intro h <;> first | exact h.elim | (exfalso; omega) | skip) | refine vs_ ?_ | refine dv_ ?_ | exact fin_ | (show ∃ _, _ ∧ _; refine ex_ ?_) | (show ∃ _ _, _ ∧ _; refine ex2_ ?_) | fail)
    · have : i = m := by omega
      subst this
      (repeat' (conv => whnf) <;> first | exact True.intro | (refine if_ ?_ ?_ <;> intro h <;> first | exact h.elim | (exfalso; omega) | skip) | refine vs_ ?_ | refine dv_ ?_ | exact fin_ | (show ∃ _, _ ∧ _; refine ex_ ?_) | (show ∃ _ _, _ ∧ _; refine ex2_ ?_) | fail)
      conv => whnf
      refine ⟨?_, ?_⟩
      · conv => whnf
        exact ⟨⟨rfl, by rw [arr_len, arr_len]⟩, mkQ_n⟩
      · conv => whnf
end Go.X
