import Derived.Test.YtehopmcogekcoaaM3
set_option linter.all false
namespace Go.X
open Go Go.RowKit
set_option maxRecDepth 100000
set_option maxHeartbeats 8000000
set_option linter.unusedSimpArgs false
set_option linter.unusedVariables false
variable {P : Program} {N : FN}
def copR (a : Alg) (n i j r : Nat) : List (List D) := if r < i then row (n + n) (augR a r) else if r = i then row (n + j) (augR a r) else row n (augR a r)
theorem copR_get {a : Alg} {n i j c : Nat} (h : i < c) : (arr c (copR a n i j))[((i : Nat) : Int).toNat]? = some (row (n + j) (augR a i)) := by
  rw [Int.toNat_natCast, arr_get h]; unfold copR; rw [if_neg (by omega), if_pos rfl]
theorem copR_put {a : Alg} {n i j c : Nat} {x : Int} (hx : x = augR a i (n + j)) :
    Chunk.nest 1 ((arr c (copR a n i j)).set ((i : Nat) : Int).toNat (row (n + j) (augR a i) ++ [[.int .i64 x]])) none = .nest 1 (arr c (copR a n i (j + 1))) none := by
  subst hx
  rw [Int.toNat_natCast, arr_set]
  congr 1
  refine arr_ext fun r hr => ?_
  unfold upd copR
  by_cases e : r = i
  · subst e
    rw [if_pos rfl, if_neg (by omega), if_pos rfl]
    unfold row
    rw [← Nat.add_assoc, arr_succ]
  · rw [if_neg e]
    by_cases h : r < i
    · rw [if_pos h, if_pos h]
    · rw [if_neg h, if_neg e, if_neg h, if_neg e]
theorem copR_next {a : Alg} {n i c : Nat} : arr c (copR a n i n) = arr c (copR a n (i + 1) 0) := arr_ext fun r hr => by
  unfold copR
  by_cases h : r < i
  · rw [if_pos h, if_pos (by omega)]
  · rw [if_neg h]
    by_cases e : r = i
    · rw [if_pos e, if_pos (by omega)]
    · rw [if_neg e, if_neg (by omega)]
      split <;> rfl
theorem copR_end {a : Alg} {n : Nat} : nestD 1 (arr n (copR a n n 0)) = rowsL (n + n) (arr n (augR a)) := by
  unfold nestD rowsL
  rw [arr_map, arr_map]
  refine arr_ext fun r hr => ?_
  unfold copR; rw [if_pos hr]
theorem row_half {n : Nat} {r : Row} : ((row (n + n) r).drop ((n : Nat) : Int).toNat).take (((n + n : Nat) : Int).toNat - ((n : Nat) : Int).toNat) = row n fun j => r (n + j) := by
  simp only [Int.toNat_natCast]
  unfold row
  refine arr_of (by simp [arr_len]) fun i hi => ?_
  rw [List.getElem?_take, if_pos (by omega), List.getElem?_drop, arr_get (by omega)]
theorem row_half2 {n : Nat} {r : Row} : ((row (n + n) r).drop n).take ((((row (n + n) r).length : Nat) : Int).toNat - n) = row n fun j => r (n + j) := by
  have := row_half (n := n) (r := r)
  rw [row_len]; simpa using this
theorem rows_half {n z : Nat} {L : List Row} {r : Row} {l : List (List D)} (h : l = row n fun j => r (n + j)) : Chunk.data z (rowsL n (L.map fun r j => r (n + j)) ++ [[.lst 1 l]]) = .data z (rowsL n ((L ++ [r]).map fun r j => r (n + j))) := by
  subst h
  rw [rowsL_app, List.map_append]; rfl
theorem c_copairing (hN : C_n P N) (hT : C_tableN P N) (hU : C_unitNumber P N) (hR : C_reduce P N) (hf : isFn P N.impl_Algebra_copairing (ir_impl_Algebra_copairing N) = true) : C_copairing P N := by
  intro sz l e off a hat ha
  have hn := ha.n
  have hp2 := prime_bd ha.p
  have hN' : Can P N.impl_Algebra_n [.pd sz l e off] (.val (.int .i64 a.n)) := hN hat
  have hT' := hT (sz := sz) hat ha
  have hR' := hR (m := a.n.toNat + a.n.toNat) (L := augL a) (by omega) (by unfold augL; rw [arr_len]; omega) ha.p (augL_rw ha)
  have hlen := iCop_len ha
  have hau : ∀ i j : Nat, augR a i (a.n.toNat + j) = if i = j then 1 else 0 := fun i j => by
    unfold augR
    rw [if_neg (by omega), show a.n.toNat + j - a.n.toNat = j by omega]
    by_cases h : i = j
    · rw [if_pos h, if_pos h.symm]
    · rw [if_neg h, if_neg (fun e => h e.symm)]
  have htab : (arr a.n.toNat fun i => row a.n.toNat (tabR a i)) = arr a.n.toNat (copR a a.n.toNat 0 0) := arr_ext fun r hr => by
    have e : row a.n.toNat (tabR a r) = row a.n.toNat (augR a r) := row_ext fun j hj => by unfold augR; rw [if_pos hj]
    unfold copR
    rw [if_neg (by omega), e]
    split <;> rfl
  refine can_of hf rfl rfl ?_
  unfold iCop at hlen ⊢
  rw [List.length_map] at hlen
  have hR2 : Can P N.impl_reduce [.lst 1 (nestD 1 (arr a.n.toNat (copR a a.n.toNat a.n.toNat 0))), .int .i64 a.p] (.val (rowsD (a.n.toNat + a.n.toNat) (redF a.p (a.n.toNat + a.n.toNat) (augL a)))) := by rw [copR_end]; exact hR'
  generalize redF a.p (a.n.toNat + a.n.toNat) (augL a) = R at *
  rw [htab] at hT'
  (repeat' (conv => whnf) <;> first | exact True.intro | (with_reducible show (_ → _) ∧ (_ → _); refine if_ ?_ ?_ <;> intro h <;> first | exact h.elim | (exfalso; omega) | skip) | (show _ ∧ _; refine an_ ?_) | (show ∃ _, _ ∧ _; refine ex_ ?_ (by first | with_reducible exact rfl | exact hT' | exact rd_)) | (show ∃ _ _, _ ∧ _; refine ex2_ ?_ (by first | with_reducible exact rfl | exact hT' | exact rd_)) | (show Ar.int _ _ _ _ _; refine ar_ ?_) | (show wrapK _ _ _; refine wk_ ?_) | exact fin_ | fail)
  conv => whnf
  refine vc_loop (α := Nat) 0 (fun i => a.n.toNat - i) (fun i => i ≤ a.n.toNat) [] (fun i => [(3, .row 4 1), (12, .d (.int .i64 a.n.toNat)), (13, .d (.int .i64 i))]) (fun i => [(4, .nest 1 (arr a.n.toNat (copR a a.n.toNat i 0)) none)]) lp_ ?_ ?_
  · (repeat' (conv => whnf) <;> first | exact True.intro | (with_reducible show (_ → _) ∧ (_ → _); refine if_ ?_ ?_ <;> intro h <;> first | exact h.elim | (exfalso; omega) | skip) | (show _ ∧ _; refine an_ ?_) | (show ∃ _, _ ∧ _; refine ex_ ?_) | (show ∃ _ _, _ ∧ _; refine ex2_ ?_) | (show Ar.int _ _ _ _ _; refine ar_ ?_) | (show wrapK _ _ _; refine wk_ ?_) | exact fin_ | fail)
  · intro i hi
    by_cases hlt : i < a.n.toNat
    · (repeat' (conv => whnf) <;> first | exact True.intro | (with_reducible show (_ → _) ∧ (_ → _); refine if_ ?_ ?_ <;> intro h <;> first | exact h.elim | (exfalso; omega) | skip) | (show _ ∧ _; refine an_ ?_) | (show ∃ _, _ ∧ _; refine ex_ ?_) | (show ∃ _ _, _ ∧ _; refine ex2_ ?_) | (show Ar.int _ _ _ _ _; refine ar_ ?_) | (show wrapK _ _ _; refine wk_ ?_) | exact fin_ | fail)
      conv => whnf
      refine vc_loop (α := Nat) 0 (fun j => a.n.toNat - j) (fun j => j ≤ a.n.toNat) [] (fun j => [(3, .row 4 1), (4, .d (.int .i64 i)), (12, .d (.int .i64 a.n.toNat)), (13, .d (.int .i64 i)), (17, .d (.int .i64 a.n.toNat)), (18, .d (.int .i64 j))]) (fun j => [(4, .nest 1 (arr a.n.toNat (copR a a.n.toNat i j)) none)]) lp_ ?_ ?_
      · (repeat' (conv => whnf) <;> first | exact True.intro | (with_reducible show (_ → _) ∧ (_ → _); refine if_ ?_ ?_ <;> intro h <;> first | exact h.elim | (exfalso; omega) | skip) | (show _ ∧ _; refine an_ ?_) | (show ∃ _, _ ∧ _; refine ex_ ?_) | (show ∃ _ _, _ ∧ _; refine ex2_ ?_) | (show Ar.int _ _ _ _ _; refine ar_ ?_) | (show wrapK _ _ _; refine wk_ ?_) | exact fin_ | fail)
      · intro j hj
        by_cases hlt2 : j < a.n.toNat
        · (repeat' (conv => whnf) <;> first | exact True.intro | (with_reducible show (_ → _) ∧ (_ → _); refine if_ ?_ ?_ <;> intro h <;> first | exact h.elim | (exfalso; omega) | skip) | (show _ ∧ _; refine an_ ?_) | (show ∃ _, _ ∧ _; refine ex_ ?_ (by first | with_reducible exact rfl | exact copR_get hlt | exact hU | exact rd_)) | (show ∃ _ _, _ ∧ _; refine ex2_ ?_ (by first | with_reducible exact rfl | exact copR_get hlt | exact hU | exact rd_)) | (show Ar.int _ _ _ _ _; refine ar_ ?_) | (show wrapK _ _ _; refine wk_ ?_) | exact fin_ | fail)
          conv => whnf
          refine ⟨j + 1, by omega, by omega, ?_⟩
          (repeat' (conv => whnf) <;> first | exact True.intro | (with_reducible show (_ → _) ∧ (_ → _); refine if_ ?_ ?_ <;> intro h <;> first | exact h.elim | (exfalso; omega) | skip) | (show _ ∧ _; refine an_ ?_ (by first | exact copR_put (hau i j).symm | exact sd_)) | (show ∃ _, _ ∧ _; refine ex_ ?_) | (show ∃ _ _, _ ∧ _; refine ex2_ ?_) | (show Ar.int _ _ _ _ _; refine ar_ ?_) | (show wrapK _ _ _; refine wk_ ?_) | exact fin_ | fail)
        · have : j = a.n.toNat := by omega
          rw [this, copR_next]
          (repeat' (conv => whnf) <;> first | exact True.intro | (with_reducible show (_ → _) ∧ (_ → _); refine if_ ?_ ?_ <;> intro h <;> first | exact h.elim | (exfalso; omega) | skip) | (show _ ∧ _; refine an_ ?_) | (show ∃ _, _ ∧ _; refine ex_ ?_) | (show ∃ _ _, _ ∧ _; refine ex2_ ?_) | (show Ar.int _ _ _ _ _; refine ar_ ?_) | (show wrapK _ _ _; refine wk_ ?_) | exact fin_ | fail)
          conv => whnf
          refine ⟨i + 1, by omega, by omega, ?_⟩
          (repeat' (conv => whnf) <;> first | exact True.intro | (with_reducible show (_ → _) ∧ (_ → _); refine if_ ?_ ?_ <;> intro h <;> first | exact h.elim | (exfalso; omega) | skip) | (show _ ∧ _; refine an_ ?_) | (show ∃ _, _ ∧ _; refine ex_ ?_) | (show ∃ _ _, _ ∧ _; refine ex2_ ?_) | (show Ar.int _ _ _ _ _; refine ar_ ?_) | (show wrapK _ _ _; refine wk_ ?_) | exact fin_ | fail)
    · have : i = a.n.toNat := by omega
      rw [this]
      (repeat' (conv => whnf) <;> first | exact True.intro | (with_reducible show (_ → _) ∧ (_ → _); refine if_ ?_ ?_ <;> intro h <;> first | exact h.elim | (exfalso; omega) | skip) | (show _ ∧ _; refine an_ ?_) | (show ∃ _, _ ∧ _; refine ex_ ?_ (by first | with_reducible exact rfl | exact hR2 | exact rd_)) | (show ∃ _ _, _ ∧ _; refine ex2_ ?_ (by first | with_reducible exact rfl | exact hR2 | exact rd_)) | (show Ar.int _ _ _ _ _; refine ar_ ?_) | (show wrapK _ _ _; refine wk_ ?_) | exact fin_ | fail)
      conv => whnf
      refine vc_loop (α := Nat) 0 (fun q => R.length - q) (fun q => q ≤ R.length) [] (fun q => [(6, .row 7 1), (41, .d (rowsD (a.n.toNat + a.n.toNat) R)), (42, .d (.int .i64 R.length)), (43, .d (.int .i64 q))]) (fun q => [(7, .data 1 (rowsL a.n.toNat ((R.take q).map fun r j => r (a.n.toNat + j))))]) lp_ ?_ ?_
      · (repeat' (conv => whnf) <;> first | exact True.intro | (with_reducible show (_ → _) ∧ (_ → _); refine if_ ?_ ?_ <;> intro h <;> first | exact h.elim | (exfalso; omega) | skip) | (show _ ∧ _; refine an_ ?_) | (show ∃ _, _ ∧ _; refine ex_ ?_) | (show ∃ _ _, _ ∧ _; refine ex2_ ?_) | (show Ar.int _ _ _ _ _; refine ar_ ?_) | (show wrapK _ _ _; refine wk_ ?_) | exact fin_ | fail)
      · intro q hq
        by_cases hlt3 : q < R.length
        · have hrow := row_half2 (n := a.n.toNat) (r := R.getD q Z)
          have e1 : R.take (q + 1) = R.take q ++ [R.getD q Z] := by rw [List.take_add_one]; simp [hlt3]
          (repeat' (conv => whnf) <;> first | exact True.intro | (with_reducible show (_ → _) ∧ (_ → _); refine if_ ?_ ?_ <;> intro h <;> first | exact h.elim | (exfalso; omega) | skip) | (show _ ∧ _; refine an_ ?_) | (show ∃ _, _ ∧ _; refine ex_ ?_ (by first | with_reducible exact rfl | exact hN' | exact rd_)) | (show ∃ _ _, _ ∧ _; refine ex2_ ?_ (by first | with_reducible exact rfl | exact hN' | exact rd_)) | (show Ar.int _ _ _ _ _; refine ar_ ?_) | (show wrapK _ _ _; refine wk_ ?_) | exact fin_ | fail)
          conv => whnf
          refine ⟨q + 1, by omega, by omega, ?_⟩
          rw [e1]
          (repeat' (conv => whnf) <;> first | exact True.intro | (with_reducible show (_ → _) ∧ (_ → _); refine if_ ?_ ?_ <;> intro h <;> first | exact h.elim | (exfalso; omega) | skip) | (show _ ∧ _; refine an_ ?_ (by first | exact rows_half hrow | exact sd_)) | (show ∃ _, _ ∧ _; refine ex_ ?_) | (show ∃ _ _, _ ∧ _; refine ex2_ ?_) | (show Ar.int _ _ _ _ _; refine ar_ ?_) | (show wrapK _ _ _; refine wk_ ?_) | exact fin_ | fail)
        · have : q = R.length := by omega
          rw [this, List.take_length]
          (repeat' (conv => whnf) <;> first | exact True.intro | (with_reducible show (_ → _) ∧ (_ → _); refine if_ ?_ ?_ <;> intro h <;> first | exact h.elim | (exfalso; omega) | skip) | (show _ ∧ _; refine an_ ?_) | (show ∃ _, _ ∧ _; refine ex_ ?_) | (show ∃ _ _, _ ∧ _; refine ex2_ ?_) | (show Ar.int _ _ _ _ _; refine ar_ ?_) | (show wrapK _ _ _; refine wk_ ?_) | exact fin_ | fail)
end Go.X
