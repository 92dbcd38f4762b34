import Derived.Test.YtckpoeaagbmlbaaGreatK1
set_option linter.all false
namespace Go.X
open Go Go.RowKit
set_option maxRecDepth 100000
set_option maxHeartbeats 8000000
set_option linter.unusedSimpArgs false
set_option linter.unusedVariables false
variable {P : Program} {N : FN}
def sC (a : Alg) (j q r : Nat) : Row := fun c => if c < j ∨ c = j ∧ r < q then sCop a r c else 0
def tb (a : Alg) (j i r : Nat) : List (List D) := if r < i then row (a.n.toNat + 1) (sAug a j r) else row a.n.toNat (tabR a r)
theorem tb_get {a : Alg} {j i c : Nat} (h : i < c) : (arr c (tb a j i))[((i : Nat) : Int).toNat]? = some (row a.n.toNat (tabR a i)) := by
  rw [Int.toNat_natCast, arr_get h]; unfold tb; rw [if_neg (by omega)]
theorem tb_put {a : Alg} {j i c : Nat} {x : Int} (hx : x = if i = j then 1 else 0) :
    Chunk.nest 1 ((arr c (tb a j i)).set ((i : Nat) : Int).toNat (row a.n.toNat (tabR a i) ++ [[.int .i64 x]])) none = .nest 1 (arr c (tb a j (i + 1))) none := by
  subst hx
  rw [Int.toNat_natCast, arr_set]
  congr 1
  refine arr_ext fun r hr => ?_
  unfold upd tb
  by_cases e : r = i
  · subst e
    have e1 : row a.n.toNat (tabR a r) = row a.n.toNat (sAug a j r) := row_ext fun q hq => by unfold sAug; rw [if_pos hq]
    have e2 : sAug a j r a.n.toNat = if r = j then 1 else 0 := by unfold sAug; rw [if_neg (by omega)]
    rw [if_pos rfl, if_pos (show r < r + 1 by omega), e1, ← e2]
    exact (arr_succ ..).symm
  · rw [if_neg e]
    by_cases h : r < i
    · rw [if_pos h, if_pos (by omega)]
    · rw [if_neg h, if_neg (by omega)]
theorem tb_end {a : Alg} {j : Nat} : nestD 1 (arr a.n.toNat (tb a j a.n.toNat)) = rowsL (a.n.toNat + 1) (arr a.n.toNat (sAug a j)) := by
  unfold nestD rowsL
  rw [arr_map, arr_map]
  refine arr_ext fun r hr => ?_
  unfold tb; rw [if_pos hr]
theorem tb_zero {a : Alg} {j : Nat} : (arr a.n.toNat fun i => row a.n.toNat (tabR a i)) = arr a.n.toNat (tb a j 0) := arr_ext fun r _ => by
  unfold tb; rw [if_neg (by omega)]
def sCr (a : Alg) (j q r : Nat) : List (List D) := row a.n.toNat (sC a j q r)
theorem sC_get {a : Alg} {j q c : Nat} (h : q < c) : (arr c (sCr a j q))[((q : Nat) : Int).toNat]? = some (row a.n.toNat (sC a j q q)) := by
  rw [Int.toNat_natCast, arr_get h]; rfl
theorem sC_put {a : Alg} {j q c : Nat} {x : Int} (hx : x = sCop a q j) :
    Chunk.nest 1 ((arr c (sCr a j q)).set ((q : Nat) : Int).toNat ((row a.n.toNat (sC a j q q)).set ((j : Nat) : Int).toNat (([.int .i64 (sC a j q q j)] : List D).set 0 (.int .i64 x)))) none = .nest 1 (arr c (sCr a j (q + 1))) none := by
  subst hx
  rw [Int.toNat_natCast, arr_set]
  congr 1
  refine arr_ext fun r hr => ?_
  unfold upd
  by_cases e : r = q
  · subst e
    rw [if_pos rfl]
    have := row_set (m := a.n.toNat) (i := j) (z := 1) (f := sC a j r r) (g := sC a j (r + 1) r) (x := sCop a r j) (fun c _ => by
      unfold sC
      by_cases h : c = j
      · subst h; rw [if_pos rfl, if_pos (by omega)]
      · rw [if_neg h]
        by_cases h2 : c < j
        · rw [if_pos (.inl h2), if_pos (.inl h2)]
        · rw [if_neg (by omega), if_neg (by omega)])
    simp only [Chunk.data.injEq, true_and] at this
    exact this
  · rw [if_neg e]
    refine row_ext fun c _ => ?_
    unfold sC
    by_cases h : c < j ∨ c = j ∧ r < q
    · rw [if_pos h, if_pos (by omega)]
    · rw [if_neg h, if_neg (by omega)]
theorem sC_next {a : Alg} {j : Nat} : arr a.n.toNat (sCr a j a.n.toNat) = arr a.n.toNat (sCr a (j + 1) 0) := arr_ext fun r hr => row_ext fun c _ => by
  unfold sC
  by_cases h : c < j ∨ c = j ∧ r < a.n.toNat
  · rw [if_pos h, if_pos (by omega)]
  · rw [if_neg h, if_neg (by omega)]
theorem sC_zero {a : Alg} {n : Nat} : (arr n fun _ => row a.n.toNat Z) = arr n (sCr a 0 0) := arr_ext fun r _ => row_ext fun c _ => by
  unfold sC; rw [if_neg (by omega)]; rfl
theorem sC_end {a : Alg} : nestD 1 (arr a.n.toNat (sCr a a.n.toNat 0)) = rowsL a.n.toNat (arr a.n.toNat (sCop a)) := by
  unfold nestD rowsL
  rw [arr_map, arr_map]
  refine arr_ext fun r hr => ?_
  have : sCr a a.n.toNat 0 r = row a.n.toNat (sCop a r) := row_ext fun c hc => by unfold sC; rw [if_pos (.inl hc)]
  rw [this]
theorem nest_zero {n i : Nat} : Chunk.nest 1 ((arr i (fun _ => row n Z) ++ [([] : List (List D))]).set (arr i (fun _ => row n Z)).length (List.replicate ((n : Nat) : Int).toNat ([.int .i64 0] : List D))) none = .nest 1 (arr (i + 1) fun _ => row n Z) none := by
  rw [List.set_append_right _ _ (Nat.le_refl _), Nat.sub_self, arr_succ, Int.toNat_natCast]
  congr 2
  show [List.replicate n ([.int .i64 0] : List D)] = _
  rw [arr_replicate]; rfl
theorem c_sCop (hT : C_sTableN P N) (hS : C_sSolve P N) (hf : isFn P N.spec_l02Copairing (ir2_spec_l02Copairing N) = true) : C_sCop P N := by
  intro a ha hcol
  have hn := ha.n
  have hp2 := prime_bd ha.p
  have hT' := fun j => (tb_zero (a := a) (j := j)) ▸ hT ha
  have hS' : ∀ j, j < a.n.toNat → Can P N.spec_l01Solve [.int .i64 a.p, .lst 1 (nestD 1 (arr a.n.toNat (tb a j a.n.toNat)))] (.tup [rowD a.n.toNat ((sCol a j).getD Z), .bool true]) := fun j hj => by
    have hR : RwL a.p (arr a.n.toNat (sAug a j)) := fun r hr => by
      simp only [arr, List.mem_map] at hr
      obtain ⟨i', _, rfl⟩ := hr
      intro q
      unfold sAug
      split
      · exact tabR_rw ha i' q
      · split <;> omega
    have h := hS (n := a.n.toNat) (L := arr a.n.toNat (sAug a j)) (by omega) (by rw [arr_len]; omega) ha.p hR
    rw [tb_end]
    have hc := hcol j hj
    have e : sSolveF a.p a.n.toNat (arr a.n.toNat (sAug a j)) = sCol a j := rfl
    rw [e] at h
    cases hs : sCol a j with
    | none => rw [hs] at hc; cases hc
    | some r => rw [hs] at h; exact h
  refine can_of hf rfl rfl ?_
  (repeat' (conv => whnf) <;> first | exact True.intro | (refine if_ ?_ ?_ <;> intro h <;> first | exact h.elim | (exfalso; omega) | skip) | refine vs_ ?_ | refine dv_ ?_ | exact fin_ | (show ∃ _, _ ∧ _; refine ex_ ?_) | (show ∃ _ _, _ ∧ _; refine ex2_ ?_) | fail)
  conv => whnf
  refine vc_loop (α := Nat) 0 (fun i => a.n.toNat - i) (fun i => i ≤ a.n.toNat) [] (fun i => [(4, .row 5 1), (5, .d (.int .i64 i))]) (fun i => [(5, .nest 1 (arr i fun _ => row a.n.toNat Z) none)]) lp_ ?_ ?_
  · (repeat' (conv => whnf) <;> first | exact True.intro | (refine if_ ?_ ?_ <;> intro h <;> first | exact h.elim | (exfalso; omega) | skip) | refine vs_ ?_ | refine dv_ ?_ | exact fin_ | (show ∃ _, _ ∧ _; refine ex_ ?_) | (show ∃ _ _, _ ∧ _; refine ex2_ ?_) | fail)
  · intro i hi
    by_cases hlt : i < a.n.toNat
    · (repeat' (conv => whnf) <;> first | exact True.intro | (refine if_ ?_ ?_ <;> intro h <;> first | exact h.elim | (exfalso; omega) | skip) | refine vs_ ?_ | refine dv_ ?_ | exact fin_ | (show ∃ _, _ ∧ _; refine ex_ ?_) | (show ∃ _ _, _ ∧ _; refine ex2_ ?_) | fail)
      conv => whnf
      refine ⟨i + 1, by omega, by omega, ?_⟩
      (repeat' (conv => whnf) <;> first | exact True.intro | (refine if_ ?_ ?_ <;> intro h <;> first | exact h.elim | (exfalso; omega) | skip) | refine vs_ ?_ (by first | exact nest_zero | exact sd_) | refine dv_ ?_ | exact fin_ | (show ∃ _, _ ∧ _; refine ex_ ?_) | (show ∃ _ _, _ ∧ _; refine ex2_ ?_) | fail)
    · have : i = a.n.toNat := by omega
      rw [this, sC_zero]
      (repeat' (conv => whnf) <;> first | exact True.intro | (refine if_ ?_ ?_ <;> intro h <;> first | exact h.elim | (exfalso; omega) | skip) | refine vs_ ?_ | refine dv_ ?_ | exact fin_ | (show ∃ _, _ ∧ _; refine ex_ ?_) | (show ∃ _ _, _ ∧ _; refine ex2_ ?_) | fail)
      conv => whnf
      refine vc_loop (α := Nat) 0 (fun j => a.n.toNat - j) (fun j => j ≤ a.n.toNat) [] (fun j => [(4, .row 5 1), (6, .d (.int .i64 j))]) (fun j => [(5, .nest 1 (arr a.n.toNat (sCr a j 0)) none)]) lp_ ?_ ?_
      · (repeat' (conv => whnf) <;> first | exact True.intro | (refine if_ ?_ ?_ <;> intro h <;> first | exact h.elim | (exfalso; omega) | skip) | refine vs_ ?_ | refine dv_ ?_ | exact fin_ | (show ∃ _, _ ∧ _; refine ex_ ?_) | (show ∃ _ _, _ ∧ _; refine ex2_ ?_) | fail)
      · intro j hj
        by_cases hlt2 : j < a.n.toNat
        · (repeat' (conv => whnf) <;> first | exact True.intro | (refine if_ ?_ ?_ <;> intro h <;> first | exact h.elim | (exfalso; omega) | skip) | refine vs_ ?_ | refine dv_ ?_ | exact fin_ | (show ∃ _, _ ∧ _; refine ex_ ?_ (by first | with_reducible exact rfl | exact hT' j | exact rd_)) | (show ∃ _ _, _ ∧ _; refine ex2_ ?_ (by first | with_reducible exact rfl | exact hT' j | exact rd_)) | fail)
          conv => whnf
          refine vc_loop (α := Nat) 0 (fun i => a.n.toNat - i) (fun i => i ≤ a.n.toNat) [] (fun i => [(4, .row 5 1), (6, .d (.int .i64 j)), (7, .row 8 1), (8, .d (.int .i64 i))]) (fun i => [(5, .nest 1 (arr a.n.toNat (sCr a j 0)) none), (8, .nest 1 (arr a.n.toNat (tb a j i)) none)]) lp_ ?_ ?_
          · (repeat' (conv => whnf) <;> first | exact True.intro | (refine if_ ?_ ?_ <;> intro h <;> first | exact h.elim | (exfalso; omega) | skip) | refine vs_ ?_ | refine dv_ ?_ | exact fin_ | (show ∃ _, _ ∧ _; refine ex_ ?_) | (show ∃ _ _, _ ∧ _; refine ex2_ ?_) | fail)
          · intro i hi
            by_cases hlt3 : i < a.n.toNat
            · by_cases hij : i = j
              · (repeat' (conv => whnf) <;> first | exact True.intro | (refine if_ ?_ ?_ <;> intro h <;> first | exact h.elim | (exfalso; omega) | skip) | refine vs_ ?_ | refine dv_ ?_ | exact fin_ | (show ∃ _, _ ∧ _; refine ex_ ?_ (by first | with_reducible exact rfl | exact tb_get hlt3 | exact rd_)) | (show ∃ _ _, _ ∧ _; refine ex2_ ?_ (by first | with_reducible exact rfl | exact tb_get hlt3 | exact rd_)) | fail)
                all_goals (conv => whnf)
                all_goals (refine ⟨i + 1, by omega, by omega, ?_⟩)
                (repeat' (conv => whnf) <;> first | exact True.intro | (refine if_ ?_ ?_ <;> intro h <;> first | exact h.elim | (exfalso; omega) | skip) | refine vs_ ?_ (by first | exact tb_put (by rw [if_pos hij]) | exact sd_) | refine dv_ ?_ | exact fin_ | (show ∃ _, _ ∧ _; refine ex_ ?_) | (show ∃ _ _, _ ∧ _; refine ex2_ ?_) | fail)
              · (repeat' (conv => whnf) <;> first | exact True.intro | (refine if_ ?_ ?_ <;> intro h <;> first | exact h.elim | (exfalso; omega) | skip) | refine vs_ ?_ | refine dv_ ?_ | exact fin_ | (show ∃ _, _ ∧ _; refine ex_ ?_ (by first | with_reducible exact rfl | exact tb_get hlt3 | exact rd_)) | (show ∃ _ _, _ ∧ _; refine ex2_ ?_ (by first | with_reducible exact rfl | exact tb_get hlt3 | exact rd_)) | fail)
                all_goals (conv => whnf)
                all_goals (refine ⟨i + 1, by omega, by omega, ?_⟩)
                (repeat' (conv => whnf) <;> first | exact True.intro | (refine if_ ?_ ?_ <;> intro h <;> first | exact h.elim | (exfalso; omega) | skip) | refine vs_ ?_ (by first | exact tb_put (by rw [if_neg hij]) | exact sd_) | refine dv_ ?_ | exact fin_ | (show ∃ _, _ ∧ _; refine ex_ ?_) | (show ∃ _ _, _ ∧ _; refine ex2_ ?_) | fail)
            · have : i = a.n.toNat := by omega
              rw [this]
              (repeat' (conv => whnf) <;> first | exact True.intro | (refine if_ ?_ ?_ <;> intro h <;> first | exact h.elim | (exfalso; omega) | skip) | refine vs_ ?_ | refine dv_ ?_ | exact fin_ | (show ∃ _, _ ∧ _; refine ex_ ?_ (by first | with_reducible exact rfl | exact hS' j hlt2 | exact rd_)) | (show ∃ _ _, _ ∧ _; refine ex2_ ?_ (by first | with_reducible exact rfl | exact hS' j hlt2 | exact rd_)) | fail)
              conv => whnf
              refine vc_loop (α := Nat) 0 (fun q => a.n.toNat - q) (fun q => q ≤ a.n.toNat) [] (fun q => [(4, .row 5 1), (6, .d (.int .i64 j)), (10, .d (rowD a.n.toNat ((sCol a j).getD Z))), (12, .d (.int .i64 q))]) (fun q => [(5, .nest 1 (arr a.n.toNat (sCr a j q)) none)]) lp_ ?_ ?_
              · (repeat' (conv => whnf) <;> first | exact True.intro | (refine if_ ?_ ?_ <;> intro h <;> first | exact h.elim | (exfalso; omega) | skip) | refine vs_ ?_ | refine dv_ ?_ | exact fin_ | (show ∃ _, _ ∧ _; refine ex_ ?_) | (show ∃ _ _, _ ∧ _; refine ex2_ ?_) | fail)
              · intro q hq
                by_cases hlt4 : q < a.n.toNat
                · (repeat' (conv => whnf) <;> first | exact True.intro | (refine if_ ?_ ?_ <;> intro h <;> first | exact h.elim | (exfalso; omega) | skip) | refine vs_ ?_ | refine dv_ ?_ | exact fin_ | (show ∃ _, _ ∧ _; refine ex_ ?_ (by first | with_reducible exact rfl | exact sC_get hlt4 | exact rd_)) | (show ∃ _ _, _ ∧ _; refine ex2_ ?_ (by first | with_reducible exact rfl | exact sC_get hlt4 | exact rd_)) | fail)
                  conv => whnf
                  refine ⟨q + 1, by omega, by omega, ?_⟩
                  (repeat' (conv => whnf) <;> first | exact True.intro | (refine if_ ?_ ?_ <;> intro h <;> first | exact h.elim | (exfalso; omega) | skip) | refine vs_ ?_ (by first | exact sC_put rfl | exact sd_) | refine dv_ ?_ | exact fin_ | (show ∃ _, _ ∧ _; refine ex_ ?_) | (show ∃ _ _, _ ∧ _; refine ex2_ ?_) | fail)
                · have : q = a.n.toNat := by omega
                  rw [this, sC_next]
                  (repeat' (conv => whnf) <;> first | exact True.intro | (refine if_ ?_ ?_ <;> intro h <;> first | exact h.elim | (exfalso; omega) | skip) | refine vs_ ?_ | refine dv_ ?_ | exact fin_ | (show ∃ _, _ ∧ _; refine ex_ ?_) | (show ∃ _ _, _ ∧ _; refine ex2_ ?_) | fail)
                  conv => whnf
                  refine ⟨j + 1, by omega, by omega, ?_⟩
                  (repeat' (conv => whnf) <;> first | exact True.intro | (refine if_ ?_ ?_ <;> intro h <;> first | exact h.elim | (exfalso; omega) | skip) | refine vs_ ?_ | refine dv_ ?_ | exact fin_ | (show ∃ _, _ ∧ _; refine ex_ ?_) | (show ∃ _ _, _ ∧ _; refine ex2_ ?_) | fail)
        · have : j = a.n.toNat := by omega
          rw [this]
          (repeat' (conv => whnf) <;> first | exact True.intro | (refine if_ ?_ ?_ <;> intro h <;> first | exact h.elim | (exfalso; omega) | skip) | refine vs_ ?_ | refine dv_ ?_ | exact fin_ | (show ∃ _, _ ∧ _; refine ex_ ?_) | (show ∃ _ _, _ ∧ _; refine ex2_ ?_) | fail)
          conv => whnf
          exact congrArg (D.lst 1) sC_end
end Go.X
