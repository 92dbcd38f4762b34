import Derived.Test.YtehopmcogekcoaaM3
set_option linter.all false
namespace Go.X
open Go Go.RowKit
set_option maxRecDepth 100000
set_option maxHeartbeats 8000000
set_option linter.unusedSimpArgs false
set_option linter.unusedVariables false
variable {P : Program} {N : FN}
def solvR (M : Nat → Nat → Nat → Int) (tg : Nat → Nat → Int) (n i r : Nat) : List (List D) := if r < i then row (n + 1) (fullR M tg n r) else row n (eqR M n r)
theorem solvR_get {M : Nat → Nat → Nat → Int} {tg : Nat → Nat → Int} {n i c : Nat} (h : i < c) : (arr c (solvR M tg n i))[((i : Nat) : Int).toNat]? = some (row n (eqR M n i)) := by
  rw [Int.toNat_natCast, arr_get h]; unfold solvR; rw [if_neg (by omega)]
theorem solvR_put {M : Nat → Nat → Nat → Int} {tg : Nat → Nat → Int} {n i c : Nat} {x : Int} (hx : x = tg (i / n) (i % n)) :
    Chunk.nest 1 ((arr c (solvR M tg n i)).set ((i : Nat) : Int).toNat (row n (eqR M n i) ++ [[.int .i64 x]])) none = .nest 1 (arr c (solvR M tg n (i + 1))) none := by
  subst hx
  rw [Int.toNat_natCast, arr_set]
  congr 1
  refine arr_ext fun r hr => ?_
  unfold upd solvR
  by_cases e : r = i
  · subst e
    rw [if_pos rfl, if_pos (by omega)]
    unfold row
    rw [arr_append]
    refine arr_ext fun j hj => ?_
    unfold fullR eqR
    split <;> rfl
  · rw [if_neg e]
    by_cases h : r < i
    · rw [if_pos h, if_pos (by omega)]
    · rw [if_neg h, if_neg (by omega)]
theorem rd_tg {m q k : Nat} {tg : Nat → Nat → Int} (hq : q < m) (hk : k < 6) : get2 (arr m fun q => vecL (tg q)) ((q : Nat) : Int).toNat (0 + ((k : Nat) : Int).toNat * 1) = some (.int .u8 (tg q k)) := by
  simp only [get2, Int.toNat_natCast, arr_get hq, Option.bind_some, Nat.zero_add, Nat.mul_one]
  exact cel_get hk
theorem nestD_all {M : Nat → Nat → Nat → Int} {tg : Nat → Nat → Int} {n c : Nat} : nestD 1 (arr c (solvR M tg n c)) = rowsL (n + 1) (arr c (fullR M tg n)) := by
  unfold nestD rowsL
  rw [arr_map, arr_map]
  refine arr_ext fun r hr => ?_
  unfold solvR; rw [if_pos hr]
theorem c_solved (hE : C_equations P N) (hN : C_n P N) (hS : C_solve P N) (hV : C_vector P N) (hVE : C_vectorE P N) (hf : isFn P N.impl_Algebra_solved (ir_impl_Algebra_solved N) = true) : C_solved P N := by
  intro sz l e off a m g c d M tg hat ha hm hM htg hmap
  have hn := ha.n
  have hp2 := prime_bd ha.p
  have hN' : Can P N.impl_Algebra_n [.pd sz l e off] (.val (.int .i64 a.n)) := hN hat
  have hE' := hE (sz := sz) hat ha hm (fun q i k => by have := hM q i k; omega) hmap
  have hRL := fullR_rw (c := m * a.n.toNat) (n := a.n.toNat) hM htg
  have hmn2 : m * a.n.toNat ≤ 100 * 6 := Nat.mul_le_mul (by omega) (by omega)
  have hS' := hS (n := a.n.toNat) (L := arr (m * a.n.toNat) (fullR M tg a.n.toNat)) (by omega) (by rw [arr_len]; omega) ha.p hRL
  have hsr : ∀ r, iSolveF a.p a.n.toNat (arr (m * a.n.toNat) (fullR M tg a.n.toNat)) = some r → Rw a.p r := fun r h => iSolve_rw ha.p hRL h
  refine can_of hf rfl (by cases solvedF a.p a.n.toNat m M tg <;> rfl) ?_
  unfold solvedF
  generalize hnn : a.n.toNat = n at *
  have hn' : a.n = (n : Int) := by omega
  rw [hn'] at hN'
  generalize iSolveF a.p n (arr (m * n) (fullR M tg n)) = sol at *
  (repeat' (conv => whnf) <;> first | exact True.intro | (with_reducible show (_ → _) ∧ (_ → _); refine if_ ?_ ?_ <;> intro h <;> first | exact h.elim | (exfalso; omega) | skip) | (show _ ∧ _; refine an_ ?_) | (show ∃ _, _ ∧ _; refine ex_ ?_ (by first | with_reducible exact rfl | exact hE' | exact rd_)) | (show ∃ _ _, _ ∧ _; refine ex2_ ?_ (by first | with_reducible exact rfl | exact hE' | exact rd_)) | (show Ar.int _ _ _ _ _; refine ar_ ?_) | (show wrapK _ _ _; refine wk_ ?_) | exact fin_ | fail)
  conv => whnf
  refine vc_loop (α := Nat) 0 (fun i => m * n - i) (fun i => i ≤ m * n) [] (fun i => [(8, .row 9 1), (16, .d (.int .i64 (m * n : Nat))), (17, .d (.int .i64 i))]) (fun i => [(9, .nest 1 (arr (m * n) (solvR M tg n i)) none)]) lp_ ?_ ?_
  · (repeat' (conv => whnf) <;> first | exact True.intro | (with_reducible show (_ → _) ∧ (_ → _); refine if_ ?_ ?_ <;> intro h <;> first | exact h.elim | (exfalso; omega) | skip) | (show _ ∧ _; refine an_ ?_ (by first | exact congrArg (fun x => Chunk.nest 1 x none) (arr_ext fun r _ => by unfold solvR; rw [if_neg (by omega)]) | exact sd_)) | (show ∃ _, _ ∧ _; refine ex_ ?_) | (show ∃ _ _, _ ∧ _; refine ex2_ ?_) | (show Ar.int _ _ _ _ _; refine ar_ ?_) | (show wrapK _ _ _; refine wk_ ?_) | exact fin_ | fail)
  · intro i hi
    by_cases hlt : i < m * n
    · have hq : i / n < m := (Nat.div_lt_iff_lt_mul (by omega)).2 hlt
      have hk : i % n < n := Nat.mod_lt _ (by omega)
      have htb := htg (i / n) (i % n)
      have hq0 : (0 : Int) ≤ ((i / n : Nat) : Int) := Int.natCast_nonneg _
      have hk0 : (0 : Int) ≤ ((i % n : Nat) : Int) := Int.natCast_nonneg _
      (repeat' (conv => whnf) <;> first | exact True.intro | (with_reducible show (_ → _) ∧ (_ → _); refine if_ ?_ ?_ <;> intro h <;> first | exact h.elim | (exfalso; omega) | skip) | (show _ ∧ _; refine an_ ?_) | (show ∃ _, _ ∧ _; refine ex_ ?_ (by first | with_reducible exact rfl | exact solvR_get hlt | exact hN' | exact rd_tg hq (by omega) | exact rd_)) | (show ∃ _ _, _ ∧ _; refine ex2_ ?_ (by first | with_reducible exact rfl | exact solvR_get hlt | exact hN' | exact rd_tg hq (by omega) | exact rd_)) | (show Ar.int _ _ _ _ _; refine ar_ ?_) | (show wrapK _ _ _; refine wk_ ?_) | exact fin_ | fail)
      conv => whnf
      refine ⟨i + 1, by omega, by omega, ?_⟩
      (repeat' (conv => whnf) <;> first | exact True.intro | (with_reducible show (_ → _) ∧ (_ → _); refine if_ ?_ ?_ <;> intro h <;> first | exact h.elim | (exfalso; omega) | skip) | (show _ ∧ _; refine an_ ?_ (by first | exact solvR_put rfl | exact sd_)) | (show ∃ _, _ ∧ _; refine ex_ ?_) | (show ∃ _ _, _ ∧ _; refine ex2_ ?_) | (show Ar.int _ _ _ _ _; refine ar_ ?_) | (show wrapK _ _ _; refine wk_ ?_) | exact fin_ | fail)
    · have : i = m * n := by omega
      rw [this]
      have hS2 : Can P N.impl_solve [.lst 1 (nestD 1 (arr (m * n) (solvR M tg n (m * n)))), .int .i64 n, .int .i64 a.p] (solD n sol) := by rw [nestD_all]; exact hS'
      cases sol with
      | none => (repeat' (conv => whnf) <;> first | exact True.intro | (with_reducible show (_ → _) ∧ (_ → _); refine if_ ?_ ?_ <;> intro h <;> first | exact h.elim | (exfalso; omega) | skip) | (show _ ∧ _; refine an_ ?_) | (show ∃ _, _ ∧ _; refine ex_ ?_ (by first | with_reducible exact rfl | exact hN' | exact hS2 | exact hVE | exact rd_)) | (show ∃ _ _, _ ∧ _; refine ex2_ ?_ (by first | with_reducible exact rfl | exact hN' | exact hS2 | exact hVE | exact rd_)) | (show Ar.int _ _ _ _ _; refine ar_ ?_) | (show wrapK _ _ _; refine wk_ ?_) | exact fin_ | fail)
      | some r =>
        have hrb : Bd 255 r := fun j => by have := hsr r rfl j; omega
        (repeat' (conv => whnf) <;> first | exact True.intro | (with_reducible show (_ → _) ∧ (_ → _); refine if_ ?_ ?_ <;> intro h <;> first | exact h.elim | (exfalso; omega) | skip) | (show _ ∧ _; refine an_ ?_) | (show ∃ _, _ ∧ _; refine ex_ ?_ (by first | with_reducible exact rfl | exact hN' | exact hS2 | exact hV (by omega) hrb | exact rd_)) | (show ∃ _ _, _ ∧ _; refine ex2_ ?_ (by first | with_reducible exact rfl | exact hN' | exact hS2 | exact hV (by omega) hrb | exact rd_)) | (show Ar.int _ _ _ _ _; refine ar_ ?_) | (show wrapK _ _ _; refine wk_ ?_) | exact fin_ | fail)
end Go.X
