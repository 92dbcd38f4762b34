import Derived.Test.YtphelkciklpakaaM1
set_option linter.all false
namespace Go.X
open Go Go.RowKit
set_option maxRecDepth 100000
set_option maxHeartbeats 8000000
set_option linter.unusedSimpArgs false
set_option linter.unusedVariables false
variable {P : Program} {N : FN}
def solvR (M : Nat → Nat → Nat → Int) (tg : Nat → Nat → Int) (n i r : Nat) : List (List D) := if r < i then row (n + 1) (fullR M tg n r) else row n (eqR M n r)
theorem solvR_get {M : Nat → Nat → Nat → Int} {tg : Nat → Nat → Int} {n i c : Nat} (h : i < c) : (arr c (solvR M tg n i))[((i : Nat) : Int).toNat]? = some (row n (eqR M n i)) := by
  rw [Int.toNat_natCast, arr_get h]; unfold solvR; rw [if_neg (by omega)]
theorem solvR_put {M : Nat → Nat → Nat → Int} {tg : Nat → Nat → Int} {n i c : Nat} {x : Int} (hx : x = tg (i / n) (i % n)) :
    Chunk.nest 1 ((arr c (solvR M tg n i)).set ((i : Nat) : Int).toNat (row n (eqR M n i) ++ [[.int .i64 x]])) none = .nest 1 (arr c (solvR M tg n (i + 1))) none := by
  subst hx
  rw [Int.toNat_natCast, arr_set]
  congr 1
  refine arr_ext fun r hr => ?_
  unfold upd solvR
  by_cases e : r = i
  · subst e
    rw [if_pos rfl, if_pos (by omega)]
    unfold row
    rw [arr_append]
    refine arr_ext fun j hj => ?_
    unfold fullR eqR
    split <;> rfl
  · rw [if_neg e]
    by_cases h : r < i
    · rw [if_pos h, if_pos (by omega)]
    · rw [if_neg h, if_neg (by omega)]
theorem rd_tg {m q k : Nat} {tg : Nat → Nat → Int} (hq : q < m) (hk : k < 6) : get2 (arr m fun q => vecL (tg q)) ((q : Nat) : Int).toNat (0 + ((k : Nat) : Int).toNat * 1) = some (.int .u8 (tg q k)) := by
  simp only [get2, Int.toNat_natCast, arr_get hq, Option.bind_some, Nat.zero_add, Nat.mul_one]
  exact cel_get hk
theorem nestD_all {M : Nat → Nat → Nat → Int} {tg : Nat → Nat → Int} {n c : Nat} : nestD 1 (arr c (solvR M tg n c)) = rowsL (n + 1) (arr c (fullR M tg n)) := by
  unfold nestD rowsL
  rw [arr_map, arr_map]
  refine arr_ext fun r hr => ?_
  unfold solvR; rw [if_pos hr]
theorem c_solved (hE : C_equations P N) (hN : C_n P N) (hS : C_solve P N) (hV : C_vector P N) (hVE : C_vectorE P N) (hf : isFn P N.impl_Algebra_solved (ir_impl_Algebra_solved N) = true) : C_solved P N := by
  intro sz l e off a m g c d M tg hat ha hm hM htg hmap
  have hn := ha.n
  have hp2 := prime_bd ha.p
  have hN' : Can P N.impl_Algebra_n [.pd sz l e off] (.val (.int .i64 a.n)) := hN hat
  have hE' := hE (sz := sz) hat ha hm (fun q i k => by have := hM q i k; omega) hmap
  have hRL := fullR_rw (c := m * a.n.toNat) (n := a.n.toNat) hM htg
  have hmn2 : m * a.n.toNat ≤ 100 * 6 := Nat.mul_le_mul (by omega) (by omega)
  have hS' := hS (n := a.n.toNat) (L := arr (m * a.n.toNat) (fullR M tg a.n.toNat)) (by omega) (by rw [arr_len]; omega) ha.p hRL
  have hsr : ∀ r, iSolveF a.p a.n.toNat (arr (m * a.n.toNat) (fullR M tg a.n.toNat)) = some r → Rw a.p r := fun r h => iSolve_rw ha.p hRL h
  refine can_of hf rfl (by cases solvedF a.p a.n.toNat m M tg <;> rfl) ?_
  unfold solvedF
  generalize hnn : a.n.toNat = n at *
  have hn' : a.n = (n : Int) := by omega
  rw [hn'] at hN'
  generalize iSolveF a.p n (arr (m * n) (fullR M tg n)) = sol at *
  (repeat' (conv => whnf)<;>first|exact True.intro|(refine if_ ?_ ?_<;>intro h<;>first|exact h.elim|(exfalso; omega)|skip)|refine vs_ ?_|refine dv_ ?_|exact fin_|(show ∃ _, _ ∧ _; refine ex_ ?_ (by first|with_reducible exact rfl|exact hE'|exact rd_))|(show ∃ _ _, _ ∧ _; refine ex2_ ?_ (by first|with_reducible exact rfl|exact hE'|exact rd_)))
  conv => whnf
  refine vc_loop (α := Nat) 0 (fun i => m * n - i) (fun i => i ≤ m * n) [] (fun i => [(8, .row 9 1), (16, .d (.int .i64 (m * n : Nat))), (17, .d (.int .i64 i))]) (fun i => [(9, .nest 1 (arr (m * n) (solvR M tg n i)) none)]) lp_ ?_ ?_
  · (repeat' (conv => whnf)<;>first|exact True.intro|(refine if_ ?_ ?_<;>intro h<;>first|exact h.elim|(exfalso; omega)|skip)|refine vs_ ?_ (by first|exact congrArg (fun x => Chunk.nest 1 x none) (arr_ext fun r _ => by unfold solvR; rw [if_neg (by omega)])|exact sd_)|refine dv_ ?_|exact fin_|(show ∃ _, _ ∧ _; refine ex_ ?_)|(show ∃ _ _, _ ∧ _; refine ex2_ ?_))
  · intro i hi
    by_cases hlt : i < m * n
    · have hq : i / n < m := (Nat.div_lt_iff_lt_mul (by omega)).2 hlt
      have hk : i % n < n := Nat.mod_lt _ (by omega)
      have htb := htg (i / n) (i % n)
      have hq0 : (0 : Int) ≤ ((i / n : Nat) : Int) := Int.natCast_nonneg _
      have hk0 : (0 : Int) ≤ ((i % n : Nat) : Int) := Int.natCast_nonneg _
      (repeat' (conv => whnf)<;>first|exact True.intro|(refine if_ ?_ ?_<;>intro h<;>first|exact h.elim|(exfalso; omega)|skip)|refine vs_ ?_|refine dv_ ?_|exact fin_|(show ∃ _, _ ∧ _; refine ex_ ?_ (by first|with_reducible exact rfl|exact solvR_get hlt|exact hN'|exact rd_tg hq (by omega)|exact rd_))|(show ∃ _ _, _ ∧ _; refine ex2_ ?_ (by first|with_reducible exact rfl|exact solvR_get hlt|exact hN'|exact rd_tg hq (by omega)|exact rd_)))
      conv => whnf
      refine ⟨i + 1, by omega, by omega, ?_⟩
      (repeat' (conv => whnf)<;>first|exact True.intro|(refine if_ ?_ ?_<;>intro h<;>first|exact h.elim|(exfalso; omega)|skip)|refine vs_ ?_ (by first|exact solvR_put rfl|exact sd_)|refine dv_ ?_|exact fin_|(show ∃ _, _ ∧ _; refine ex_ ?_)|(show ∃ _ _, _ ∧ _; refine ex2_ ?_))
    · have : i = m * n := by omega
      rw [this]
      have hS2 : Can P N.impl_solve [.lst 1 (nestD 1 (arr (m * n) (solvR M tg n (m * n)))), .int .i64 n, .int .i64 a.p] (solD n sol) := by rw [nestD_all]; exact hS'
      cases sol with
      | none => (repeat' (conv => whnf)<;>first|exact True.intro|(refine if_ ?_ ?_<;>intro h<;>first|exact h.elim|(exfalso; omega)|skip)|refine vs_ ?_|refine dv_ ?_|exact fin_|(show ∃ _, _ ∧ _; refine ex_ ?_ (by first|with_reducible exact rfl|exact hN'|exact hS2|exact hVE|exact rd_))|(show ∃ _ _, _ ∧ _; refine ex2_ ?_ (by first|with_reducible exact rfl|exact hN'|exact hS2|exact hVE|exact rd_)))
      | some r =>
        have hrb : Bd 255 r := fun j => by have := hsr r rfl j; omega
        (repeat' (conv => whnf)<;>first|exact True.intro|(refine if_ ?_ ?_<;>intro h<;>first|exact h.elim|(exfalso; omega)|skip)|refine vs_ ?_|refine dv_ ?_|exact fin_|(show ∃ _, _ ∧ _; refine ex_ ?_ (by first|with_reducible exact rfl|exact hN'|exact hS2|exact hV (by omega) hrb|exact rd_))|(show ∃ _ _, _ ∧ _; refine ex2_ ?_ (by first|with_reducible exact rfl|exact hN'|exact hS2|exact hV (by omega) hrb|exact rd_)))
end Go.X
namespace Go.X
open Go Go.RowKit
set_option maxRecDepth 100000
set_option maxHeartbeats 8000000
set_option linter.unusedSimpArgs false
set_option linter.unusedVariables false
variable {P : Program} {N : FN}
def uG (N : FN) (q : Nat) : FuncId := if q % 2 = 0 then N.impl_Algebra_behind_1 else N.impl_Algebra_ahead_1
theorem maps_two {N : FN} {sz : Nat} {l : List (List D)} {e off i z : Nat} : Chunk.data z (mapsL (2 * i) (uG N) (fun _ => .pd 1 [[.pd sz l e off]] 0 0) (fun q => .pd 6 [vecL (uT q)] 0 0) ++ [[fnBehind N sz l e off (basV i)], [fnAhead N sz l e off (basV i)]]) =
    .data z (mapsL (2 * (i + 1)) (uG N) (fun _ => .pd 1 [[.pd sz l e off]] 0 0) (fun q => .pd 6 [vecL (uT q)] 0 0)) := by
  unfold mapsL
  rw [show 2 * (i + 1) = 2 * i + 1 + 1 by omega, arr_succ, arr_succ, List.append_assoc]
  congr 2
  simp only [uG, uT, List.singleton_append]
  rw [if_pos (by omega), if_neg (by omega), show 2 * i / 2 = i by omega, show (2 * i + 1) / 2 = i by omega]
  rfl
theorem vecs_two {i z : Nat} : Chunk.data z ((arr (2 * i) fun q => vecL (uT q)) ++ [vecL (basV i), vecL (basV i)]) = .data z (arr (2 * (i + 1)) fun q => vecL (uT q)) := by
  rw [show 2 * (i + 1) = 2 * i + 1 + 1 by omega, arr_succ, arr_succ, List.append_assoc]
  congr 2
  simp only [uT, List.singleton_append]
  rw [show 2 * i / 2 = i by omega, show (2 * i + 1) / 2 = i by omega]
theorem c_findUnit (hN : C_n P N) (hB : C_basis P N) (hb : C_behind P N) (hh : C_ahead P N) (hb1 : C_behind1 P N) (hh1 : C_ahead1 P N) (hS : C_solved P N) (hf : isFn P N.impl_Algebra_findUnit (ir_impl_Algebra_findUnit N) = true) : C_findUnit P N := by
  intro sz l e off a hat ha
  have hn := ha.n
  have hp2 := prime_bd ha.p
  have hN' : Can P N.impl_Algebra_n [.pd sz l e off] (.val (.int .i64 a.n)) := hN hat
  have hS' := hS (sz := sz) (m := 2 * a.n.toNat) (g := uG N) (c := fun _ => .pd 1 [[.pd sz l e off]] 0 0) (d := fun q => .pd 6 [vecL (uT q)] 0 0) (M := uM a) (tg := uT) hat ha (by omega) (fun q i k => by
      unfold uM
      split
      · exact times_rw (by omega) _ _ k
      · exact times_rw (by omega) _ _ k) (fun q k => by unfold uT basV; split <;> omega) (fun q i hq hi => by
      unfold uG uM uT
      split
      · exact hb1 hat ha (basV_byt i) (basV_byt _)
      · exact hh1 hat ha (basV_byt i) (basV_byt _))
  refine can_of hf rfl (by cases iFindF a <;> rfl) ?_
  unfold iFindF
  generalize solvedF a.p a.n.toNat (2 * a.n.toNat) (uM a) uT = sol at *
  (repeat' (conv => whnf)<;>first|exact True.intro|(refine if_ ?_ ?_<;>intro h<;>first|exact h.elim|(exfalso; omega)|skip)|refine vs_ ?_|refine dv_ ?_|exact fin_|(show ∃ _, _ ∧ _; refine ex_ ?_ (by first|with_reducible exact rfl|exact hN'|exact rd_))|(show ∃ _ _, _ ∧ _; refine ex2_ ?_ (by first|with_reducible exact rfl|exact hN'|exact rd_)))
  conv => whnf
  refine vc_loop (α := Nat) 0 (fun i => a.n.toNat - i) (fun i => i ≤ a.n.toNat) [] (fun i => [(4, .row 5 1), (5, .row 6 6), (10, .d (.int .i64 a.n)), (11, .d (.int .i64 i))]) (fun i => [(5, .data 1 (mapsL (2 * i) (uG N) (fun _ => .pd 1 [[.pd sz l e off]] 0 0) (fun q => .pd 6 [vecL (uT q)] 0 0))), (6, .data 6 (arr (2 * i) fun q => vecL (uT q)))]) lp_ ?_ ?_
  · (repeat' (conv => whnf)<;>first|exact True.intro|(refine if_ ?_ ?_<;>intro h<;>first|exact h.elim|(exfalso; omega)|skip)|refine vs_ ?_|refine dv_ ?_|exact fin_|(show ∃ _, _ ∧ _; refine ex_ ?_)|(show ∃ _ _, _ ∧ _; refine ex2_ ?_))
  · intro i hi
    have hml : (mapsL (2 * i) (uG N) (fun _ => .pd 1 [[.pd sz l e off]] 0 0) (fun q => .pd 6 [vecL (uT q)] 0 0)).length = 2 * i := arr_len ..
    by_cases hlt : i < a.n.toNat
    · (repeat' (conv => whnf)<;>first|exact True.intro|(refine if_ ?_ ?_<;>intro h<;>first|exact h.elim|(exfalso; omega)|skip)|refine vs_ ?_ (by first|exact ⟨by (simp only [List.length_cons, List.length_nil, hml, maxRow]; omega), by decide, by decide⟩ | exact maps_two | exact vecs_two|exact sd_)|refine dv_ ?_|exact fin_|(show ∃ _, _ ∧ _; refine ex_ ?_ (by first|with_reducible exact rfl|exact hB (by omega)|exact hb|exact hh|exact rd_))|(show ∃ _ _, _ ∧ _; refine ex2_ ?_ (by first|with_reducible exact rfl|exact hB (by omega)|exact hb|exact hh|exact rd_)))
      conv => whnf
      refine ⟨i + 1, by omega, by omega, ?_⟩
      (repeat' (conv => whnf)<;>first|exact True.intro|(refine if_ ?_ ?_<;>intro h<;>first|exact h.elim|(exfalso; omega)|skip)|refine vs_ ?_ (by first|exact maps_two | exact vecs_two|exact sd_)|refine dv_ ?_|exact fin_|(show ∃ _, _ ∧ _; refine ex_ ?_)|(show ∃ _ _, _ ∧ _; refine ex2_ ?_))
    · have : i = a.n.toNat := by omega
      rw [this]
      cases sol with
      | none => (repeat' (conv => whnf)<;>first|exact True.intro|(refine if_ ?_ ?_<;>intro h<;>first|exact h.elim|(exfalso; omega)|skip)|refine vs_ ?_|refine dv_ ?_|exact fin_|(show ∃ _, _ ∧ _; refine ex_ ?_ (by first|with_reducible exact rfl|exact hS'|exact rd_))|(show ∃ _ _, _ ∧ _; refine ex2_ ?_ (by first|with_reducible exact rfl|exact hS'|exact rd_)))
      | some r => (repeat' (conv => whnf)<;>first|exact True.intro|(refine if_ ?_ ?_<;>intro h<;>first|exact h.elim|(exfalso; omega)|skip)|refine vs_ ?_|refine dv_ ?_|exact fin_|(show ∃ _, _ ∧ _; refine ex_ ?_ (by first|with_reducible exact rfl|exact hS'|exact rd_))|(show ∃ _ _, _ ∧ _; refine ex2_ ?_ (by first|with_reducible exact rfl|exact hS'|exact rd_)))
theorem c_unit (hF : C_findUnit P N) (hf : isFn P N.impl_Algebra_unit (ir_impl_Algebra_unit N) = true) : C_unit P N := by
  intro sz l e off a hat ha
  have hF' := hF (sz := sz) hat ha
  cases hu : iFindF a with
  | none =>
    rw [hu] at hF'
    refine can_of hf rfl rfl ?_
    (repeat' (conv => whnf)<;>first|exact True.intro|(refine if_ ?_ ?_<;>intro h<;>first|exact h.elim|(exfalso; omega)|skip)|refine vs_ ?_|refine dv_ ?_|exact fin_|(show ∃ _, _ ∧ _; refine ex_ ?_ (by first|with_reducible exact rfl|exact hF'|exact rd_))|(show ∃ _ _, _ ∧ _; refine ex2_ ?_ (by first|with_reducible exact rfl|exact hF'|exact rd_)))
  | some u =>
    rw [hu] at hF'
    refine can_of hf rfl rfl ?_
    (repeat' (conv => whnf)<;>first|exact True.intro|(refine if_ ?_ ?_<;>intro h<;>first|exact h.elim|(exfalso; omega)|skip)|refine vs_ ?_|refine dv_ ?_|exact fin_|(show ∃ _, _ ∧ _; refine ex_ ?_ (by first|with_reducible exact rfl|exact hF'|exact rd_))|(show ∃ _ _, _ ∧ _; refine ex2_ ?_ (by first|with_reducible exact rfl|exact hF'|exact rd_)))
theorem c_IsAlgebra (hP : C_isPrime P N) (hI : C_in P N) (hT : C_tableOk P N) (hA : C_associative P N) (hF : C_findUnit P N) (hf : isFn P N.impl_IsAlgebra (ir_impl_IsAlgebra N) = true) : C_IsAlgebra P N := by
  intro a hb hok
  have hat := algAt_one a
  refine can_of hf rfl rfl ?_
  by_cases g1 : a.p ∈ primes
  · by_cases g2 : 1 ≤ a.n ∧ a.n ≤ 6
    · have hT' := hT (sz := (algL a).length) hat hb
      by_cases g3 : TabP a
      · have ha := hok g1 g2 g3
        have hA' := hA (sz := (algL a).length) hat ha
        have hF' := hF (sz := (algL a).length) hat ha
        rw [dB_t g3] at hT'
        by_cases g4 : AssocP a
        · rw [dB_t g4] at hA'
          cases hu : iFindF a with
          | none =>
            rw [hu] at hF'
            (repeat' (conv => whnf)<;>first|exact True.intro|(refine if_ ?_ ?_<;>intro h<;>first|exact h.elim|(exfalso; omega)|skip)|refine vs_ ?_|refine dv_ ?_|exact fin_|(show ∃ _, _ ∧ _; refine ex_ ?_ (by first|with_reducible exact rfl|exact hP|exact hI|exact hT'|exact hA'|exact hF'|exact rd_))|(show ∃ _ _, _ ∧ _; refine ex2_ ?_ (by first|with_reducible exact rfl|exact hP|exact hI|exact hT'|exact hA'|exact hF'|exact rd_)))
            all_goals (conv => whnf)
            all_goals exact no (fun h => by have := h.2.2.2.2; rw [hu] at this; cases this)
          | some u =>
            rw [hu] at hF'
            (repeat' (conv => whnf)<;>first|exact True.intro|(refine if_ ?_ ?_<;>intro h<;>first|exact h.elim|(exfalso; omega)|skip)|refine vs_ ?_|refine dv_ ?_|exact fin_|(show ∃ _, _ ∧ _; refine ex_ ?_ (by first|with_reducible exact rfl|exact hP|exact hI|exact hT'|exact hA'|exact hF'|exact rd_))|(show ∃ _ _, _ ∧ _; refine ex2_ ?_ (by first|with_reducible exact rfl|exact hP|exact hI|exact hT'|exact hA'|exact hF'|exact rd_)))
            all_goals (conv => whnf)
            all_goals first | exact yes ⟨g1, g2, g3, g4, by rw [hu]; rfl⟩ | exact absurd g1 ‹_› | exact absurd g2 ‹_›
        · rw [dB_f g4] at hA'
          (repeat' (conv => whnf)<;>first|exact True.intro|(refine if_ ?_ ?_<;>intro h<;>first|exact h.elim|(exfalso; omega)|skip)|refine vs_ ?_|refine dv_ ?_|exact fin_|(show ∃ _, _ ∧ _; refine ex_ ?_ (by first|with_reducible exact rfl|exact hP|exact hI|exact hT'|exact hA'|exact rd_))|(show ∃ _ _, _ ∧ _; refine ex2_ ?_ (by first|with_reducible exact rfl|exact hP|exact hI|exact hT'|exact hA'|exact rd_)))
          all_goals (conv => whnf)
          all_goals exact no (fun h => g4 h.2.2.2.1)
      · rw [dB_f g3] at hT'
        (repeat' (conv => whnf)<;>first|exact True.intro|(refine if_ ?_ ?_<;>intro h<;>first|exact h.elim|(exfalso; omega)|skip)|refine vs_ ?_|refine dv_ ?_|exact fin_|(show ∃ _, _ ∧ _; refine ex_ ?_ (by first|with_reducible exact rfl|exact hP|exact hI|exact hT'|exact rd_))|(show ∃ _ _, _ ∧ _; refine ex2_ ?_ (by first|with_reducible exact rfl|exact hP|exact hI|exact hT'|exact rd_)))
        all_goals (conv => whnf)
        all_goals exact no (fun h => g3 h.2.2.1)
    · (repeat' (conv => whnf)<;>first|exact True.intro|(refine if_ ?_ ?_<;>intro h<;>first|exact h.elim|(exfalso; omega)|skip)|refine vs_ ?_|refine dv_ ?_|exact fin_|(show ∃ _, _ ∧ _; refine ex_ ?_ (by first|with_reducible exact rfl|exact hP|exact hI|exact rd_))|(show ∃ _ _, _ ∧ _; refine ex2_ ?_ (by first|with_reducible exact rfl|exact hP|exact hI|exact rd_)))
      all_goals (conv => whnf)
      all_goals exact no (fun h => g2 h.2.1)
  · (repeat' (conv => whnf)<;>first|exact True.intro|(refine if_ ?_ ?_<;>intro h<;>first|exact h.elim|(exfalso; omega)|skip)|refine vs_ ?_|refine dv_ ?_|exact fin_|(show ∃ _, _ ∧ _; refine ex_ ?_ (by first|with_reducible exact rfl|exact hP|exact hI|exact rd_))|(show ∃ _ _, _ ∧ _; refine ex2_ ?_ (by first|with_reducible exact rfl|exact hP|exact hI|exact rd_)))
    all_goals (conv => whnf)
    all_goals first | exact no (fun h => g1 h.1) | exact absurd ‹_› g1
end Go.X
namespace Go.X
open Go Go.RowKit
set_option maxRecDepth 100000
set_option maxHeartbeats 8000000
set_option linter.unusedSimpArgs false
set_option linter.unusedVariables false
variable {P : Program} {N : FN}
theorem c_IdxVec (hf : isFn P N.slices_IndexFunc_Limpl_Vector_impl_Vector (ir_slices_IndexFunc_Limpl_Vector_impl_Vector N) = true) : C_IdxVec P N := by
  intro m f g c q hm hq
  refine can_of hf rfl rfl ?_
  (repeat' (conv => whnf)<;>first|exact True.intro|(refine if_ ?_ ?_<;>intro h<;>first|exact h.elim|(exfalso; omega)|skip)|refine vs_ ?_|refine dv_ ?_|exact fin_|(show ∃ _, _ ∧ _; refine ex_ ?_)|(show ∃ _ _, _ ∧ _; refine ex2_ ?_))
  conv => whnf
  refine vc_loop (α := Nat) 0 (fun i => m - i) (fun i => i ≤ m ∧ ∀ j, j < i → q j = false) [] (fun i => [(6, .d (.lst 6 (arr m fun i => vecL (f i)))), (7, .d (.int .i64 m)), (8, .d (.int .i64 i))]) (fun i => []) lp_ ?_ ?_
  · (repeat' (conv => whnf)<;>first|exact True.intro|(refine if_ ?_ ?_<;>intro h<;>first|exact h.elim|(exfalso; omega)|skip)|refine vs_ ?_|refine dv_ ?_|exact fin_|(show ∃ _, _ ∧ _; refine ex_ ?_)|(show ∃ _ _, _ ∧ _; refine ex2_ ?_))
  · rintro i ⟨hi, hx⟩
    (repeat' (conv => whnf)<;>first|exact True.intro|(refine if_ ?_ ?_<;>intro h<;>first|exact h.elim|(exfalso; omega)|skip)|refine vs_ ?_|refine dv_ ?_|exact fin_|(show ∃ _, _ ∧ _; refine ex_ ?_ (by first|with_reducible exact rfl|exact rd_vecs (by omega)|exact hq i (by omega)|exact rd_))|(show ∃ _ _, _ ∧ _; refine ex2_ ?_ (by first|with_reducible exact rfl|exact rd_vecs (by omega)|exact hq i (by omega)|exact rd_)))
    · conv => whnf
      exact congrArg (D.int .i64) (idxF_some (by omega) ‹_› hx).symm
    · conv => whnf
      refine ⟨i + 1, ⟨by omega, all_succ hx ‹_›⟩, by omega, ?_⟩
      (repeat' (conv => whnf)<;>first|exact True.intro|(refine if_ ?_ ?_<;>intro h<;>first|exact h.elim|(exfalso; omega)|skip)|refine vs_ ?_|refine dv_ ?_|exact fin_|(show ∃ _, _ ∧ _; refine ex_ ?_)|(show ∃ _ _, _ ∧ _; refine ex2_ ?_))
    · conv => whnf
      exact congrArg (D.int .i64) (idxF_none (fun j hj => hx j (by omega))).symm
theorem c_ContainsVec (hI : C_IdxVec P N) (hf : isFn P N.slices_ContainsFunc_Limpl_Vector_impl_Vector (ir_slices_ContainsFunc_Limpl_Vector_impl_Vector N) = true) : C_ContainsVec P N := by
  intro m f g c q hm hq
  refine can_of hf rfl rfl ?_
  (repeat' (conv => whnf)<;>first|exact True.intro|(refine if_ ?_ ?_<;>intro h<;>first|exact h.elim|(exfalso; omega)|skip)|refine vs_ ?_|refine dv_ ?_|exact fin_|(show ∃ _, _ ∧ _; refine ex_ ?_ (by first|with_reducible exact rfl|exact hI hm hq|exact rd_))|(show ∃ _ _, _ ∧ _; refine ex2_ ?_ (by first|with_reducible exact rfl|exact hI hm hq|exact rd_)))
end Go.X
namespace Go.X
open Go Go.RowKit
set_option maxRecDepth 100000
set_option maxHeartbeats 8000000
set_option linter.unusedSimpArgs false
set_option linter.unusedVariables false
variable {P : Program} {N : FN}
theorem c_sShape (hP : C_sPrime P N) (hI : C_sIn P N) (hS : C_sSmall P N) (hf : isFn P N.spec_l01Shape (ir_spec_l01Shape N) = true) : C_sShape P N := by
  intro a hb
  refine can_of hf rfl rfl ?_
  (repeat' (conv => whnf)<;>first|exact True.intro|(refine if_ ?_ ?_<;>intro h<;>first|exact h.elim|(exfalso; omega)|skip)|refine vs_ ?_|refine dv_ ?_|exact fin_|(show ∃ _, _ ∧ _; refine ex_ ?_ (by first|with_reducible exact rfl|exact hP|exact hI|exact hS (fun i => hb.2 i)|exact rd_))|(show ∃ _ _, _ ∧ _; refine ex2_ ?_ (by first|with_reducible exact rfl|exact hP|exact hI|exact hS (fun i => hb.2 i)|exact rd_)))
  all_goals (conv => whnf)
  all_goals first | exact no (fun hs => absurd hs.1 ‹_›) | exact no (fun hs => absurd hs.2.1 ‹_›) | exact no (fun hs => absurd hs.2.2.1 ‹_›) | skip
  have g1 : a.p ∈ primes := ‹_›
  have g2 : 1 ≤ a.n ∧ a.n ≤ 6 := ‹_›
  have g3 : Small a.f a.n a.p := ‹_›
  refine vc_loop (α := Nat) 0 (fun i => 6 - i) (fun i => i ≤ 6 ∧ ∀ i', i' < i → ∀ j : Nat, j < 6 → Small (a.T i' j) (if a.n ≤ (i' : Int) ∨ a.n ≤ (j : Int) then 0 else a.n) a.p) [] (fun i => [(3, .d (.int .i64 i))]) (fun i => []) lp_ ?_ ?_
  · (repeat' (conv => whnf)<;>first|exact True.intro|(refine if_ ?_ ?_<;>intro h<;>first|exact h.elim|(exfalso; omega)|skip)|refine vs_ ?_|refine dv_ ?_|exact fin_|(show ∃ _, _ ∧ _; refine ex_ ?_)|(show ∃ _ _, _ ∧ _; refine ex2_ ?_))
  · rintro i ⟨hi, hx⟩
    (repeat' (conv => whnf)<;>first|exact True.intro|(refine if_ ?_ ?_<;>intro h<;>first|exact h.elim|(exfalso; omega)|skip)|refine vs_ ?_|refine dv_ ?_|exact fin_|(show ∃ _, _ ∧ _; refine ex_ ?_)|(show ∃ _ _, _ ∧ _; refine ex2_ ?_))
    · conv => whnf
      refine vc_loop (α := Nat) 0 (fun j => 6 - j) (fun j => j ≤ 6 ∧ ∀ j' : Nat, j' < j → Small (a.T i j') (if a.n ≤ (i : Int) ∨ a.n ≤ (j' : Int) then 0 else a.n) a.p) [] (fun j => [(3, .d (.int .i64 i)), (4, .d (.int .i64 j))]) (fun j => []) lp_ ?_ ?_
      · (repeat' (conv => whnf)<;>first|exact True.intro|(refine if_ ?_ ?_<;>intro h<;>first|exact h.elim|(exfalso; omega)|skip)|refine vs_ ?_|refine dv_ ?_|exact fin_|(show ∃ _, _ ∧ _; refine ex_ ?_)|(show ∃ _ _, _ ∧ _; refine ex2_ ?_))
      · rintro j ⟨hj, hy⟩
        (repeat' (conv => whnf)<;>first|exact True.intro|(refine if_ ?_ ?_<;>intro h<;>first|exact h.elim|(exfalso; omega)|skip)|refine vs_ ?_|refine dv_ ?_|exact fin_|(show ∃ _, _ ∧ _; refine ex_ ?_ (by first|with_reducible exact rfl|exact hS (fun k => hb.1 i j k)|exact rd_))|(show ∃ _ _, _ ∧ _; refine ex2_ ?_ (by first|with_reducible exact rfl|exact hS (fun k => hb.1 i j k)|exact rd_)))
        all_goals (conv => whnf)
        all_goals first
          | exact no (fun hs => by
              have := hs.2.2.2 i j (by omega) (by omega)
              rw [if_pos (by omega)] at this
              exact absurd this ‹_›)
          | exact no (fun hs => by
              have := hs.2.2.2 i j (by omega) (by omega)
              rw [if_neg (by omega)] at this
              exact absurd this ‹_›)
          | (refine ⟨j + 1, ⟨by omega, all_succ hy (by rw [if_pos (by omega)]; exact ‹_›)⟩, by omega, ?_⟩; (repeat' (conv => whnf)<;>first|exact True.intro|(refine if_ ?_ ?_<;>intro h<;>first|exact h.elim|(exfalso; omega)|skip)|refine vs_ ?_|refine dv_ ?_|exact fin_|(show ∃ _, _ ∧ _; refine ex_ ?_)|(show ∃ _ _, _ ∧ _; refine ex2_ ?_)); done)
          | (refine ⟨j + 1, ⟨by omega, all_succ hy (by rw [if_neg (by omega)]; exact ‹_›)⟩, by omega, ?_⟩; (repeat' (conv => whnf)<;>first|exact True.intro|(refine if_ ?_ ?_<;>intro h<;>first|exact h.elim|(exfalso; omega)|skip)|refine vs_ ?_|refine dv_ ?_|exact fin_|(show ∃ _, _ ∧ _; refine ex_ ?_)|(show ∃ _ _, _ ∧ _; refine ex2_ ?_)); done)
          | (refine ⟨i + 1, ⟨by omega, all_succ hx (fun j' hj' => hy j' (by omega))⟩, by omega, ?_⟩; (repeat' (conv => whnf)<;>first|exact True.intro|(refine if_ ?_ ?_<;>intro h<;>first|exact h.elim|(exfalso; omega)|skip)|refine vs_ ?_|refine dv_ ?_|exact fin_|(show ∃ _, _ ∧ _; refine ex_ ?_)|(show ∃ _ _, _ ∧ _; refine ex2_ ?_)); done)
    · conv => whnf
      exact yes ⟨g1, g2, g3, fun i' j hi' hj => hx i' (by omega) j hj⟩
end Go.X
