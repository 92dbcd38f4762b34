import Derived.Test.YtckpoeaagbmlbaaGreatK5
import Derived.Test.YtckpoeaagbmlbaaGreatK3
import Derived.Test.YtckpoeaagbmlbaaGreatK4
set_option linter.all false
namespace Go.X
open Go Go.RowKit
def FN.spec_l05Power (N : FN) : FuncId := N.f 148
def FN.impl_Algebra_frobeniusPower (N : FN) : FuncId := N.f 149
def ir_spec_l05Power (N : FN) : CF := ⟨3, 19, [(.cell 6 (some 6))], (.seq (.reg false [4, 5, 7] [(rO 3 (.box (.t 0))), (rO 4 (.box (.t 1))), (rO 6 (.alloc [(.int .u8 0), (.int .u8 0), (.int .u8 0), (.int .u8 0), (.int .u8 0), (.int .u8 0)]))]) (.seq (.reg false [10, 8] [(rO 8 (.load (some 224) (.t 3))), (rO 9 (.call N.spec_l01Unit [(.t 8)])), (rO 7 (.alloc [(.int .u8 0), (.int .u8 0), (.int .u8 0), (.int .u8 0), (.int .u8 0), (.int .u8 0)])), ⟨none, 23, (.store (some 6) (.t 7) (.t 9)), none, [], none⟩]) (.seq (.block 0 (.loop (.seq (.seq (.reg false [] [(rO 10 (.mov (.t 2))), (rO 11 (.cmp .gtr (.t 10) (.c (.int .i64 0))))]) (.cond (.t 11) .skip (.exit 0))) (.seq (.block 1 (.reg false [18] [(rO 14 (.load (some 224) (.t 3))), (rO 15 (.load (some 6) (.t 7))), (rO 16 (.load (some 6) (.t 4))), (rO 17 (.call N.spec_l01Times [(.t 14), (.t 15), (.t 16)])), ⟨none, 24, (.store (some 6) (.t 7) (.t 17)), none, [], none⟩])) (.reg false [] [(rO 12 (.mov (.t 2))), (rO 13 (.arith .sub (.t 12) (.c (.int .i64 1)))), (rO 2 (.mov (.t 13)))]))))) (.seq (.reg false [] [(rO 18 (.load (some 6) (.t 7))), ⟨none, 21, (.store (some 6) (.t 6) (.t 18)), none, [], none⟩]) .ret))))⟩
def ir_impl_Algebra_frobeniusPower (N : FN) : CF := ⟨3, 19, [(.cell 6 (some 6))], (.seq (.reg false [5, 7] [(rO 4 (.box (.t 1))), (rO 6 (.alloc [(.int .u8 0), (.int .u8 0), (.int .u8 0), (.int .u8 0), (.int .u8 0), (.int .u8 0)]))]) (.seq (.seq (.reg false [] [(rO 7 (.mov (.t 2))), (rO 8 (.mov (.c (.int .i64 0))))]) (.block 0 (.loop (.seq (.reg false [] [(rO 9 (.cmp .lss (.t 8) (.t 7)))]) (.seq (.cond (.t 9) .skip (.exit 0)) (.seq (.block 1 (.reg true [17] [(rO 10 (.mov (.t 0))), ⟨(some 11), 12, (.load (some 6) (.t 4)), none, [17], none⟩, (rO 12 (.mov (.t 0))), (rO 13 (.nilchk (.t 12))), (rO 14 (.faddr 0 (.t 13))), ⟨(some 15), 16, (.load none (.t 14)), none, [17], none⟩, (rO 16 (.call N.impl_Algebra_power [(.t 10), (.t 11), (.t 15)])), ⟨none, 27, (.store (some 6) (.t 4) (.t 16)), none, [], none⟩])) (.reg false [] [(rO 17 (.arith .add (.t 8) (.c (.int .i64 1)))), (rO 8 (.mov (.t 17)))]))))))) (.seq (.reg false [] [(rO 18 (.load (some 6) (.t 4))), ⟨none, 21, (.store (some 6) (.t 6) (.t 18)), none, [], none⟩]) .ret)))⟩
end Go.X
namespace Go.X
open Go Go.RowKit
def isLd (ld : Nat → Nat) (q c : Nat) : Bool := (List.range q).any fun i => ld i == c
def kvQ (p : Int) (K : List Row) (ld : Nat → Nat) (c q : Nat) : Row := fun j => if j = c then 1 else match (List.range q).find? (fun i => ld i == j) with
  | some i => -(K.getD i Z c) % p
  | none => 0
def freeL (p : Int) (K : List Row) (ld : Nat → Nat) : Nat → List Row
  | 0 => []
  | c + 1 => if isLd ld K.length c = true then freeL p K ld c else freeL p K ld c ++ [kvQ p K ld c K.length]
def ldK (n : Nat) (K : List Row) : Nat → Nat := fun i => ldN n (K.getD i Z)
def iKerF (p : Int) (n : Nat) (L : List Row) : List Row := redF p n (freeL p (redF p n L) (ldK n (redF p n L)) n)
def sKerF (p : Int) (n : Nat) (L : List Row) : List Row := echF p n (freeL p (echF p n L) (ldK n (echF p n L)) n)
def C_ContainsI (P : Program) (N : FN) : Prop := ∀ {m : Nat} {f : Nat → Int} {x : Int}, m ≤ 1000000 → Can P N.slices_Contains_Lint_int [rowD m f, .int .i64 x] (.val (.bool (decide (0 ≤ idxF (fun i => f i == x) m))))
def C_IndexI (P : Program) (N : FN) : Prop := ∀ {m : Nat} {f : Nat → Int} {x : Int}, m ≤ 1000000 → Can P N.slices_Index_Lint_int [rowD m f, .int .i64 x] (.val (.int .i64 (idxF (fun i => f i == x) m)))
def C_kernel (P : Program) (N : FN) : Prop := ∀ {n : Nat} {L : List Row} {p : Int}, 1 ≤ n ∧ n ≤ 100 → L.length ≤ 1000 → p ∈ primes → RwL p L → Can P N.impl_kernel [rowsD n L, .int .i64 n, .int .i64 p] (.val (rowsD n (iKerF p n L)))
def C_sKernel (P : Program) (N : FN) : Prop := ∀ {n : Nat} {L : List Row} {p : Int}, 1 ≤ n ∧ n ≤ 100 → L.length ≤ 1000 → p ∈ primes → RwL p L → Can P N.spec_l01Kernel [.int .i64 p, .int .i64 n, rowsD n L] (.val (rowsD n (sKerF p n L)))
def C_vectors (P : Program) (N : FN) : Prop := ∀ {m : Nat} {L : List Row}, m ≤ 6 → L.length ≤ 1000 → (∀ r ∈ L, Bd 255 r) → Can P N.impl_vectors [rowsD m L] (.own 6 (L.map fun r => vecL (vecR m r)))
def C_sVectors (P : Program) (N : FN) : Prop := ∀ {m : Nat} {L : List Row}, m ≤ 6 → L.length ≤ 1000 → (∀ r ∈ L, Bd 255 r) → Can P N.spec_l01Vectors [rowsD m L] (.own 6 (L.map fun r => vecL (vecR m r)))
theorem ldK_rr {p : Int} {n : Nat} {K : List Row} {ld : Nat → Nat} (h : RR p n K ld) : RR p n K (ldK n K) ∧ ∀ i, i < K.length → leadF n (K.getD i Z) = (ldK n K i : Nat) ∧ ldK n K i < n := by
  have e : ∀ i, i < K.length → ldK n K i = ld i := fun i hi => by
    unfold ldK ldN
    rw [(h.lead i hi).leadF]; rfl
  refine ⟨⟨h.rw, fun i hi => by rw [e i hi]; exact h.lead i hi, fun i j hi hj hij => by rw [e i hi]; exact h.zero i j hi hj hij, fun i j hij hj => by rw [e i (by omega), e j hj]; exact h.sort i j hij hj⟩, fun i hi => ?_⟩
  rw [e i hi]
  exact ⟨(h.lead i hi).leadF, (h.lead i hi).1⟩
theorem kvQ_eq {p : Int} {K : List Row} {ld : Nat → Nat} {c : Nat} : kvQ p K ld c K.length = kv p K ld c := rfl
theorem kvQ_z {p : Int} {K : List Row} {ld : Nat → Nat} {c j : Nat} : kvQ p K ld c 0 j = if j = c then 1 else 0 := rfl
theorem kvQ_s {p : Int} {n : Nat} {K : List Row} {ld : Nat → Nat} {c q : Nat} (h : RR p n K ld) (hq : q < K.length) (hc : ld q ≠ c) : ∀ j, (if j = ld q then -(K.getD q Z c) % p else kvQ p K ld c q j) = kvQ p K ld c (q + 1) j := fun j => by
  unfold kvQ
  by_cases e : j = ld q
  · subst e
    rw [if_pos rfl, if_neg hc, List.range_succ, List.find?_append]
    have hn : (List.range q).find? (fun i => ld i == ld q) = none := by
      refine List.find?_eq_none.2 fun i hi => ?_
      have := h.sort i q (List.mem_range.1 hi) hq
      simp; omega
    rw [hn]
    simp
  · rw [if_neg e]
    by_cases e2 : j = c
    · rw [if_pos e2, if_pos e2]
    · rw [if_neg e2, if_neg e2, List.range_succ, List.find?_append]
      have hn : ([q] : List Nat).find? (fun i => ld i == j) = none := by
        refine List.find?_eq_none.2 fun i hi => ?_
        rw [List.mem_singleton.1 hi]
        simp; omega
      rw [hn, Option.or_none]
theorem free_len {p : Int} {K : List Row} {ld : Nat → Nat} : ∀ c, (freeL p K ld c).length ≤ c
  | 0 => Nat.le_refl 0
  | c + 1 => by
    have := free_len (p := p) (K := K) (ld := ld) c
    unfold freeL
    split
    · omega
    · rw [List.length_append]; simp only [List.length_cons, List.length_nil]; omega
theorem kvQ_rw {p : Int} {K : List Row} {ld : Nat → Nat} {c q : Nat} (hp : 2 ≤ p) : Rw p (kvQ p K ld c q) := fun j => by
  unfold kvQ
  split
  · omega
  · split
    · exact mod_bd _ (by omega)
    · omega
theorem free_rw {p : Int} {K : List Row} {ld : Nat → Nat} (hp : 2 ≤ p) : ∀ c, RwL p (freeL p K ld c)
  | 0 => fun r hr => by cases hr
  | c + 1 => fun r hr => by
    unfold freeL at hr
    split at hr
    · exact free_rw hp c r hr
    · rcases List.mem_append.1 hr with h | h
      · exact free_rw hp c r h
      · rw [List.mem_singleton.1 h]; exact kvQ_rw hp
theorem free_t {p : Int} {K : List Row} {ld : Nat → Nat} {c : Nat} (h : isLd ld K.length c = true) : freeL p K ld (c + 1) = freeL p K ld c := by
  rw [freeL, if_pos h]
theorem free_f {p : Int} {K : List Row} {ld : Nat → Nat} {c : Nat} (h : isLd ld K.length c = false) : freeL p K ld (c + 1) = freeL p K ld c ++ [kvQ p K ld c K.length] := by
  rw [freeL, if_neg (by rw [h]; simp)]
theorem isLd_f {ld : Nat → Nat} {q c : Nat} (h : isLd ld q c = false) : ∀ i, i < q → ld i ≠ c := fun i hi e => by
  have : isLd ld q c = true := List.any_eq_true.2 ⟨i, List.mem_range.2 hi, by simp [e]⟩
  rw [h] at this; cases this
end Go.X
namespace Go.X
open Go Go.RowKit
theorem unit_facts {a : Alg} (ha : AlgOk a) (hu : (findF a).isSome = true) : LU a (sUnit a) ∧ RU a (sUnit a) ∧ Rw a.p (sUnit a) ∧ ∀ i, a.n.toNat ≤ i → sUnit a i = 0 := by
  obtain ⟨h1, h2⟩ := unit_same ha
  have h3 := h1.2 hu
  obtain ⟨u, hu'⟩ := Option.isSome_iff_exists.1 h3
  have h4 := iFind_two ha hu'
  have e : sUnit a = u := by rw [← h2]; unfold iUnit; rw [hu']; rfl
  rw [e]; exact h4
end Go.X
namespace Go.X
open Go Go.RowKit
end Go.X
