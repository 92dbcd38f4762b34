import Derived.Test.YtphelkciklpakaaK1
import Derived.Test.YtphelkciklpakaaM1
set_option linter.all false
namespace Go.X
open Go Go.RowKit
def FN.impl_Algebra_power (N : FN) : FuncId := N.f 100
def ir_impl_Algebra_power (N : FN) : CF := ⟨3, 19, [(.cell 6 (some 6))], (.seq (.reg false [5, 7] [(rO 4 (.box (.t 1))), (rO 6 (.alloc [(.int .u8 0), (.int .u8 0), (.int .u8 0), (.int .u8 0), (.int .u8 0), (.int .u8 0)]))]) (.seq (.reg false [10, 8] [(rO 8 (.mov (.t 0))), (rO 9 (.call N.impl_Algebra_unit [(.t 8)])), (rO 7 (.alloc [(.int .u8 0), (.int .u8 0), (.int .u8 0), (.int .u8 0), (.int .u8 0), (.int .u8 0)])), ⟨none, 23, (.store (some 6) (.t 7) (.t 9)), none, [], none⟩]) (.seq (.seq (.reg false [] [(rO 10 (.mov (.t 2))), (rO 11 (.mov (.c (.int .i64 0))))]) (.block 0 (.loop (.seq (.reg false [] [(rO 12 (.cmp .lss (.t 11) (.t 10)))]) (.seq (.cond (.t 12) .skip (.exit 0)) (.seq (.block 1 (.reg false [17] [(rO 13 (.mov (.t 0))), (rO 14 (.load (some 6) (.t 7))), (rO 15 (.load (some 6) (.t 4))), (rO 16 (.call N.impl_Algebra_times [(.t 13), (.t 14), (.t 15)])), ⟨none, 24, (.store (some 6) (.t 7) (.t 16)), none, [], none⟩])) (.reg false [] [(rO 17 (.arith .add (.t 11) (.c (.int .i64 1)))), (rO 11 (.mov (.t 17)))]))))))) (.seq (.reg false [] [(rO 18 (.load (some 6) (.t 7))), ⟨none, 21, (.store (some 6) (.t 6) (.t 18)), none, [], none⟩]) .ret))))⟩
end Go.X
namespace Go.X
open Go Go.RowKit
def FN.impl_valid (N : FN) : FuncId := N.f 109
def FN.impl_valid_1 (N : FN) : FuncId := N.f 110
def FN.spec_l01Code (N : FN) : FuncId := N.f 120
def ir_impl_valid (N : FN) : CF := ⟨2, 13, [(.tmp 4)], (.seq (.reg false [3] [(rO 2 (.box (.t 0))), (rO 4 (.mov (.c (.int .i64 0))))]) (.seq (.seq (.reg false [7, 12] [(rO 5 (.load (some 224) (.t 2))), (rO 6 (.call N.impl_IsAlgebra [(.t 5)])), (rO 7 (.not (.t 6))), (rO 8 (.mov (.t 7))), ⟨(some 9), 10, (.mov (.t 1)), (some (8, false)), [], none⟩, ⟨(some 10), 11, (.mkfn N.impl_valid_1 [] [(.t 2)]), (some (8, false)), [], none⟩, ⟨(some 11), 12, (.call N.slices_ContainsFunc_Limpl_Vector_impl_Vector [(.t 9), (.t 10)]), (some (8, false)), [], none⟩, (rO 12 (.pick (.t 8) (.c (.bool true)) (.t 11)))]) (.cond (.t 12) (.seq (.reg false [] [(rO 4 (.mov (.c (.int .i64 1))))]) .ret) .skip)) (.seq (.reg false [] [(rO 4 (.mov (.c (.int .i64 0))))]) .ret)))⟩
def ir_impl_valid_1 (N : FN) : CF := ⟨2, 11, [(.tmp 3)], (.seq (.reg false [3] [(rO 2 (.box (.t 0))), (rO 3 (.mov (.c (.bool false))))]) (.seq (.reg false [10] [(rO 4 (.load (some 6) (.t 2))), (rO 5 (.faddr 1 (.t 1))), (rO 6 (.load none (.t 5))), (rO 7 (.faddr 0 (.t 1))), (rO 8 (.load none (.t 7))), (rO 9 (.call N.impl_isVector [(.t 4), (.t 6), (.t 8)])), (rO 10 (.not (.t 9))), (rO 3 (.mov (.t 10)))]) .ret))⟩
def ir_spec_l01Code (N : FN) : CF := ⟨2, 22, [(.tmp 4)], (.seq (.reg false [3] [(rO 2 (.box (.t 0))), (rO 4 (.mov (.c (.int .i64 0))))]) (.seq (.seq (.reg false [8] [(rO 6 (.load (some 224) (.t 2))), (rO 7 (.call N.spec_l01Algebra [(.t 6)])), (rO 8 (.not (.t 7)))]) (.cond (.t 8) (.seq (.reg false [] [(rO 4 (.mov (.c (.int .i64 1))))]) .ret) .skip)) (.seq (.seq (.reg false [] [(rO 5 (.mov (.c (.int .i64 0))))]) (.block 0 (.loop (.seq (.seq (.reg false [] [(rO 9 (.mov (.t 5))), (rO 10 (.mov (.t 1))), (rO 11 (.len (.t 10))), (rO 12 (.cmp .lss (.t 9) (.t 11)))]) (.cond (.t 12) .skip (.exit 0))) (.seq (.block 1 (.seq (.reg true [21] [⟨(some 15), 16, (.load (some 224) (.t 2)), none, [21], none⟩, (rO 16 (.mov (.t 1))), (rO 17 (.mov (.t 5))), ⟨(some 18), 19, (.iaddrS 6 (.t 16) (.t 17)), none, [21], none⟩, ⟨(some 19), 20, (.load (some 6) (.t 18)), none, [21], none⟩, (rO 20 (.call N.spec_l01Vector [(.t 15), (.t 19)])), (rO 21 (.not (.t 20)))]) (.cond (.t 21) (.seq (.reg false [] [(rO 4 (.mov (.c (.int .i64 1))))]) .ret) .skip))) (.reg false [] [(rO 13 (.mov (.t 5))), (rO 14 (.arith .add (.t 13) (.c (.int .i64 1)))), (rO 5 (.mov (.t 14)))])))))) (.seq (.reg false [] [(rO 4 (.mov (.c (.int .i64 0))))]) .ret))))⟩
end Go.X
namespace Go.X
open Go Go.RowKit
structure Grp where
  n : Int
  t : Nat → Nat → Int
def grpF (g : Grp) : Nat → D := fun q => if q = 0 then .int .i64 g.n else .int .u8 (g.t ((q - 1) / 6) ((q - 1) % 6))
def grpL (g : Grp) : List D := arr 37 (grpF g)
theorem grpF_t (g : Grp) {i j : Nat} (hi : i < 6) (hj : j < 6) : grpF g (1 + i * 6 + j) = .int .u8 (g.t i j) := by
  unfold grpF
  rw [if_neg (by omega), show (1 + i * 6 + j - 1) / 6 = i from by omega, show (1 + i * 6 + j - 1) % 6 = j from by omega]
def GrpAt (l : List (List D)) (e off : Nat) (g : Grp) : Prop := ∀ q, q < 37 → get2 l e (off + q) = some (grpF g q)
theorem GrpAt.n {l : List (List D)} {e off : Nat} {g : Grp} (h : GrpAt l e off g) : get2 l e off = some (.int .i64 g.n) := h 0 (by omega)
theorem GrpAt.t {l : List (List D)} {e off : Nat} {g : Grp} (h : GrpAt l e off g) {i j : Nat} (hi : i < 6) (hj : j < 6) :
    get2 l e (off + 1 + ((i : Nat) : Int).toNat * 6 + ((j : Nat) : Int).toNat * 1) = some (.int .u8 (g.t i j)) := by
  rw [← grpF_t g hi hj, ← h _ (by omega)]; congr 1; omega
theorem GrpAt.all {l : List (List D)} {e off : Nat} {g : Grp} (h : GrpAt l e off g) : sub2 l e off 37 = some (grpL g) := by
  unfold sub2
  have h0 := h 36 (by omega)
  unfold get2 at h0
  cases hl : l[e]? with
  | none => rw [hl] at h0; cases h0
  | some r =>
    rw [hl] at h0
    have hlen : off + 36 < r.length := (List.getElem?_eq_some_iff.1 (show r[off + 36]? = some _ from h0)).1
    show cut r off 37 = _
    unfold cut
    rw [if_pos (by omega)]
    refine congrArg some (arr_of (by rw [List.length_take, List.length_drop]; omega) fun q hq => ?_)
    have hq2 := h q hq
    unfold get2 at hq2
    rw [hl] at hq2
    rw [List.getElem?_take, if_pos hq, List.getElem?_drop]
    exact hq2
def mN (g : Grp) (i j : Nat) : Nat := (g.t i j).toNat
def entP (g : Grp) : Prop := ∀ i j : Nat, i < 6 → j < 6 → if (i : Int) < g.n ∧ (j : Int) < g.n then g.t i j < g.n else g.t i j = 0
def GP (g : Grp) : Prop := (1 ≤ g.n ∧ g.n ≤ 6) ∧ entP g ∧ ∀ i : Nat, (i : Int) < g.n → (g.t 0 i = i ∧ g.t i 0 = i) ∧ (∃ j : Nat, (j : Int) < g.n ∧ g.t i j = 0 ∧ g.t j i = 0) ∧
  ∀ j k : Nat, (j : Int) < g.n → (k : Int) < g.n → g.t (mN g i j) k = g.t i (mN g j k)
structure GrpB (g : Grp) : Prop where
  b : ∀ i j, 0 ≤ g.t i j ∧ g.t i j ≤ 255
def invN (g : Grp) (i : Nat) : Nat := (idxF (fun j => decide (g.t i j = 0 ∧ g.t j i = 0)) g.n.toNat).toNat
def cj (g : Grp) (x i : Nat) : Nat := mN g (mN g x i) (invN g x)
section
variable {g : Grp} (hb : GrpB g) (h : GP g)
include hb h
theorem GP.tN {i j : Nat} (hi : i < g.n.toNat) (hj : j < g.n.toNat) : g.t i j = (mN g i j : Nat) ∧ mN g i j < g.n.toNat := by
  have h1 := hb.b i j
  have h2 := h.2.1 i j (by have := h.1; omega) (by have := h.1; omega)
  rw [if_pos ⟨by omega, by omega⟩] at h2
  unfold mN
  omega
theorem GP.one {i : Nat} (hi : i < g.n.toNat) : mN g 0 i = i ∧ mN g i 0 = i := by
  have h1 := (h.2.2 i (by omega)).1
  unfold mN
  omega
theorem GP.as {i j k : Nat} (hi : i < g.n.toNat) (hj : j < g.n.toNat) (hk : k < g.n.toNat) : mN g (mN g i j) k = mN g i (mN g j k) := congrArg Int.toNat ((h.2.2 i (by omega)).2.2 j k (by omega) (by omega))
theorem GP.inv {i : Nat} (hi : i < g.n.toNat) : invN g i < g.n.toNat ∧ mN g i (invN g i) = 0 ∧ mN g (invN g i) i = 0 ∧ idxF (fun j => decide (g.t i j = 0 ∧ g.t j i = 0)) g.n.toNat = (invN g i : Nat) := by
  obtain ⟨j, hj, h1, h2⟩ := (h.2.2 i (by omega)).2.1
  rcases idxF_cases (fun j => decide (g.t i j = 0 ∧ g.t j i = 0)) g.n.toNat with ⟨e, hn⟩ | ⟨q, hq, e, hn, _⟩
  · have := of_decide_eq_false (hn j (by omega))
    exact absurd ⟨h1, h2⟩ this
  · have hn := of_decide_eq_true hn
    unfold invN
    rw [e]
    unfold mN
    rw [Int.toNat_natCast, hn.1, hn.2]
    exact ⟨hq, rfl, rfl, rfl⟩
theorem GP.zero : 0 < g.n.toNat := by have := h.1; omega
theorem GP.invU {i j : Nat} (hi : i < g.n.toNat) (hj : j < g.n.toNat) (e : mN g i j = 0) : j = invN g i := by
  obtain ⟨h1, h2, h3, _⟩ := GP.inv hb h hi
  have := GP.as hb h h1 hi hj
  rw [h3, e, (GP.one hb h hj).1, (GP.one hb h h1).2] at this
  exact this
theorem GP.inv_mul {x y : Nat} (hx : x < g.n.toNat) (hy : y < g.n.toNat) : invN g (mN g y x) = mN g (invN g x) (invN g y) := by
  obtain ⟨x1, x2, x3, _⟩ := GP.inv hb h hx
  obtain ⟨y1, y2, y3, _⟩ := GP.inv hb h hy
  have hyx := (GP.tN hb h hy hx).2
  have hxy := (GP.tN hb h x1 y1).2
  refine (GP.invU hb h hyx hxy ?_).symm
  rw [GP.as hb h hy hx hxy, ← GP.as hb h hx x1 y1, x2, (GP.one hb h y1).1, y2]
end
section
variable {g : Grp} (hb : GrpB g) (h : GP g)
include hb h
end
section
variable {g : Grp} (hb : GrpB g) (h : GP g)
include hb h
end
end Go.X
namespace Go.X
open Go Go.RowKit
theorem dot_mod {p : Int} {m : Nat} {r z y : Row} (h : ∀ i, i < m → z i % p = y i % p) : dot m r z % p = dot m r y % p := sumN_mod fun i hi => cg_mul rfl (h i hi)
theorem sumN_two {f : Nat → Int} {i j : Nat} {n : Nat} (hi : i < n) (hj : j < n) (hij : i ≠ j) (h : ∀ k, k < n → k ≠ i → k ≠ j → f k = 0) : sumN n f = f i + f j := by
  have e : sumN n f = sumN n (fun k => (if k = i then f k else 0) + (if k = j then f k else 0)) := sumN_ext fun k hk => by
    by_cases h1 : k = i
    · subst h1; rw [if_pos rfl, if_neg hij]; omega
    · by_cases h2 : k = j
      · subst h2; rw [if_neg h1, if_pos rfl]; omega
      · rw [if_neg h1, if_neg h2, h k hk h1 h2]; rfl
  rw [e, sumN_add, sumN_one (i := i) hi (fun k hk => by rw [if_neg hk]), sumN_one (i := j) hj (fun k hk => by rw [if_neg hk]), if_pos rfl, if_pos rfl]
theorem sumN_one' {f : Nat → Int} {i n : Nat} (hi : i < n) (h : ∀ k, k < n → k ≠ i → f k = 0) : sumN n f = f i := by
  have e : sumN n f = sumN n (fun k => if k = i then f k else 0) := sumN_ext fun k hk => by
    by_cases h1 : k = i
    · rw [if_pos h1]
    · rw [if_neg h1, h k hk h1]
  rw [e, sumN_one (i := i) hi (fun k hk => by rw [if_neg hk]), if_pos rfl]
theorem RR.ld_ne {p : Int} {m : Nat} {L : List Row} {ld : Nat → Nat} (h : RR p m L ld) {i j : Nat} (hi : i < L.length) (hj : j < L.length) (hij : i ≠ j) : ld i ≠ ld j := by
  rcases Nat.lt_or_gt_of_ne hij with c | c
  · have := h.sort i j c hj; omega
  · have := h.sort j i c hi; omega
theorem RR.ld_ge {p : Int} {m : Nat} {L : List Row} {ld : Nat → Nat} (h : RR p m L ld) : ∀ i, i < L.length → i ≤ ld i
  | 0, _ => Nat.zero_le _
  | i + 1, hi => by have := h.ld_ge i (by omega); have := h.sort i (i + 1) (by omega) hi; omega
def kv (p : Int) (L : List Row) (ld : Nat → Nat) (c : Nat) : Row := fun j => if j = c then 1 else match (List.range L.length).find? (fun i => ld i == j) with
  | some i => -(L.getD i Z c) % p
  | none => 0
theorem kv_c {p : Int} {L : List Row} {ld : Nat → Nat} {c : Nat} : kv p L ld c c = 1 := by unfold kv; rw [if_pos rfl]
theorem kv_no {p : Int} {L : List Row} {ld : Nat → Nat} {c j : Nat} (hj : j ≠ c) (h : ∀ i, i < L.length → ld i ≠ j) : kv p L ld c j = 0 := by
  unfold kv
  rw [if_neg hj]
  have : (List.range L.length).find? (fun i => ld i == j) = none := by
    rw [List.find?_eq_none]
    intro i hi
    have := h i (by simpa using hi)
    simpa using this
  rw [this]
theorem kv_ld {p : Int} {m : Nat} {L : List Row} {ld : Nat → Nat} (hr : RR p m L ld) {c i : Nat} (hi : i < L.length) (hc : ld i ≠ c) : kv p L ld c (ld i) = -(L.getD i Z c) % p := by
  unfold kv
  rw [if_neg hc]
  have : (List.range L.length).find? (fun k => ld k == ld i) = some i := by
    rw [List.find?_eq_some_iff_getElem]
    refine ⟨by simp, i, by simpa using hi, by simp, fun k hk => ?_⟩
    have := hr.ld_ne (i := k) (j := i) (by omega) hi (by omega)
    simpa using this
  rw [this]
theorem kv_ker {p : Int} {m : Nat} {L : List Row} {ld : Nat → Nat} (hr : RR p m L ld) {c : Nat} (hc : c < m) (h : ∀ i, i < L.length → ld i ≠ c) : Ker p m L (kv p L ld c) := fun r hrm => by
  obtain ⟨i, hi, rfl⟩ := mem_getD hrm
  obtain ⟨l1, l2, l3⟩ := hr.lead i hi
  unfold dot
  rw [sumN_two (i := ld i) (j := c) l1 hc (h i hi) fun k hk h1 h2 => ?_]
  · rw [l2, kv_c, kv_ld hr hi (h i hi), Int.one_mul, Int.mul_one]
    have : (-(L.getD i Z c) % p + L.getD i Z c) % p = (-(L.getD i Z c) + L.getD i Z c) % p := cg_add (cg_mod p _) rfl
    rw [this, Int.add_left_neg]; simp
  · by_cases e : ∃ i', i' < L.length ∧ ld i' = k
    · obtain ⟨i', hi', rfl⟩ := e
      have : i' ≠ i := fun e => h1 (by rw [e])
      rw [hr.zero i' i hi' hi this, Int.zero_mul]
    · rw [kv_no h2 (fun i' hi' e' => e ⟨i', hi', e'⟩), Int.mul_zero]
theorem RR.full {p : Int} {m : Nat} {L : List Row} {ld : Nat → Nat} (h : RR p m L ld) {n : Nat} (hl : L.length = n) (hb : ∀ i, i < n → ld i < n) : ∀ i, i < n → ld i = i := by
  intro i hi
  have h1 := h.ld_ge i (by omega)
  have key : ∀ d, ∀ i, i + d = n - 1 → ld i ≤ i ∨ n ≤ i := by
    intro d
    induction d with
    | zero => intro i hi; have := hb i; omega
    | succ d ih =>
      intro i hi
      have := ih (i + 1) (by omega)
      have := h.sort i (i + 1) (by omega)
      omega
  have := key (n - 1 - i) i (by omega)
  omega
def ext1 (n : Nat) (r : Row) : Row := fun i => if i < n then r i else -1
def Sol (p : Int) (n : Nat) (L : List Row) (r : Row) : Prop := Ker p (n + 1) L (ext1 n r)
theorem dot_ext1 (n : Nat) (r v : Row) : dot (n + 1) r (ext1 n v) = dot n r v - r n := by
  unfold dot
  rw [sumN]
  have : sumN n (fun i => r i * ext1 n v i) = sumN n fun i => r i * v i := sumN_ext fun i hi => by unfold ext1; rw [if_pos hi]
  rw [this]
  unfold ext1
  rw [if_neg (by omega), Int.mul_neg, Int.mul_one]; omega
theorem sol_iff {p : Int} {n : Nat} {L : List Row} {v : Row} : Sol p n L v ↔ ∀ r ∈ L, dot n r v % p = r n % p := by
  unfold Sol Ker
  constructor
  · intro h r hr
    have := h r hr
    rw [dot_ext1] at this
    exact Int.emod_eq_emod_iff_emod_sub_eq_zero.2 this
  · intro h r hr
    rw [dot_ext1]
    exact Int.emod_eq_emod_iff_emod_sub_eq_zero.1 (h r hr)
theorem sol_red {p : Int} {n : Nat} {L : List Row} {v : Row} (hp : p ∈ primes) (hR : RwL p L) : Sol p n (redF p (n + 1) L) v ↔ Sol p n L v := redF_ker hp hR
theorem sol_ech {p : Int} {n : Nat} {L : List Row} {v : Row} (hp : p ∈ primes) (hR : RwL p L) : Sol p n (echF p (n + 1) L) v ↔ Sol p n L v := echF_ker hp hR
theorem no_sol {p : Int} {n : Nat} {L : List Row} {ld : Nat → Nat} {v : Row} (hp : 2 ≤ p) (h : RR p (n + 1) L ld) (hs : Sol p n L v) {i : Nat} (hi : i < L.length) : ld i < n := by
  obtain ⟨l1, l2, l3⟩ := h.lead i hi
  rcases Nat.lt_or_ge (ld i) n with c | c
  · exact c
  · exfalso
    have e : ld i = n := by omega
    have := sol_iff.1 hs _ (getD_mem hi)
    rw [e] at l2 l3
    unfold dot at this
    rw [sumN_zero fun k hk => by rw [l3 k hk, Int.zero_mul], l2, Int.emod_eq_of_lt (by omega) (by omega), Int.emod_eq_of_lt (by omega) (by omega)] at this
    omega
theorem sol_of {p : Int} {n : Nat} {L : List Row} {ld : Nat → Nat} {v : Row} (h : RR p (n + 1) L ld) (hl : ∀ i, i < L.length → ld i < n) (h1 : ∀ i, i < L.length → v (ld i) = L.getD i Z n) (h2 : ∀ j, j < n → (∀ i, i < L.length → ld i ≠ j) → v j = 0) : Sol p n L v := sol_iff.2 fun r hr => by
  obtain ⟨i, hi, rfl⟩ := mem_getD hr
  obtain ⟨l1, l2, l3⟩ := h.lead i hi
  unfold dot
  rw [sumN_one' (i := ld i) (hl i hi) fun k hk hne => ?_]
  · rw [l2, Int.one_mul, h1 i hi]
  · by_cases e : ∃ i', i' < L.length ∧ ld i' = k
    · obtain ⟨i', hi', rfl⟩ := e
      have : i' ≠ i := fun e => hne (by rw [e])
      rw [h.zero i' i hi' hi this, Int.zero_mul]
    · rw [h2 k hk (fun i' hi' e' => e ⟨i', hi', e'⟩), Int.mul_zero]
theorem solN_ok {p : Int} {n : Nat} {L : List Row} {ld : Nat → Nat} (h : RR p (n + 1) L ld) (hl : ∀ i, i < L.length → ld i < n) : ∀ k, k ≤ L.length → ∃ o, solN n L k = some o ∧ (∀ i, i < k → o (ld i) = L.getD i Z n) ∧ ∀ j, (∀ i, i < k → ld i ≠ j) → o j = 0
  | 0, _ => ⟨Z, rfl, fun i hi => by omega, fun j _ => rfl⟩
  | k + 1, hk => by
    obtain ⟨o, e, h1, h2⟩ := solN_ok h hl k (by omega)
    have hld := (h.lead k (by omega)).leadF
    have := hl k (by omega)
    refine ⟨upd o (ld k) (L.getD k Z n), ?_, fun i hi => ?_, fun j hj => ?_⟩
    · unfold solN
      rw [e]
      dsimp only
      rw [hld, if_neg (by omega)]; rfl
    · by_cases c : i = k
      · subst c; exact upd_same ..
      · rw [upd_ne _ _ (h.ld_ne (by omega) (by omega) c)]; exact h1 i (by omega)
    · rw [upd_ne _ _ (fun e => hj k (by omega) e.symm)]; exact h2 j (fun i hi => hj i (by omega))
theorem solN_no {p : Int} {n : Nat} {L : List Row} {ld : Nat → Nat} (h : RR p (n + 1) L ld) : ∀ k, k ≤ L.length → ∀ o, solN n L k = some o → ∀ i, i < k → ld i < n
  | 0, _, _, _, i, hi => by omega
  | k + 1, hk, o, e, i, hi => by
    have hld := (h.lead k (by omega)).leadF
    have hb := (h.lead k (by omega)).1
    unfold solN at e
    split at e
    · cases e
    · rename_i o' e'
      split at e
      · cases e
      · rename_i hne
        rw [hld] at hne
        by_cases c : i = k
        · subst c; omega
        · exact solN_no h k (by omega) o' e' i (by omega)
theorem iSolve_some {p : Int} {n : Nat} {L : List Row} {r : Row} (hp : p ∈ primes) (hR : RwL p L) (h : iSolveF p n L = some r) : Sol p n L r := by
  obtain ⟨ld, rr⟩ := redF_rr (m := n + 1) hp hR
  unfold iSolveF at h
  have hl := solN_no rr _ (Nat.le_refl _) _ h
  obtain ⟨o, e, h1, h2⟩ := solN_ok rr hl _ (Nat.le_refl _)
  rw [e] at h
  simp only [Option.some.injEq] at h
  subst h
  exact (sol_red hp hR).1 (sol_of rr hl h1 fun j _ hj => h2 j hj)
theorem iSolve_none {p : Int} {n : Nat} {L : List Row} {r : Row} (hp : p ∈ primes) (hR : RwL p L) (hs : Sol p n L r) : (iSolveF p n L).isSome = true := by
  have hp2 := prime_bd hp
  obtain ⟨ld, rr⟩ := redF_rr (m := n + 1) hp hR
  have hs' := (sol_red hp hR).2 hs
  obtain ⟨o, e, _⟩ := solN_ok rr (fun i hi => no_sol hp2.1 rr hs' hi) _ (Nat.le_refl _)
  unfold iSolveF
  rw [e]; rfl
theorem sSolve_some {p : Int} {n : Nat} {L : List Row} {r : Row} (hp : p ∈ primes) (hR : RwL p L) (h : sSolveF p n L = some r) : Sol p n L r := by
  obtain ⟨ld, rr⟩ := echF_rr (m := n + 1) hp hR
  unfold sSolveF at h
  split at h
  · rename_i g
    obtain ⟨_, g2, g3⟩ := g
    simp only [Option.some.injEq] at h
    have hld : ∀ i, i < n → ld i = i := fun i hi => by
      have := (rr.lead i (by omega)).leadF
      rw [g3 i hi] at this; omega
    refine (sol_ech hp hR).1 (sol_of rr (fun i hi => by rw [hld i (by omega)]; omega) (fun i hi => ?_) fun j hj hn => absurd (hld j hj) (hn j (by omega)))
    rw [hld i (by omega), ← h]
  · cases h
theorem sSolve_of {p : Int} {n : Nat} {L : List Row} {r : Row} (hp : p ∈ primes) (hR : RwL p L) (hne : L ≠ []) (hs : Sol p n L r) (hr : Rw p r) (hu : ∀ v, Rw p v → Sol p n L v → ∀ i, i < n → v i = r i) : ∃ s, sSolveF p n L = some s ∧ ∀ i, i < n → s i = r i := by
  have hp2 := prime_bd hp
  obtain ⟨ld, rr⟩ := echF_rr (m := n + 1) hp hR
  have hs' := (sol_ech hp hR).2 hs
  have hl : ∀ i, i < (echF p (n + 1) L).length → ld i < n := fun i hi => no_sol hp2.1 rr hs' hi
  have hall : ∀ c, c < n → ∃ i, i < (echF p (n + 1) L).length ∧ ld i = c := fun c hc => by
    apply Classical.byContradiction
    intro hn
    have hk := kv_ker rr (c := c) (by omega) (fun i hi e => hn ⟨i, hi, e⟩)
    have hk' := (echF_ker hp hR).1 hk
    have hz : kv p (echF p (n + 1) L) ld c n = 0 := kv_no (by omega) (fun i hi e => by have := hl i hi; omega)
    have hsol : Sol p n L (fun i => (r i + kv p (echF p (n + 1) L) ld c i) % p) := sol_iff.2 fun x hx => by
      have h1 := sol_iff.1 hs x hx
      have h2 := hk' x hx
      unfold dot at h2
      rw [sumN, hz, Int.mul_zero, Int.add_zero] at h2
      have e : dot n x (fun i => (r i + kv p (echF p (n + 1) L) ld c i) % p) % p = dot n x (fun i => r i + kv p (echF p (n + 1) L) ld c i) % p := dot_mod fun i _ => cg_mod p _
      have e2 : dot n x (fun i => r i + kv p (echF p (n + 1) L) ld c i) = dot n x r + sumN n fun i => x i * kv p (echF p (n + 1) L) ld c i := by
        unfold dot
        rw [← sumN_add]
        exact sumN_ext fun i _ => Int.mul_add ..
      rw [e, e2, ← h1]
      have := cg_add (p := p) (a := dot n x r) rfl (show (sumN n fun i => x i * kv p (echF p (n + 1) L) ld c i) % p = 0 % p by rw [h2]; simp)
      rw [this, Int.add_zero]
    have := hu _ (fun i => mod_bd _ (by omega)) hsol c hc
    rw [kv_c] at this
    have h3 := hr c
    rcases Int.lt_or_le (r c + 1) p with t | t
    · rw [Int.emod_eq_of_lt (by omega) t] at this; omega
    · rw [show r c + 1 = p by omega, Int.emod_self] at this; omega
  have hge : ∀ c, c < n → ∃ i, i < (echF p (n + 1) L).length ∧ ld i = c ∧ c ≤ i := by
    intro c
    induction c with
    | zero => intro hc; obtain ⟨i, hi, e⟩ := hall 0 hc; exact ⟨i, hi, e, by omega⟩
    | succ c ih =>
      intro hc
      obtain ⟨i, hi, e, hle⟩ := ih (by omega)
      obtain ⟨i', hi', e'⟩ := hall (c + 1) hc
      refine ⟨i', hi', e', ?_⟩
      rcases Nat.lt_trichotomy i i' with t | t | t
      · omega
      · subst t; omega
      · have := rr.sort i' i t hi; omega
  have hlen : (echF p (n + 1) L).length = n := by
    have h1 : n ≤ (echF p (n + 1) L).length := by
      rcases Nat.eq_zero_or_pos n with c | c
      · omega
      · obtain ⟨i, hi, _, hle⟩ := hge (n - 1) (by omega); omega
    rcases Nat.lt_or_ge n (echF p (n + 1) L).length with c | c
    · have := rr.ld_ge n c; have := hl n c; omega
    · omega
  have hld := rr.full hlen (fun i hi => hl i (by omega))
  have e : sSolveF p n L = some fun i => (echF p (n + 1) L).getD i Z n := by
    unfold sSolveF
    rw [if_pos ⟨hne, hlen, fun i hi => by rw [(rr.lead i (by omega)).leadF, hld i hi]⟩]
  refine ⟨_, e, ?_⟩
  have hsol := sSolve_some hp hR e
  exact fun i hi => hu _ (fun i => rr.rw.get (by omega) i n) hsol i hi
theorem sSolve_uniq {p : Int} {n : Nat} {L : List Row} {r v : Row} (hp : p ∈ primes) (hR : RwL p L) (h : sSolveF p n L = some r) (hv : Rw p v) (hs : Sol p n L v) : ∀ i, i < n → v i = r i := by
  obtain ⟨ld, rr⟩ := echF_rr (m := n + 1) hp hR
  unfold sSolveF at h
  split at h
  · rename_i g
    obtain ⟨_, g2, g3⟩ := g
    simp only [Option.some.injEq] at h
    have hld : ∀ i, i < n → ld i = i := fun i hi => by
      have := (rr.lead i (by omega)).leadF
      rw [g3 i hi] at this; omega
    intro i hi
    have h1 := sol_iff.1 ((sol_ech hp hR).2 hs) _ (getD_mem (L := echF p (n + 1) L) (i := i) (by omega))
    obtain ⟨l1, l2, l3⟩ := rr.lead i (by omega)
    rw [hld i hi] at l2
    unfold dot at h1
    rw [sumN_one' (i := i) hi fun k hk hne => ?_, l2, Int.one_mul, rw_mod hv, rw_mod (rr.rw.get (by have := prime_bd hp; omega) i)] at h1
    · rw [h1, ← h]
    · have := rr.zero k i (by omega) (by omega) hne
      rw [hld k hk] at this
      rw [this, Int.zero_mul]
  · cases h
end Go.X
