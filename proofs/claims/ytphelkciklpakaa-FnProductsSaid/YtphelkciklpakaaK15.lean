import Derived.Test.YtphelkciklpakaaK14
set_option linter.all false
namespace Go.X
open Go Go.RowKit
set_option maxRecDepth 100000
structure Src where
  m : Nat
  f : Nat → Int
  pos : Nat
  h : Int
def srcL (s : Src) : List D := [.lst 1 (nbL s.f s.m), .int .i64 s.pos, .int .u64 s.h]
structure SrcOk (s : Src) : Prop where
  m : s.m ≤ 4096
  b : ∀ i, 0 ≤ s.f i ∧ s.f i ≤ 255
  a : s.pos ≤ s.m
  h : 0 ≤ s.h ∧ s.h < 18446744073709551616
def hN (h : Int) : Int := (h * 6364136223846793005 + 1442695040888963407) % 18446744073709551616
def nextS (s : Src) : Src := ⟨s.m, s.f, if s.pos < s.m then s.pos + 1 else s.pos, hN s.h⟩
def nextX (s : Src) : Int := hN s.h / 8589934592 % 16777216 + (if s.pos < s.m then s.f s.pos else 0)
theorem hN_bd (h : Int) : 0 ≤ hN h ∧ hN h < 18446744073709551616 := by unfold hN; omega
theorem nextS_ok {s : Src} (h : SrcOk s) : SrcOk (nextS s) := by
  refine ⟨h.m, h.b, ?_, hN_bd _⟩
  have := h.a
  show (if s.pos < s.m then s.pos + 1 else s.pos) ≤ s.m
  split <;> omega
theorem nextX_bd {s : Src} (h : SrcOk s) : 0 ≤ nextX s ∧ nextX s ≤ 16777470 := by
  have h1 := hN_bd s.h
  have h2 := h.b s.pos
  unfold nextX
  split <;> omega
def nextV (s : Src) (n : Int) : Int := if n < 1 then 0 else nextX s % n
def nextT (s : Src) (n : Int) : Src := if n < 1 then s else nextS s
theorem nextT_ok {s : Src} (h : SrcOk s) (n : Int) : SrcOk (nextT s n) := by
  unfold nextT; split
  · exact h
  · exact nextS_ok h
theorem nextV_bd {s : Src} {n : Int} (h : 1 ≤ n) : 0 ≤ nextV s n ∧ nextV s n < n := by
  unfold nextV
  rw [if_neg (by omega)]
  exact ⟨Int.emod_nonneg _ (by omega), Int.emod_lt_of_pos _ (by omega)⟩
theorem and24 {x : Int} (h : 0 ≤ x ∧ x < 18446744073709551616) : (((BitVec.ofInt 64 x &&& BitVec.ofInt 64 16777215).toNat : Nat) : Int) = x % 16777216 := by
  rw [BitVec.toNat_and, BitVec.toNat_ofInt, BitVec.toNat_ofInt]
  have e1 : (x % ((2 ^ 64 : Nat) : Int)).toNat = x.toNat := by
    rw [Int.emod_eq_of_lt h.1 (by simpa using h.2)]
  have e2 : ((16777215 : Int) % ((2 ^ 64 : Nat) : Int)).toNat = 2 ^ 24 - 1 := by decide
  rw [e1, e2, Nat.and_two_pow_sub_one_eq_mod]
  omega
def itH : Nat → Int → Int
  | 0, h => h
  | n + 1, h => itH n (hN h)
theorem itH_add (a b : Nat) (h : Int) : itH (a + b) h = itH b (itH a h) := by
  induction a generalizing h with
  | zero => rw [Nat.zero_add]; rfl
  | succ a ih => rw [show a + 1 + b = (a + b) + 1 by omega]; exact ih _
def affD : Nat → Int × Int
  | 0 => (6364136223846793005, 1442695040888963407)
  | k + 1 => let p := affD k; (p.1 * p.1 % 18446744073709551616, p.2 * (p.1 + 1) % 18446744073709551616)
theorem aff_spec (k : Nat) : ∀ h, itH (2 ^ k) h = ((affD k).1 * h + (affD k).2) % 18446744073709551616 ∨ (k = 0 ∧ False) := by
  induction k with
  | zero =>
    intro h
    refine .inl ?_
    show hN h = _
    unfold hN affD
    rw [Int.mul_comm]
  | succ k ih =>
    intro h
    refine .inl ?_
    have i1 := (ih h).resolve_right (fun c => c.2)
    rw [Nat.pow_succ, Nat.mul_two, itH_add, (ih _).resolve_right (fun c => c.2), i1]
    show ((affD k).1 * (((affD k).1 * h + (affD k).2) % 18446744073709551616) + (affD k).2) % 18446744073709551616 = ((affD k).1 * (affD k).1 % 18446744073709551616 * h + (affD k).2 * ((affD k).1 + 1) % 18446744073709551616) % 18446744073709551616
    generalize (affD k).1 = A
    generalize (affD k).2 = C
    rw [Int.add_emod, Int.mul_emod, Int.emod_emod_of_dvd _ (Int.dvd_refl _), ← Int.mul_emod, ← Int.add_emod]
    rw [Int.add_emod (A * A % 18446744073709551616 * h), Int.mul_emod (A * A % 18446744073709551616), Int.emod_emod_of_dvd _ (Int.dvd_refl _), ← Int.mul_emod, Int.emod_emod_of_dvd _ (Int.dvd_refl _), ← Int.add_emod]
    congr 1
    rw [Int.mul_add, Int.mul_add, Int.mul_one, Int.mul_assoc, Int.mul_comm C A]
    omega
theorem aff33 : (affD 33).1 % 34359738368 = 1 ∧ ((affD 33).2 % 34359738368 = 8589934592 ∨ (affD 33).2 % 34359738368 = 25769803776) := by decide +kernel
theorem it33 (h : Int) : itH (2 ^ 33) h % 34359738368 = (h + (affD 33).2) % 34359738368 := by
  rw [(aff_spec 33 h).resolve_right (fun c => c.2)]
  have e : ∀ x : Int, x % 18446744073709551616 % 34359738368 = x % 34359738368 := fun x => by omega
  rw [e, Int.add_emod, Int.mul_emod, aff33.1, Int.one_mul, Int.emod_emod_of_dvd _ (Int.dvd_refl _), ← Int.add_emod]
theorem low_zero (h : Int) (hh : 0 ≤ h) : ∃ n, itH n h / 8589934592 % 4 = 0 ∨ itH n h % 34359738368 / 8589934592 = 0 := by
  have c := aff33.2
  have j1 := it33 h
  have j2 := it33 (itH (2 ^ 33) h)
  have j3 := it33 (itH (2 ^ 33) (itH (2 ^ 33) h))
  generalize hC : (affD 33).2 = C at *
  by_cases a0 : h % 34359738368 / 8589934592 = 0
  · exact ⟨0, .inr a0⟩
  by_cases a1 : itH (2 ^ 33) h % 34359738368 / 8589934592 = 0
  · exact ⟨2 ^ 33, .inr a1⟩
  by_cases a2 : itH (2 ^ 33) (itH (2 ^ 33) h) % 34359738368 / 8589934592 = 0
  · exact ⟨2 ^ 33 + 2 ^ 33, .inr (by rw [itH_add]; exact a2)⟩
  · refine ⟨(2 ^ 33 + 2 ^ 33) + 2 ^ 33, .inr ?_⟩
    rw [itH_add, itH_add]
    generalize itH (2 ^ 33) h = x1 at *
    generalize itH (2 ^ 33) x1 = x2 at *
    generalize itH (2 ^ 33) x2 = x3 at *
    omega
theorem wrap_u64 (x : Int) : IntKind.wrap .u64 x = x % 18446744073709551616 := by simp [IntKind.wrap, IntKind.signed, IntKind.bits]
theorem ar64_mul {x y : Int} {K : Int → Prop} (_ : True) (hk : K (x * y % 18446744073709551616)) : Ar.int .mul .u64 x y K := by
  refine .mk ?_
  show K (IntKind.wrap .u64 (x * y))
  rw [wrap_u64]; exact hk
theorem ar64_add {x y : Int} {K : Int → Prop} (_ : True) (hk : K ((x + y) % 18446744073709551616)) : Ar.int .add .u64 x y K := by
  refine .mk ?_
  show K (IntKind.wrap .u64 (x + y))
  rw [wrap_u64]; exact hk
theorem ar64_shr {x : Int} {K : Int → Prop} (h : 0 ≤ x) (hk : K (x / 8589934592)) : Ar.int .shr .u64 x 33 K := by
  refine .mk ?_
  refine ⟨by decide, ?_⟩
  have e : x.fdiv (2 ^ (min (33 : Int).toNat (IntKind.bits .u64))) = x / 8589934592 := by
    rw [show (2 : Int) ^ (min (33 : Int).toNat (IntKind.bits .u64)) = 8589934592 from by decide]
    exact Int.fdiv_eq_ediv_of_nonneg _ (by decide)
  rw [e]; exact hk
theorem ar64_and {x : Int} {K : Int → Prop} (h : 0 ≤ x ∧ x < 18446744073709551616) (hk : K (x % 16777216)) : Ar.int .and .u64 x 16777215 K := by
  refine .mk ?_
  show K (IntKind.wrap .u64 ((BitVec.ofInt 64 x &&& BitVec.ofInt 64 16777215).toNat : Int))
  rw [and24 h, wrap_u64, show x % 16777216 % 18446744073709551616 = x % 16777216 by omega]
  exact hk
theorem wk_u64 {x : Int} {K : Int → Prop} (h : 0 ≤ x ∧ x < 18446744073709551616) (hk : K x) : wrapK .u64 x K := by
  rw [wrapK_eq]
  show K (IntKind.wrap .u64 x)
  rw [wrap_u64, Int.emod_eq_of_lt h.1 h.2]; exact hk
end Go.X
