import Derived.Test.YtiefibobgdbcdaaK6
import Derived.Test.YtiefibobgdbcdaaK3
import Derived.Test.YtiefibobgdbcdaaK5
set_option linter.all false
namespace Go.X
open Go Go.RowKit
def FN.math_bits_Len (N : FN) : FuncId := N.f 160
def FN.math_bits_Len32 (N : FN) : FuncId := N.f 170
def FN.math_bits_Len64 (N : FN) : FuncId := N.f 171
def ir_math_bits_Len (N : FN) : CF := ⟨1, 8, [(.tmp 2)], (.seq (.reg false [] [(rO 2 (.mov (.c (.int .i64 0))))]) (.seq (.cond (.c (.bool false)) (.seq (.reg false [6] [(rO 3 (.mov (.t 0))), (rO 4 (.conv .u32 (.t 3))), (rO 5 (.call N.math_bits_Len32 [(.t 4)])), (rO 2 (.mov (.t 5)))]) .ret) .skip) (.seq (.reg false [8] [(rO 6 (.mov (.t 0))), (rO 7 (.call N.math_bits_Len64 [(.t 6)])), (rO 2 (.mov (.t 7)))]) .ret)))⟩
def ir_math_bits_Len64 (N : FN) : CF := ⟨1, 25, [(.tmp 2)], (.seq (.reg false [] [(rO 2 (.mov (.c (.int .i64 0))))]) (.seq (.seq (.reg false [] [(rO 3 (.mov (.t 0))), (rO 4 (.cmp .geq (.t 3) (.c (.int .u64 4294967296))))]) (.cond (.t 4) (.seq (.reg false [] [(rO 5 (.mov (.t 0))), (rO 6 (.arith .shr (.t 5) (.c (.int .u64 32)))), (rO 0 (.mov (.t 6)))]) (.reg false [] [(rO 2 (.mov (.c (.int .i64 32))))])) .skip)) (.seq (.seq (.reg false [] [(rO 7 (.mov (.t 0))), (rO 8 (.cmp .geq (.t 7) (.c (.int .u64 65536))))]) (.cond (.t 8) (.seq (.reg false [] [(rO 9 (.mov (.t 0))), (rO 10 (.arith .shr (.t 9) (.c (.int .u64 16)))), (rO 0 (.mov (.t 10)))]) (.reg false [] [(rO 11 (.mov (.t 2))), (rO 12 (.arith .add (.t 11) (.c (.int .i64 16)))), (rO 2 (.mov (.t 12)))])) .skip)) (.seq (.seq (.reg false [] [(rO 13 (.mov (.t 0))), (rO 14 (.cmp .geq (.t 13) (.c (.int .u64 256))))]) (.cond (.t 14) (.seq (.reg false [] [(rO 15 (.mov (.t 0))), (rO 16 (.arith .shr (.t 15) (.c (.int .u64 8)))), (rO 0 (.mov (.t 16)))]) (.reg false [] [(rO 17 (.mov (.t 2))), (rO 18 (.arith .add (.t 17) (.c (.int .i64 8)))), (rO 2 (.mov (.t 18)))])) .skip)) (.seq (.reg false [] [(rO 19 (.mov (.t 2))), (rO 20 (.mov (.t 0))), (rO 21 (.conv .u8 (.t 20))), (rO 22 (.idxS (.c (.str (.mk #[0, 1, 2, 2, 3, 3, 3, 3, 4, 4, 4, 4, 4, 4, 4, 4, 5, 5, 5, 5, 5, 5, 5, 5, 5, 5, 5, 5, 5, 5, 5, 5, 6, 6, 6, 6, 6, 6, 6, 6, 6, 6, 6, 6, 6, 6, 6, 6, 6, 6, 6, 6, 6, 6, 6, 6, 6, 6, 6, 6, 6, 6, 6, 6, 7, 7, 7, 7, 7, 7, 7, 7, 7, 7, 7, 7, 7, 7, 7, 7, 7, 7, 7, 7, 7, 7, 7, 7, 7, 7, 7, 7, 7, 7, 7, 7, 7, 7, 7, 7, 7, 7, 7, 7, 7, 7, 7, 7, 7, 7, 7, 7, 7, 7, 7, 7, 7, 7, 7, 7, 7, 7, 7, 7, 7, 7, 7, 7, 8, 8, 8, 8, 8, 8, 8, 8, 8, 8, 8, 8, 8, 8, 8, 8, 8, 8, 8, 8, 8, 8, 8, 8, 8, 8, 8, 8, 8, 8, 8, 8, 8, 8, 8, 8, 8, 8, 8, 8, 8, 8, 8, 8, 8, 8, 8, 8, 8, 8, 8, 8, 8, 8, 8, 8, 8, 8, 8, 8, 8, 8, 8, 8, 8, 8, 8, 8, 8, 8, 8, 8, 8, 8, 8, 8, 8, 8, 8, 8, 8, 8, 8, 8, 8, 8, 8, 8, 8, 8, 8, 8, 8, 8, 8, 8, 8, 8, 8, 8, 8, 8, 8, 8, 8, 8, 8, 8, 8, 8, 8, 8, 8, 8, 8, 8, 8, 8, 8, 8, 8, 8, 8, 8, 8, 8, 8, 8]))) (.t 21))), (rO 23 (.conv .i64 (.t 22))), (rO 24 (.arith .add (.t 19) (.t 23))), (rO 2 (.mov (.t 24)))]) .ret)))))⟩
end Go.X
namespace Go.X
open Go Go.RowKit
end Go.X
namespace Go.X
open Go Go.RowKit
structure CA (a : Alg) : Prop where
  ok : AlgOk a
  as : AssocP a
  cm : sCommP a
  un : (findF a).isSome = true
def InA (a : Alg) (v : Nat → Int) : Prop := Rw a.p v ∧ ∀ i, a.n.toNat ≤ i → v i = 0
def vadd (p : Int) (v w : Nat → Int) : Nat → Int := fun i => (v i + w i) % p
def vsc (p c : Int) (v : Nat → Int) : Nat → Int := fun i => c * v i % p
section
variable {a : Alg} (h : CA a)
theorem CA.p1 (h : CA a) : 1 ≤ a.p := by have := prime_bd h.ok.p; omega
theorem CA.p2 (h : CA a) : 2 ≤ a.p := (prime_bd h.ok.p).1
theorem LinF.add {p : Int} {n : Nat} {F : (Nat → Int) → Int} (hF : LinF p n F) (u v : Nat → Int) : F (vadd p u v) % p = (F u + F v) % p := by
  rw [hF, cg_add (hF u) (hF v), ← sumN_add]
  refine sumN_mod fun i _ => ?_
  rw [← Int.add_mul]
  exact cg_mul (cg_mod p _) rfl
theorem LinF.sc {p : Int} {n : Nat} {F : (Nat → Int) → Int} (hF : LinF p n F) (c : Int) (u : Nat → Int) : F (vsc p c u) % p = (c * F u) % p := by
  rw [hF, cg_mul rfl (hF u), ← sumN_mul]
  refine sumN_mod fun i _ => ?_
  rw [← Int.mul_assoc]
  exact cg_mul (cg_mod p _) rfl
end
end Go.X
namespace Go.X
open Go Go.RowKit
end Go.X
namespace Go.X
open Go Go.RowKit
end Go.X
