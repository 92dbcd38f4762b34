import Derived.Test.YtphelkciklpakaaK6
import Derived.Test.YtphelkciklpakaaK3
import Derived.Test.YtphelkciklpakaaK5
set_option linter.all false
namespace Go.X
open Go Go.RowKit
end Go.X
namespace Go.X
open Go Go.RowKit
end Go.X
namespace Go.X
open Go Go.RowKit
structure CA (a : Alg) : Prop where
  ok : AlgOk a
  as : AssocP a
  cm : sCommP a
  un : (findF a).isSome = true
def InA (a : Alg) (v : Nat → Int) : Prop := Rw a.p v ∧ ∀ i, a.n.toNat ≤ i → v i = 0
def vadd (p : Int) (v w : Nat → Int) : Nat → Int := fun i => (v i + w i) % p
def vsc (p c : Int) (v : Nat → Int) : Nat → Int := fun i => c * v i % p
section
variable {a : Alg} (h : CA a)
theorem CA.p1 (h : CA a) : 1 ≤ a.p := by have := prime_bd h.ok.p; omega
theorem CA.p2 (h : CA a) : 2 ≤ a.p := (prime_bd h.ok.p).1
theorem LinF.add {p : Int} {n : Nat} {F : (Nat → Int) → Int} (hF : LinF p n F) (u v : Nat → Int) : F (vadd p u v) % p = (F u + F v) % p := by
  rw [hF, cg_add (hF u) (hF v), ← sumN_add]
  refine sumN_mod fun i _ => ?_
  rw [← Int.add_mul]
  exact cg_mul (cg_mod p _) rfl
theorem LinF.sc {p : Int} {n : Nat} {F : (Nat → Int) → Int} (hF : LinF p n F) (c : Int) (u : Nat → Int) : F (vsc p c u) % p = (c * F u) % p := by
  rw [hF, cg_mul rfl (hF u), ← sumN_mul]
  refine sumN_mod fun i _ => ?_
  rw [← Int.mul_assoc]
  exact cg_mul (cg_mod p _) rfl
end
end Go.X
namespace Go.X
open Go Go.RowKit
end Go.X
namespace Go.X
open Go Go.RowKit
end Go.X
