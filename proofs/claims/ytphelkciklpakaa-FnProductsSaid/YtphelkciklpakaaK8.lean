import Derived.Test.YtphelkciklpakaaK7
import Derived.Test.YtphelkciklpakaaK6
import Derived.Test.YtphelkciklpakaaK4
set_option linter.all false
namespace Go.X
open Go Go.RowKit
end Go.X
namespace Go.X
open Go Go.RowKit
end Go.X
namespace Go.X
open Go Go.RowKit
section
variable {a : Alg}
structure AddM (a : Alg) (F : (Nat → Int) → Nat → Int) : Prop where
  add : ∀ x y, InA a x → InA a y → F (vadd a.p x y) = vadd a.p (F x) (F y)
  sc : ∀ c x, InA a x → F (vsc a.p c x) = vsc a.p c (F x)
  zero : F Z = Z
theorem AddM.comp {F G : (Nat → Int) → Nat → Int} (hF : AddM a F) (hG : AddM a G) (hi : ∀ x, InA a x → InA a (G x)) : AddM a fun x => F (G x) :=
  ⟨fun x y hx hy => by rw [hG.add x y hx hy, hF.add _ _ (hi x hx) (hi y hy)], fun c x hx => by rw [hG.sc c x hx, hF.sc c _ (hi x hx)], by rw [hG.zero, hF.zero]⟩
structure Orth (a : Alg) (E : List (Nat → Int)) : Prop where
  inn : ∀ e ∈ E, InA a e
  idem : ∀ e ∈ E, timesV a e e = e
  nz : ∀ e ∈ E, ∃ i, e i ≠ 0
  pair : E.Pairwise fun e f => timesV a e f = Z
end
end Go.X
namespace Go.X
open Go Go.RowKit
end Go.X
