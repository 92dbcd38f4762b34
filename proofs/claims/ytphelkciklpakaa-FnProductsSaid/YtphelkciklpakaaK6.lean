import Derived.Test.YtphelkciklpakaaK5
import Derived.Test.YtphelkciklpakaaK3
import Derived.Test.YtphelkciklpakaaK4
set_option linter.all false
namespace Go.X
open Go Go.RowKit
end Go.X
namespace Go.X
open Go Go.RowKit
end Go.X
namespace Go.X
open Go Go.RowKit
theorem unit_facts {a : Alg} (ha : AlgOk a) (hu : (findF a).isSome = true) : LU a (sUnit a) ∧ RU a (sUnit a) ∧ Rw a.p (sUnit a) ∧ ∀ i, a.n.toNat ≤ i → sUnit a i = 0 := by
  obtain ⟨h1, h2⟩ := unit_same ha
  have h3 := h1.2 hu
  obtain ⟨u, hu'⟩ := Option.isSome_iff_exists.1 h3
  have h4 := iFind_two ha hu'
  have e : sUnit a = u := by rw [← h2]; unfold iUnit; rw [hu']; rfl
  rw [e]; exact h4
end Go.X
namespace Go.X
open Go Go.RowKit
end Go.X
