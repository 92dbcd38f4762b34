import Derived.Test.YtiefibobgdbcdaaK5
import Derived.Test.YtiefibobgdbcdaaK3
import Derived.Test.YtiefibobgdbcdaaK4
set_option linter.all false
namespace Go.X
open Go Go.RowKit
end Go.X
namespace Go.X
open Go Go.RowKit
end Go.X
namespace Go.X
open Go Go.RowKit
end Go.X
namespace Go.X
open Go Go.RowKit
theorem can_tupO_emp {P : Program} {f : FuncId} {args : List D} {sz : Nat} {y : D} (h : Can P f args (.tup [.emp, y])) : Can P f args (.tupO sz [] [] [y]) := by
  obtain ⟨hp, hc⟩ := h.toD rfl
  refine CanD.can ⟨hp, fun w F vs hF hv hs => (hc w F vs hF hv hs).mono fun e w' ⟨v, he, hb, G, hG, vs', h1, h2, h3⟩ => ⟨v, he, hb, G, hG, vs', h1, h2, fun u hu => ?_, fun i x u hx => by simp at hx, fun i x u hx hu => ?_⟩⟩ rfl
  · have := h3 0 .emp u rfl hu
    cases this
    exact .inl ⟨_, rfl, rfl⟩
  · match i, hx with
    | 0, hx => exact h3 1 x u (by simpa using hx) (by simpa using hu)
end Go.X
