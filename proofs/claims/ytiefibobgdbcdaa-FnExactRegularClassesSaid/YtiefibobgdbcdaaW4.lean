import Derived.Test.YtiefibobgdbcdaaK9
import Derived.Test.YtiefibobgdbcdaaW2
import Derived.Test.YtiefibobgdbcdaaW3
set_option linter.all false
namespace Go.X
open Go Go.RowKit
set_option maxRecDepth 100000
set_option maxHeartbeats 8000000
variable {P : Program} {N : FN}
theorem flat_nu {k : IntKind} {c : Int} : ∀ x ∈ ([] : List D) ++ [.int k c], Flat x := fun x hx => by
  simp at hx; subst hx; exact .int _ _
end Go.X
