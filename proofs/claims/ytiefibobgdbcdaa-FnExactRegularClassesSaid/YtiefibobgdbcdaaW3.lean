import Derived.Test.YtiefibobgdbcdaaW2
set_option linter.all false
namespace Go.X
open Go Go.RowKit
set_option maxRecDepth 100000
set_option maxHeartbeats 8000000
set_option linter.unusedSimpArgs false
set_option linter.unusedVariables false
variable {P : Program} {N : FN}
theorem sub2_one {l : List D} {n : Nat} (h : l.length = n) : sub2 [l] 0 0 n = some l := by
  simp only [sub2, List.getElem?_cons_zero, Option.bind_some, cut, Nat.zero_add, h, Nat.le_refl, if_true, List.drop_zero]
  rw [List.take_of_length_le (by omega)]
end Go.X
