import Derived.Test.YtehopmcogekcoaaM2
set_option linter.all false
namespace Go.X
open Go Go.RowKit
def algZ : List D := .int .i64 0 :: .int .i64 0 :: List.replicate 222 (.int .u8 0)
theorem algZ_len : algZ.length = 224 := by unfold algZ; rw [List.length_cons, List.length_cons, List.length_replicate]
end Go.X
