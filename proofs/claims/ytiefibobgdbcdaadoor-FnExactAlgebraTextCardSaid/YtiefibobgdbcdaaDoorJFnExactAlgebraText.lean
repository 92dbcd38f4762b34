/- FnExactAlgebraText: the closed cells of its row, one by one. No condition. -/
import Derived.Test.YtiefibobgdbcdaaDoorRows
import Derived.ProofKit
set_option linter.all false
namespace Go.Proofs.YtiefibobgdbcdaaDoor
open Go Go.ChangeShapes Go.WideShapes Go.RowKit
theorem j_0 : (Rows.fnExactAlgebraTextRow.inPlace == Tryd.prog.inPlace 3) = true := by kernel_rfl
theorem j_1 : (Rows.fnExactAlgebraTextRow.unfollowed == Tryd.prog.unfollowed 3) = true := by kernel_rfl
theorem j_2 : (Rows.fnExactAlgebraTextRow.recurses == Tryd.prog.recurses 3) = true := by kernel_rfl
theorem j_3 : (Rows.fnExactAlgebraTextRow.named == Tryd.prog.varsNamed 3) = true := by kernel_rfl
theorem j_4 : Tryd.prog.mayEnter = true := by kernel_rfl
theorem j_5 : (Rows.fnExactAlgebraTextRow.lifted == Tryd.prog.liftsFinal) = true := by kernel_rfl
theorem j_6 : (Tryd.prog.make == some Rows.fnExactAlgebraTextRow.make) = true := by kernel_rfl
theorem j_7 : Tryd.prog.stopsHeard = true := by kernel_rfl
theorem j_8 : laidOutB Tryd.prog = true := by kernel_rfl
theorem j_all : joinedFacts Tryd.prog 3 Tryd.f3 Rows.fnExactAlgebraTextSpec Rows.fnExactAlgebraTextRow = true := by
  unfold joinedFacts
  rw [j_0, j_1, j_2, j_3, j_4, j_5, j_6, j_7, j_8]
  kernel_rfl
end Go.Proofs.YtiefibobgdbcdaaDoor
