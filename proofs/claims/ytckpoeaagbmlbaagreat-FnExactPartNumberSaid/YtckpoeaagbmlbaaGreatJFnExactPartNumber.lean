/- FnExactPartNumber: the closed cells of its row, one by one. No condition. -/
import Derived.Test.YtckpoeaagbmlbaaGreatRows
import Derived.ProofKit
set_option linter.all false
namespace Go.Proofs.YtckpoeaagbmlbaaGreat
open Go Go.ChangeShapes Go.WideShapes Go.RowKit
theorem j_0 : (Rows.fnExactPartNumberRow.inPlace == Tryz.prog.inPlace 13) = true := by kernel_rfl
theorem j_1 : (Rows.fnExactPartNumberRow.unfollowed == Tryz.prog.unfollowed 13) = true := by kernel_rfl
theorem j_2 : (Rows.fnExactPartNumberRow.recurses == Tryz.prog.recurses 13) = true := by kernel_rfl
theorem j_3 : (Rows.fnExactPartNumberRow.named == Tryz.prog.varsNamed 13) = true := by kernel_rfl
theorem j_4 : Tryz.prog.mayEnter = true := by kernel_rfl
theorem j_5 : (Rows.fnExactPartNumberRow.lifted == Tryz.prog.liftsFinal) = true := by kernel_rfl
theorem j_6 : (Tryz.prog.make == some Rows.fnExactPartNumberRow.make) = true := by kernel_rfl
theorem j_7 : Tryz.prog.stopsHeard = true := by kernel_rfl
theorem j_8 : laidOutB Tryz.prog = true := by kernel_rfl
theorem j_all : joinedFacts Tryz.prog 13 Tryz.f13 Rows.fnExactPartNumberSpec Rows.fnExactPartNumberRow = true := by
  unfold joinedFacts
  rw [j_0, j_1, j_2, j_3, j_4, j_5, j_6, j_7, j_8]
  kernel_rfl
end Go.Proofs.YtckpoeaagbmlbaaGreat
