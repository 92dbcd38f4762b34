/- FnExactIsSymmetricInItself: the closed cells of its row, one by one. No condition. -/
import Derived.Test.YtghlfoeiplaanaaGreatRows
import Derived.ProofKit
set_option linter.all false
namespace Go.Proofs.YtghlfoeiplaanaaGreat
open Go Go.ChangeShapes Go.WideShapes Go.RowKit
theorem j_0 : (Rows.fnExactIsSymmetricInItselfRow.inPlace == Tryz.prog.inPlace 3) = true := by kernel_rfl
theorem j_1 : (Rows.fnExactIsSymmetricInItselfRow.unfollowed == Tryz.prog.unfollowed 3) = true := by kernel_rfl
theorem j_2 : (Rows.fnExactIsSymmetricInItselfRow.recurses == Tryz.prog.recurses 3) = true := by kernel_rfl
theorem j_3 : (Rows.fnExactIsSymmetricInItselfRow.named == Tryz.prog.varsNamed 3) = true := by kernel_rfl
theorem j_4 : Tryz.prog.mayEnter = true := by kernel_rfl
theorem j_5 : (Rows.fnExactIsSymmetricInItselfRow.lifted == Tryz.prog.liftsFinal) = true := by kernel_rfl
theorem j_6 : (Tryz.prog.make == some Rows.fnExactIsSymmetricInItselfRow.make) = true := by kernel_rfl
theorem j_7 : Tryz.prog.stopsHeard = true := by kernel_rfl
theorem j_8 : laidOutB Tryz.prog = true := by kernel_rfl
theorem j_all : joinedFacts Tryz.prog 3 Tryz.f3 Rows.fnExactIsSymmetricInItselfSpec Rows.fnExactIsSymmetricInItselfRow = true := by
  unfold joinedFacts
  rw [j_0, j_1, j_2, j_3, j_4, j_5, j_6, j_7, j_8]
  kernel_rfl
end Go.Proofs.YtghlfoeiplaanaaGreat
