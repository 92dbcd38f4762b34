/- FnProducts: the closed cells of its row, one by one. No condition. -/
import Derived.Test.YtphelkciklpakaaRows
import Derived.ProofKit
set_option linter.all false
namespace Go.Proofs.Ytphelkciklpakaa
open Go Go.ChangeShapes Go.WideShapes Go.RowKit
theorem j_0 : (Rows.fnProductsRow.inPlace == Try.prog.inPlace 3) = true := by kernel_rfl
theorem j_1 : (Rows.fnProductsRow.unfollowed == Try.prog.unfollowed 3) = true := by kernel_rfl
theorem j_2 : (Rows.fnProductsRow.recurses == Try.prog.recurses 3) = true := by kernel_rfl
theorem j_3 : (Rows.fnProductsRow.named == Try.prog.varsNamed 3) = true := by kernel_rfl
theorem j_4 : Try.prog.mayEnter = true := by kernel_rfl
theorem j_5 : (Rows.fnProductsRow.lifted == Try.prog.liftsFinal) = true := by kernel_rfl
theorem j_6 : (Try.prog.make == some Rows.fnProductsRow.make) = true := by kernel_rfl
theorem j_7 : Try.prog.stopsHeard = true := by kernel_rfl
theorem j_8 : laidOutB Try.prog = true := by kernel_rfl
theorem j_all : joinedFacts Try.prog 3 Try.f3 Rows.fnProductsSpec Rows.fnProductsRow = true := by
  unfold joinedFacts
  rw [j_0, j_1, j_2, j_3, j_4, j_5, j_6, j_7, j_8]
  kernel_rfl
end Go.Proofs.Ytphelkciklpakaa
