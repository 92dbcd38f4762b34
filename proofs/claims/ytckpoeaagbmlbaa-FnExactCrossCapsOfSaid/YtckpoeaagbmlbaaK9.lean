import Derived.Test.YtckpoeaagbmlbaaK8
import Derived.Test.YtckpoeaagbmlbaaK4
import Derived.Test.YtckpoeaagbmlbaaK7
import Derived.Test.YtckpoeaagbmlbaaK5
set_option linter.all false
namespace Go.X
open Go Go.RowKit
def C_toVSO (P : Program) (N : FN) : Prop := ∀ {m : Nat} {s : Nat → Nat → Int}, m ≤ 1048576 → Can P N.laws_toVectorS [vsD m s] (.own 6 (arr m fun i => vecL (s i)))
theorem cap_arr (c pw : Int) (L : List (Nat → Int)) : ∃ (k : Nat) (v : Nat → Nat → Int), k ≤ 200 ∧ capL c pw L = arr k fun i => vecL (v i) := by
  unfold capL
  split
  · rename_i h
    exact ⟨L.length, fun i => L.getD i Z, h.2.2, vcs_arr L⟩
  · exact ⟨0, fun _ => Z, by omega, rfl⟩
end Go.X
