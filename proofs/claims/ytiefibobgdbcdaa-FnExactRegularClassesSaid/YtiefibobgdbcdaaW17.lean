import Derived.Test.YtiefibobgdbcdaaW16
import Derived.Test.YtiefibobgdbcdaaW9
import Derived.Test.YtiefibobgdbcdaaK5
set_option linter.all false
namespace Go.X
open Go Go.RowKit
set_option maxRecDepth 100000
set_option maxHeartbeats 8000000
set_option linter.unusedVariables false
variable {P : Program} {N : FN}
def tyGrp : Ty := .st [.int .i64, tyMat]
theorem has_grp {xs : List D} (h : tyGrp.Has xs) : ∃ g : Grp, xs = grpL g ∧ GrpB g ∧ I64 g.n := by
  obtain ⟨_, _, rfl, ⟨n, rfl, hn⟩, _, _, rfl, hT, rfl⟩ := h
  obtain ⟨T, rfl, bT⟩ := allU8_arr (n := 6) (allU8_arr (n := 6) allU8_int) _ hT
  let g : Grp := ⟨n, fun i j => if i < 6 ∧ j < 6 then T (i * 6 + j) else 0⟩
  refine ⟨g, ?_, ⟨fun i j => ?_⟩, bounds_i64 hn⟩
  · refine arr_of (by simp [cel_len]) fun q hq => ?_
    cases q with
    | zero => rfl
    | succ q =>
      show (cel .u8 36 T ++ [])[q]? = _
      rw [List.append_nil, cel_get (by omega)]
      unfold grpF
      rw [if_neg (by omega)]
      show some (D.int .u8 (T q)) = some (D.int .u8 (if _ then _ else _))
      rw [if_pos (by omega), show (q + 1 - 1) / 6 * 6 + (q + 1 - 1) % 6 = q by omega]
  · show 0 ≤ (if _ then _ else (0 : Int)) ∧ (if _ then _ else (0 : Int)) ≤ 255
    split
    · exact bT _
    · omega
theorem arg_grp {d : D} (h : tyGrp.arg d) : ∃ g : Grp, d = grpD g ∧ GrpB g ∧ I64 g.n := by
  obtain ⟨xs, rfl, h⟩ := h
  obtain ⟨g, rfl, h1, h2⟩ := has_grp h
  exact ⟨g, rfl, h1, h2⟩
end Go.X
