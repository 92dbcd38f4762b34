import Derived.Test.YtmbocpoebbijmaaW2
set_option linter.all false
namespace Go.X
open Go Go.RowKit
set_option maxRecDepth 100000
set_option maxHeartbeats 8000000
set_option linter.unusedSimpArgs false
set_option linter.unusedVariables false
variable {P : Program} {N : FN}
def algT (a : Alg) : Nat → Int := fun q => a.T (q / 36) (q / 6 % 6) (q % 6)
theorem alg_T {a : Alg} : sub2 [algL a] 0 (0 + 2) 216 = some (cel .u8 216 (algT a)) := sub2_of (fun q hq => by
  have := algF_T a (i := q / 36) (j := q / 6 % 6) (k := q % 6) (by omega) (by omega) (by omega)
  rw [show 2 + q / 36 * 36 + q / 6 % 6 * 6 + q % 6 = 2 + q by omega] at this
  have h := algAt_one a (2 + q) (by omega)
  rw [this] at h
  rw [Nat.zero_add, ← Nat.zero_add (2 + q)]
  exact h) (by omega)
def pairZ (x : Pr) : Nat → Int := fun q => x.z (q / 6) (q % 6)
theorem algL_len2 (a : Alg) : (algL a).length = 224 := arr_len ..
theorem pairL_len (x : Pr) : (pairL x).length = 484 := arr_len ..
theorem sub2_one {l : List D} {n : Nat} (h : l.length = n) : sub2 [l] 0 0 n = some l := by
  simp only [sub2, List.getElem?_cons_zero, Option.bind_some, cut, Nat.zero_add, h, Nat.le_refl, if_true, List.drop_zero]
  rw [List.take_of_length_le (by omega)]
theorem splice_all {l m : List D} (h : m.length = l.length) : splice l 0 m = m := by
  unfold splice
  rw [List.take_zero, List.nil_append, h, Nat.zero_add, List.drop_length, List.append_nil]
theorem alg_rd2 {a : Alg} {z : List D} (hz : z.length = 224) : sub2 ([z].set 0 (splice z 0 (algL a))) 0 0 224 = some (algL a) := by
  rw [splice_all (by rw [algL_len2, hz]), List.set_cons_zero]
  exact sub2_one (algL_len2 a)
theorem pair_rd2 {x : Pr} {z : List D} (hz : z.length = 484) : sub2 ([z].set 0 (splice z 0 (pairL x))) 0 0 484 = some (pairL x) := by
  rw [splice_all (by rw [pairL_len, hz]), List.set_cons_zero]
  exact sub2_one (pairL_len x)
end Go.X
