import Derived.Test.YtphelkciklpakaaK14
import Derived.Test.YtphelkciklpakaaK1
set_option linter.all false
namespace Go.X
open Go Go.RowKit
def updT (T : Nat → Nat → Nat → Int) (i j k : Nat) (x : Int) : Nat → Nat → Nat → Int := fun a b c => if a = i ∧ b = j ∧ c = k then x else T a b c
theorem algL_setT {a : Alg} {i j k : Nat} {x : Int} (hi : i < 6) (hj : j < 6) (hk : k < 6) :
    (algL a).set (0 + 2 + ((i : Nat) : Int).toNat * 36 + ((j : Nat) : Int).toNat * 6 + ((k : Nat) : Int).toNat * 1) (.int .u8 x) = algL { a with T := updT a.T i j k x } := by
  rw [show 0 + 2 + ((i : Nat) : Int).toNat * 36 + ((j : Nat) : Int).toNat * 6 + ((k : Nat) : Int).toNat * 1 = 2 + i * 36 + j * 6 + k by omega]
  unfold algL
  rw [arr_set]
  refine arr_ext fun q hq => ?_
  unfold upd algF updT
  dsimp only
  by_cases e : q = 2 + i * 36 + j * 6 + k
  · subst e
    rw [if_pos rfl, if_neg (by omega), if_neg (by omega), if_pos (by omega), if_pos (by omega)]
  · rw [if_neg e]
    by_cases e0 : q = 0
    · rw [if_pos e0, if_pos e0]
    · rw [if_neg e0, if_neg e0]
      by_cases e1 : q = 1
      · rw [if_pos e1, if_pos e1]
      · rw [if_neg e1, if_neg e1]
        by_cases e2 : q < 218
        · rw [if_pos e2, if_pos e2, if_neg (by omega)]
        · rw [if_neg e2, if_neg e2]
def alg0 (p n : Int) (f : Nat → Int) : Alg := ⟨p, n, fun _ _ _ => 0, f⟩
theorem algZ_arr : algZ = arr 224 fun q => if q < 2 then .int .i64 0 else .int .u8 0 := by
  refine arr_of algZ_len fun q hq => ?_
  unfold algZ
  match q with
  | 0 => rfl
  | 1 => rfl
  | q + 2 =>
    rw [List.getElem?_cons_succ, List.getElem?_cons_succ, List.getElem?_replicate, if_pos (by omega), if_neg (by omega)]
theorem alg0_L {p n : Int} : (algZ.set 0 (.int .i64 p)).set 1 (.int .i64 n) = algL (alg0 p n fun _ => 0) := by
  rw [algZ_arr, arr_set, arr_set]
  refine arr_ext fun q hq => ?_
  unfold upd algF alg0
  dsimp only
  by_cases e1 : q = 1
  · rw [if_pos e1, if_neg (by omega), if_pos e1]
  · rw [if_neg e1]
    by_cases e0 : q = 0
    · rw [if_pos e0, if_pos e0]
    · rw [if_neg e0, if_neg e0, if_neg e1, if_neg (show ¬ q < 2 by omega), ite_self]
end Go.X
