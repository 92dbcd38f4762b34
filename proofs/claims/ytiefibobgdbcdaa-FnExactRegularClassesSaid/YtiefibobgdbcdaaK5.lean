import Derived.Test.YtiefibobgdbcdaaK4
import Derived.Test.YtiefibobgdbcdaaK3
import Derived.Test.YtiefibobgdbcdaaX5
import Derived.Test.YtiefibobgdbcdaaK2
set_option linter.all false
namespace Go.X
open Go Go.RowKit
end Go.X
namespace Go.X
open Go Go.RowKit
end Go.X
namespace Go.X
open Go Go.RowKit
theorem args3 {a b c : Ty} {l : List D} (h : argsHave [a, b, c] l) : ∃ x y z, l = [x, y, z] ∧ a.arg x ∧ b.arg y ∧ c.arg z := by
  match l, h with
  | [x, y, z], h => exact ⟨x, y, z, rfl, h.1, h.2.1, h.2.2.1⟩
def AllU8 (c : Nat) (e : Ty) : Prop := ∀ ys, e.Has ys → ∃ f : Nat → Int, ys = cel .u8 c f ∧ Byts f
theorem allU8_int : AllU8 1 (.int .u8) := fun ys h => by
  obtain ⟨n, rfl, hw⟩ := h
  have := bounds_u8 hw
  exact ⟨fun _ => n, rfl, fun _ => this⟩
theorem cel_append {k : IntKind} {a b : Nat} {f g : Nat → Int} : cel k a f ++ cel k b g = cel k (a + b) fun i => if i < a then f i else g (i - a) := by
  refine arr_of (by simp [cel_len]) fun i hi => ?_
  rcases Nat.lt_or_ge i a with h | h
  · rw [List.getElem?_append_left (by rw [cel_len]; exact h), cel_get h]; simp [h]
  · rw [List.getElem?_append_right (by rw [cel_len]; exact h), cel_len, cel_get (by omega)]; simp [show ¬ i < a by omega]
theorem flat_u8 {c : Nat} : ∀ {yss : List (List D)}, (∀ ys ∈ yss, ∃ f : Nat → Int, ys = cel .u8 c f ∧ Byts f) → ∃ f : Nat → Int, yss.flatten = cel .u8 (yss.length * c) f ∧ Byts f
  | [], _ => ⟨fun _ => 0, by simp [cel, arr], fun _ => by show (0:Int) ≤ 0 ∧ (0:Int) ≤ 255; omega⟩
  | y :: r, h => by
    obtain ⟨f, rfl, hf⟩ := h y (List.mem_cons_self ..)
    obtain ⟨g, h2, hg⟩ := flat_u8 fun ys hy => h ys (List.mem_cons_of_mem _ hy)
    refine ⟨fun i => if i < c then f i else g (i - c), ?_, fun i => ?_⟩
    · rw [List.flatten_cons, h2, cel_append, List.length_cons, Nat.succ_mul, Nat.add_comm]
    · dsimp only; split
      · exact hf _
      · exact hg _
theorem allU8_arr {c n : Nat} {e : Ty} (h : AllU8 c e) : AllU8 (n * c) (.arr n e) := fun ys hy => by
  obtain ⟨yss, rfl, rfl, hy⟩ := hy
  exact flat_u8 fun ys hm => h ys (hy ys hm)
def tyMat : Ty := .arr 6 (.arr 6 (.int .u8))
def I64 (x : Int) : Prop := -9223372036854775808 ≤ x ∧ x ≤ 9223372036854775807
theorem arg_i64 {d : D} (h : (Ty.int .i64).arg d) : ∃ n, d = .int .i64 n ∧ I64 n := by
  obtain ⟨n, h, hw⟩ := h
  simp only [List.cons.injEq, and_true] at h
  exact ⟨n, h, bounds_i64 hw⟩
theorem AlgIn.s {a : Alg} (h : AlgIn a) : SAlgIn a := ⟨h.b, fun hs => by
  obtain ⟨h1, h2, h3⟩ := shape_iff.1 hs
  exact h.ok h1 h2 h3⟩
theorem PrIn.s {x : Pr} (h : PrIn x) : SPrIn x := ⟨h.c.s, h.o.s, h.z⟩
end Go.X
namespace Go.X
open Go Go.RowKit
end Go.X
