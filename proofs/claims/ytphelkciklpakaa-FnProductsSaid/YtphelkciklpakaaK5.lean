import Derived.Test.YtphelkciklpakaaK4
import Derived.Test.YtphelkciklpakaaK2
import Derived.Test.YtphelkciklpakaaK3
import Derived.Test.YtphelkciklpakaaX5
set_option linter.all false
namespace Go.X
open Go Go.RowKit
end Go.X
namespace Go.X
open Go Go.RowKit
abbrev vsD (m : Nat) (s : Nat → Nat → Int) : D := .lst 6 (arr m fun i => vecL (s i))
def AllSm (a : Alg) (m : Nat) (s : Nat → Nat → Int) : Prop := ∀ i, i < m → Small (s i) a.n a.p
def C_valid1 (P : Program) (N : FN) : Prop := ∀ {sz : Nat} {l : List (List D)} {e off : Nat} {a : Alg} {v : Nat → Int}, AlgAt l e off a → Byts v → Can P N.impl_valid_1 [vecD v, .pd sz l e off] (.val (.bool (!decide (Small v a.n a.p))))
def C_validL (P : Program) (N : FN) : Prop := ∀ {a : Alg} {q : Nat} {s : Nat → Nat → Int}, AlgIn a → q ≤ 1000 → (∀ i, Byts (s i)) → Can P N.impl_valid [algD a, vsD q s] (.val (.int .i64 (if dB (IsAlgP a ∧ AllSm a q s) = true then 0 else 1)))
def C_validE (P : Program) (N : FN) : Prop := ∀ {a : Alg}, AlgIn a → Can P N.impl_valid [algD a, .emp] (.val (.int .i64 (if dB (IsAlgP a) = true then 0 else 1)))
def C_sCodeL (P : Program) (N : FN) : Prop := ∀ {a : Alg} {q : Nat} {s : Nat → Nat → Int}, SAlgIn a → q ≤ 1000 → (∀ i, Byts (s i)) → Can P N.spec_l01Code [algD a, vsD q s] (.val (.int .i64 (if dB (sAlgP a ∧ AllSm a q s) = true then 0 else 1)))
def C_sCodeE (P : Program) (N : FN) : Prop := ∀ {a : Alg}, SAlgIn a → Can P N.spec_l01Code [algD a, .emp] (.val (.int .i64 (if dB (sAlgP a) = true then 0 else 1)))
end Go.X
namespace Go.X
open Go Go.RowKit
theorem dot_comm {n : Nat} {r v : Row} : dot n r v = dot n v r := sumN_ext fun i _ => Int.mul_comm ..
end Go.X
namespace Go.X
open Go Go.RowKit
theorem args1 {a : Ty} {l : List D} (h : argsHave [a] l) : ∃ x, l = [x] ∧ a.arg x := by
  match l, h with
  | [x], h => exact ⟨x, rfl, h.1⟩
def I64 (x : Int) : Prop := -9223372036854775808 ≤ x ∧ x ≤ 9223372036854775807
theorem arg_i64 {d : D} (h : (Ty.int .i64).arg d) : ∃ n, d = .int .i64 n ∧ I64 n := by
  obtain ⟨n, h, hw⟩ := h
  simp only [List.cons.injEq, and_true] at h
  exact ⟨n, h, bounds_i64 hw⟩
theorem AlgIn.s {a : Alg} (h : AlgIn a) : SAlgIn a := ⟨h.b, fun hs => by
  obtain ⟨h1, h2, h3⟩ := shape_iff.1 hs
  exact h.ok h1 h2 h3⟩
theorem PrIn.s {x : Pr} (h : PrIn x) : SPrIn x := ⟨h.c.s, h.o.s, h.z⟩
end Go.X
