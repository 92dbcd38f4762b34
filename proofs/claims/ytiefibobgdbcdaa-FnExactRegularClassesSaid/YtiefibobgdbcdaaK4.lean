import Derived.Test.YtiefibobgdbcdaaK3
set_option linter.all false
namespace Go.X
open Go Go.RowKit
end Go.X
namespace Go.X
open Go Go.RowKit
end Go.X
namespace Go.X
open Go Go.RowKit
def LinF (p : Int) (n : Nat) (F : (Nat → Int) → Int) : Prop := ∀ v, F v % p = sumN n (fun i => v i * F (basV i)) % p
theorem LinF.ext {p : Int} {n : Nat} {F G : (Nat → Int) → Int} (hF : LinF p n F) (hG : LinF p n G) (h : ∀ i, i < n → F (basV i) % p = G (basV i) % p) (v : Nat → Int) : F v % p = G v % p := by
  rw [hF v, hG v]
  exact sumN_mod fun i hi => cg_mul rfl (h i hi)
end Go.X
namespace Go.X
open Go Go.RowKit
theorem shape_iff {a : Alg} : ShapeP a ↔ a.p ∈ primes ∧ (1 ≤ a.n ∧ a.n ≤ 6) ∧ TabP a := by
  unfold ShapeP TabP
  constructor
  · rintro ⟨h1, h2, h3, h4⟩
    refine ⟨h1, h2, fun i j hi hj => ⟨fun k hk => ?_, fun hz k hk => ?_⟩, h3⟩
    · have := h4 i j hi hj k hk
      refine ⟨this.1, fun hn => this.2 ?_⟩
      split <;> omega
    · have := h4 i j hi hj k hk
      rw [if_pos hz] at this
      exact this.2 (by omega)
  · rintro ⟨h1, h2, h3, h4⟩
    refine ⟨h1, h2, h4, fun i j hi hj k hk => ?_⟩
    obtain ⟨g1, g2⟩ := h3 i j hi hj
    refine ⟨(g1 k hk).1, fun hn => ?_⟩
    by_cases c : a.n ≤ (i : Int) ∨ a.n ≤ (j : Int)
    · exact g2 c k hk
    · rw [if_neg c] at hn
      exact (g1 k hk).2 hn
end Go.X
namespace Go.X
open Go Go.RowKit
end Go.X
