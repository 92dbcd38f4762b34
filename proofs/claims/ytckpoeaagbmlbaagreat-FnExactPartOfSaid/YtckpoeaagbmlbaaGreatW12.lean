import Derived.Test.YtckpoeaagbmlbaaGreatK9
import Derived.Test.YtckpoeaagbmlbaaGreatW6
import Derived.Test.YtckpoeaagbmlbaaGreatW7
set_option linter.all false
namespace Go.X
open Go Go.RowKit
set_option maxRecDepth 100000
set_option maxHeartbeats 8000000
variable {P : Program} {N : FN}
theorem flat_vecs {m : Nat} {f : Nat → Nat → Int} : ∀ e ∈ arr m (fun i => vecL (f i)), ∀ x ∈ e, Flat x := fun e he x hx => by
  unfold arr at he
  obtain ⟨i, _, rfl⟩ := List.mem_map.1 he
  unfold vecL cel arr at hx
  obtain ⟨j, _, rfl⟩ := List.mem_map.1 hx
  exact .int _ _
theorem flat_nu {k : IntKind} {c : Int} : ∀ x ∈ ([] : List D) ++ [.int k c], Flat x := fun x hx => by
  simp at hx; subst hx; exact .int _ _
theorem eqvs_r (hE : C_eqVS P N) {m : Nat} {s : Nat → Nat → Int} (hm : m ≤ 1048576) : Can P N.laws_eqVectorS [vsD m s, vsD m s] (.val (.bool true)) := can_t (hE hm hm) ⟨rfl, fun _ _ => VEq.rfl'⟩
end Go.X
