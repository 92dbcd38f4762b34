import Derived.Test.YtehopmcogekcoaaK5
import Derived.Test.YtehopmcogekcoaaK6
set_option linter.all false
namespace Go.X
open Go Go.RowKit
theorem pairC_of {p : Int} {B : Nat → Row} {f g : Nat → Nat → Nat → Int} {k : Nat} {acc : Nat → Int} : ∀ l, (∀ j, j < l → f k j = g k j) → pairC p B f acc k l = pairC p B g acc k l
  | 0, _ => rfl
  | l + 1, h => by
    unfold pairC
    rw [pairC_of l (fun j hj => h j (by omega)), h l (by omega)]
theorem pairR_of {p : Int} {B : Nat → Row} {f g : Nat → Nat → Nat → Int} {n : Nat} : ∀ k, (∀ i j, i < k → j < n → f i j = g i j) → pairR p B f n k = pairR p B g n k
  | 0, _ => rfl
  | k + 1, h => by
    unfold pairR
    rw [pairR_of k (fun i j hi hj => h i j (by omega) hj), pairC_of n (fun j hj => h k j (by omega) hj)]
theorem handle_same {a : Alg} (ha : AlgOk a) (hf : sFrobP a) : iHandle a = sHandle a := by
  unfold iHandle sHandle
  rw [iCop_len2 ha hf, pairR_ext _ fun i j hi hj => cop_same ha hf hi hj]
  exact pairR_of _ fun i j hi hj => (bas_times2 ha hi hj).symm
theorem unit_facts {a : Alg} (ha : AlgOk a) (hu : (findF a).isSome = true) : LU a (sUnit a) ∧ RU a (sUnit a) ∧ Rw a.p (sUnit a) ∧ ∀ i, a.n.toNat ≤ i → sUnit a i = 0 := by
  obtain ⟨h1, h2⟩ := unit_same ha
  have h3 := h1.2 hu
  obtain ⟨u, hu'⟩ := Option.isSome_iff_exists.1 h3
  have h4 := iFind_two ha hu'
  have e : sUnit a = u := by rw [← h2]; unfold iUnit; rw [hu']; rfl
  rw [e]; exact h4
theorem foldV_z {a : Alg} {x b : Nat → Int} (hz : ∀ i, a.n.toNat ≤ i → x i = 0) : ∀ k i, a.n.toNat ≤ i → foldV a x b k i = 0
  | 0, i, hi => hz i hi
  | k + 1, i, hi => times_ge (by omega)
theorem fold_comm {a : Alg} (ha : AlgOk a) (hs : AssocP a) {u x b : Nat → Int} (hu : RU a u) (hx : Rw a.p x) (hz : ∀ i, a.n.toNat ≤ i → x i = 0) : ∀ k, timesV a x (foldV a u b k) = foldV a x b k
  | 0 => times_ur (by have := prime_bd ha.p; omega) hu hx hz
  | k + 1 => by
    show timesV a x (timesV a (foldV a u b k) b) = timesV a (foldV a x b k) b
    rw [← times_assoc ha hs, fold_comm ha hs hu hx hz k]
theorem bd_same {x : Pr} (hx : PrIn x) (h : sIsP x) (g k : Nat) : iBd x g k = sBd x g k := by
  have hc := hx.s.c.ok h.1.1.1
  have ho := hx.s.o.ok h.1.2.1.1
  have hp2 := prime_bd hc.p
  obtain ⟨_, u2, u3, u4⟩ := unit_facts hc h.1.1.2.2
  unfold iBd sBd
  rw [(unit_same hc).2, (unit_same ho).2, handle_same hc h.1.2.2.2.2.1, unzip_same hc h.1.2.2.2.2.1 h.1.2.2.2.1]
  rw [fold_comm hc h.1.1.2.1 u2 (foldV_rw (by omega) u3 g) (foldV_z u4 g)]
end Go.X
