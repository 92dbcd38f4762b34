import Derived.Test.YtckpoeaagbmlbaaGreatK5
import Derived.Test.YtckpoeaagbmlbaaGreatK4
set_option linter.all false
namespace Go.X
open Go Go.RowKit
def unoR (x y r z : Bool) (v : Int) : Res := if x = true then if y = true then if r = true then if z = true then .tup [.int .i64 v, .int .i64 0] else .tup [.int .i64 0, .int .i64 5] else .tup [.int .i64 0, .int .i64 2] else .tup [.int .i64 0, .int .i64 2] else .tup [.int .i64 0, .int .i64 1]
def iUno (a : Alg) (t : Nat → Int) (h g : Nat) : Int := formV a (timesV a (foldV a (iUnit a) t h) (foldV a (iUnit a) (iHandle a) g))
def sUno (a : Alg) (t : Nat → Int) (h g : Nat) : Int := formV a (foldV a (foldV a (sUnit a) (sHandle a) g) t h)
def genB (h g : Int) : Bool := decide ((0 ≤ h ∧ h ≤ 30) ∧ 0 ≤ g ∧ g ≤ 30)
def C_Uno (P : Program) (N : FN) : Prop := ∀ {a : Alg} {m : Nat} {s : Nat → Nat → Int} {t : Nat → Int} {h g : Int}, AlgIn a → m ≤ 1048576 → (∀ i, Byts (s i)) → Byts t →
  Can P N.impl_UnorientedNumber [algD a, vsD m s, vecD t, .int .i64 h, .int .i64 g] (unoR (dB (IsAlgP a ∧ AllSm a 1 fun _ => t)) (dB (m = a.n.toNat ∧ AllSm a m s)) (genB h g) (dB ((CommP a ∧ FrobP a ∧ iStarP a s) ∧ crossP a s (iKlein a s) t)) (iUno a t h.toNat g.toNat))
def C_sUno (P : Program) (N : FN) : Prop := ∀ {a : Alg} {m : Nat} {s : Nat → Nat → Int} {t : Nat → Int} {h g : Int}, SAlgIn a → m ≤ 1048576 → (∀ i, Byts (s i)) → Byts t → (sAlgP a → sFrobP a → ∀ j, j < a.n.toNat → (sCol a j).isSome = true) →
  Can P N.spec_UnorientedNumber [algD a, vsD m s, vecD t, .int .i64 h, .int .i64 g] (unoR (dB (sAlgP a ∧ AllSm a 1 fun _ => t)) (dB (m = a.n.toNat ∧ AllSm a m s)) (genB h g) (dB ((sCommP a ∧ sFrobP a ∧ sStarP a s) ∧ crossP a s (sKlein a s) t)) (sUno a t h.toNat g.toNat))
theorem uno_1 {y r z : Bool} {v : Int} : unoR false y r z v = .tup [.int .i64 0, .int .i64 1] := rfl
theorem uno_2 {r z : Bool} {v : Int} : unoR true false r z v = .tup [.int .i64 0, .int .i64 2] := rfl
theorem uno_3 {z : Bool} {v : Int} : unoR true true false z v = .tup [.int .i64 0, .int .i64 2] := rfl
theorem uno_5 {v : Int} : unoR true true true false v = .tup [.int .i64 0, .int .i64 5] := rfl
theorem uno_0 {v : Int} : unoR true true true true v = .tup [.int .i64 v, .int .i64 0] := rfl
end Go.X
namespace Go.X
open Go Go.RowKit
theorem pairC_of {p : Int} {B : Nat → Row} {f g : Nat → Nat → Nat → Int} {k : Nat} {acc : Nat → Int} : ∀ l, (∀ j, j < l → f k j = g k j) → pairC p B f acc k l = pairC p B g acc k l
  | 0, _ => rfl
  | l + 1, h => by
    unfold pairC
    rw [pairC_of l (fun j hj => h j (by omega)), h l (by omega)]
theorem pairR_of {p : Int} {B : Nat → Row} {f g : Nat → Nat → Nat → Int} {n : Nat} : ∀ k, (∀ i j, i < k → j < n → f i j = g i j) → pairR p B f n k = pairR p B g n k
  | 0, _ => rfl
  | k + 1, h => by
    unfold pairR
    rw [pairR_of k (fun i j hi hj => h i j (by omega) hj), pairC_of n (fun j hj => h k j (by omega) hj)]
theorem handle_same {a : Alg} (ha : AlgOk a) (hf : sFrobP a) : iHandle a = sHandle a := by
  unfold iHandle sHandle
  rw [iCop_len2 ha hf, pairR_ext _ fun i j hi hj => cop_same ha hf hi hj]
  exact pairR_of _ fun i j hi hj => (bas_times2 ha hi hj).symm
theorem unit_facts {a : Alg} (ha : AlgOk a) (hu : (findF a).isSome = true) : LU a (sUnit a) ∧ RU a (sUnit a) ∧ Rw a.p (sUnit a) ∧ ∀ i, a.n.toNat ≤ i → sUnit a i = 0 := by
  obtain ⟨h1, h2⟩ := unit_same ha
  have h3 := h1.2 hu
  obtain ⟨u, hu'⟩ := Option.isSome_iff_exists.1 h3
  have h4 := iFind_two ha hu'
  have e : sUnit a = u := by rw [← h2]; unfold iUnit; rw [hu']; rfl
  rw [e]; exact h4
theorem foldV_z {a : Alg} {x b : Nat → Int} (hz : ∀ i, a.n.toNat ≤ i → x i = 0) : ∀ k i, a.n.toNat ≤ i → foldV a x b k i = 0
  | 0, i, hi => hz i hi
  | k + 1, i, hi => times_ge (by omega)
theorem fold_comm {a : Alg} (ha : AlgOk a) (hs : AssocP a) {u x b : Nat → Int} (hu : RU a u) (hx : Rw a.p x) (hz : ∀ i, a.n.toNat ≤ i → x i = 0) : ∀ k, timesV a x (foldV a u b k) = foldV a x b k
  | 0 => times_ur (by have := prime_bd ha.p; omega) hu hx hz
  | k + 1 => by
    show timesV a x (timesV a (foldV a u b k) b) = timesV a (foldV a x b k) b
    rw [← times_assoc ha hs, fold_comm ha hs hu hx hz k]
end Go.X
