import Derived.Test.YtphelkciklpakaaK3
set_option linter.all false
namespace Go.X
open Go Go.RowKit
end Go.X
namespace Go.X
open Go Go.RowKit
def foldV (a : Alg) (x b : Nat → Int) : Nat → Nat → Int
  | 0 => x
  | k + 1 => timesV a (foldV a x b k) b
theorem foldV_rw {a : Alg} (hp : 1 ≤ a.p) {x b : Nat → Int} (hx : Rw a.p x) : ∀ k, Rw a.p (foldV a x b k)
  | 0 => hx
  | _ + 1 => times_rw hp _ _
def C_vpower (P : Program) (N : FN) : Prop := ∀ {sz : Nat} {l : List (List D)} {e off : Nat} {a : Alg} {v : Nat → Int} {k : Nat}, AlgAt l e off a → AlgOk a → Byts v → k ≤ 1000 → Can P N.impl_Algebra_power [.pd sz l e off, vecD v, .int .i64 k] (.val (vecD (foldV a (iUnit a) v k)))
end Go.X
namespace Go.X
open Go Go.RowKit
def LinF (p : Int) (n : Nat) (F : (Nat → Int) → Int) : Prop := ∀ v, F v % p = sumN n (fun i => v i * F (basV i)) % p
theorem LinF.ext {p : Int} {n : Nat} {F G : (Nat → Int) → Int} (hF : LinF p n F) (hG : LinF p n G) (h : ∀ i, i < n → F (basV i) % p = G (basV i) % p) (v : Nat → Int) : F v % p = G v % p := by
  rw [hF v, hG v]
  exact sumN_mod fun i hi => cg_mul rfl (h i hi)
theorem LinF.comp {p : Int} {n m : Nat} {F : (Nat → Int) → Int} {G : (Nat → Int) → Nat → Int} (hF : LinF p m F) (hG : ∀ k, k < m → LinF p n fun v => G v k) : LinF p n fun v => F (G v) := fun v => by
  show F (G v) % p = _
  rw [hF (G v)]
  have e1 : sumN m (fun k => G v k * F (basV k)) % p = sumN m (fun k => sumN n (fun i => v i * (G (basV i) k * F (basV k)))) % p := sumN_mod fun k hk => by
    rw [cg_mul (hG k hk v) rfl, Int.mul_comm, ← sumN_mul]
    congr 1
    exact sumN_ext fun i _ => by rw [Int.mul_comm, Int.mul_assoc]
  rw [e1, sumN_comm]
  refine sumN_mod fun i _ => ?_
  rw [sumN_mul]
  exact cg_mul rfl (hF (G (basV i))).symm
theorem lin_l {a : Alg} {w : Nat → Int} (q : Nat) : LinF a.p a.n.toNat fun v => timesV a v w q := fun v => by
  show timesV a v w q % a.p = _
  by_cases hq : q < a.n.toNat
  · rw [times_lt hq, cg_mod]
    unfold tsum
    refine sumN_mod fun i hi => ?_
    show sumN a.n.toNat (fun j => v i * w j * a.T i j q) % a.p = v i * timesV a (basV i) w q % a.p
    rw [times_r hi hq, cg_mul rfl (cg_mod a.p _)]
    congr 1
    unfold dot
    rw [← sumN_mul]
    exact sumN_ext fun j _ => by rw [Int.mul_assoc, Int.mul_comm (w j)]
  · rw [times_ge (by omega), sumN_zero fun i _ => by show v i * timesV a (basV i) w q = 0; rw [times_ge (by omega), Int.mul_zero]]
theorem lin_r {a : Alg} {v : Nat → Int} (q : Nat) : LinF a.p a.n.toNat fun w => timesV a v w q := fun w => by
  show timesV a v w q % a.p = _
  by_cases hq : q < a.n.toNat
  · rw [times_lt hq, cg_mod]
    unfold tsum
    rw [sumN_comm]
    refine sumN_mod fun j hj => ?_
    show sumN a.n.toNat (fun i => v i * w j * a.T i j q) % a.p = w j * timesV a v (basV j) q % a.p
    rw [times_l hj hq, cg_mul rfl (cg_mod a.p _)]
    congr 1
    unfold dot
    rw [← sumN_mul]
    exact sumN_ext fun i _ => by rw [Int.mul_comm (v i), Int.mul_assoc, Int.mul_comm (v i)]
  · rw [times_ge (by omega), sumN_zero fun i _ => by show w i * timesV a v (basV i) q = 0; rw [times_ge (by omega), Int.mul_zero]]
theorem lin_id {p : Int} {n q : Nat} (hq : q < n) : LinF p n fun v => v q := fun v => by
  show v q % p = _
  congr 1
  rw [sumN_one' (i := q) hq fun k _ hne => by
    show v k * (if q = k then 1 else 0) = 0
    rw [if_neg (fun h => hne h.symm), Int.mul_zero]]
  show v q = v q * (if q = q then 1 else 0)
  rw [if_pos rfl, Int.mul_one]
theorem bas_times2 {a : Alg} (ha : AlgOk a) {i j : Nat} (hi : i < a.n.toNat) (hj : j < a.n.toNat) : timesV a (basV i) (basV j) = a.T i j := funext fun k => bas_times ha (by omega) (by omega) k
theorem times_assoc {a : Alg} (ha : AlgOk a) (hs : AssocP a) (u v w : Nat → Int) : timesV a (timesV a u v) w = timesV a u (timesV a v w) := by
  have hp2 := prime_bd ha.p
  funext q
  rw [← rw_mod (times_rw (a := a) (by omega) (timesV a u v) w) q, ← rw_mod (times_rw (a := a) (by omega) u (timesV a v w)) q]
  by_cases hq : q < a.n.toNat
  · refine LinF.ext (F := fun u => timesV a (timesV a u v) w q) (G := fun u => timesV a u (timesV a v w) q) (LinF.comp (F := fun x => timesV a x w q) (G := fun u => timesV a u v) (lin_l q) fun k _ => lin_l k) (lin_l q) (fun i hi => ?_) u
    refine LinF.ext (F := fun v => timesV a (timesV a (basV i) v) w q) (G := fun v => timesV a (basV i) (timesV a v w) q) (LinF.comp (F := fun x => timesV a x w q) (G := fun v => timesV a (basV i) v) (lin_l q) fun k _ => lin_r k)
      (LinF.comp (F := fun x => timesV a (basV i) x q) (G := fun v => timesV a v w) (lin_r q) fun k _ => lin_l k) (fun j hj => ?_) v
    refine LinF.ext (F := fun w => timesV a (timesV a (basV i) (basV j)) w q) (G := fun w => timesV a (basV i) (timesV a (basV j) w) q) (lin_r q)
      (LinF.comp (F := fun x => timesV a (basV i) x q) (G := fun w => timesV a (basV j) w) (lin_r q) fun k _ => lin_r k) (fun k hk => ?_) w
    show timesV a (timesV a (basV i) (basV j)) (basV k) q % a.p = timesV a (basV i) (timesV a (basV j) (basV k)) q % a.p
    rw [bas_times2 ha hi hj, bas_times2 ha hj hk]
    have hn := ha.n
    rw [hs i j k (by omega) (by omega) (by omega) q (by omega)]
  · rw [times_ge (by omega), times_ge (by omega)]
theorem times_ur {a : Alg} (hp : 1 ≤ a.p) {u x : Nat → Int} (hu : RU a u) (hx : Rw a.p x) (hz : ∀ i, a.n.toNat ≤ i → x i = 0) : timesV a x u = x := by
  funext q
  by_cases hq : q < a.n.toNat
  · rw [← rw_mod (times_rw (a := a) hp x u) q, ← rw_mod hx q]
    refine LinF.ext (F := fun x => timesV a x u q) (G := fun x => x q) (lin_l q) (lin_id hq) (fun i hi => ?_) x
    show timesV a (basV i) u q % a.p = _
    rw [hu i q hi hq]
  · rw [times_ge (by omega), hz q (by omega)]
theorem times_ul {a : Alg} (hp : 1 ≤ a.p) {u x : Nat → Int} (hu : LU a u) (hx : Rw a.p x) (hz : ∀ i, a.n.toNat ≤ i → x i = 0) : timesV a u x = x := by
  funext q
  by_cases hq : q < a.n.toNat
  · rw [← rw_mod (times_rw (a := a) hp u x) q, ← rw_mod hx q]
    refine LinF.ext (F := fun x => timesV a u x q) (G := fun x => x q) (lin_r q) (lin_id hq) (fun i hi => ?_) x
    show timesV a u (basV i) q % a.p = _
    rw [hu i q hi hq]
  · rw [times_ge (by omega), hz q (by omega)]
end Go.X
namespace Go.X
open Go Go.RowKit
theorem shape_iff {a : Alg} : ShapeP a ↔ a.p ∈ primes ∧ (1 ≤ a.n ∧ a.n ≤ 6) ∧ TabP a := by
  unfold ShapeP TabP
  constructor
  · rintro ⟨h1, h2, h3, h4⟩
    refine ⟨h1, h2, fun i j hi hj => ⟨fun k hk => ?_, fun hz k hk => ?_⟩, h3⟩
    · have := h4 i j hi hj k hk
      refine ⟨this.1, fun hn => this.2 ?_⟩
      split <;> omega
    · have := h4 i j hi hj k hk
      rw [if_pos hz] at this
      exact this.2 (by omega)
  · rintro ⟨h1, h2, h3, h4⟩
    refine ⟨h1, h2, h4, fun i j hi hj k hk => ?_⟩
    obtain ⟨g1, g2⟩ := h3 i j hi hj
    refine ⟨(g1 k hk).1, fun hn => ?_⟩
    by_cases c : a.n ≤ (i : Int) ∨ a.n ≤ (j : Int)
    · exact g2 c k hk
    · rw [if_neg c] at hn
      exact (g1 k hk).2 hn
theorem alg_iff {a : Alg} (h : AlgIn a) : IsAlgP a ↔ sAlgP a := by
  unfold IsAlgP sAlgP
  rw [shape_iff]
  constructor
  · rintro ⟨h1, h2, h3, h4, h5⟩
    exact ⟨⟨h1, h2, h3⟩, h4, (unit_same (h.ok h1 h2 h3)).1.1 h5⟩
  · rintro ⟨⟨h1, h2, h3⟩, h4, h5⟩
    exact ⟨h1, h2, h3, h4, (unit_same (h.ok h1 h2 h3)).1.2 h5⟩
end Go.X
namespace Go.X
open Go Go.RowKit
end Go.X
