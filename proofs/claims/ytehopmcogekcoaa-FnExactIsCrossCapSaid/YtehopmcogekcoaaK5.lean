import Derived.Test.YtehopmcogekcoaaK4
set_option linter.all false
namespace Go.X
open Go Go.RowKit
def foldV (a : Alg) (x b : Nat → Int) : Nat → Nat → Int
  | 0 => x
  | k + 1 => timesV a (foldV a x b k) b
theorem foldV_rw {a : Alg} (hp : 1 ≤ a.p) {x b : Nat → Int} (hx : Rw a.p x) : ∀ k, Rw a.p (foldV a x b k)
  | 0 => hx
  | _ + 1 => times_rw hp _ _
def iHandle (a : Alg) : Nat → Int := pairR a.p (fun k => (iCop a).getD k Z) a.T a.n.toNat (iCop a).length
def sHandle (a : Alg) : Nat → Int := pairR a.p (sCop a) (fun k l => timesV a (basV k) (basV l)) a.n.toNat a.n.toNat
theorem iHandle_rw {a : Alg} (hp : 1 ≤ a.p) : Rw a.p (iHandle a) := pairR_rw hp _
theorem sHandle_rw {a : Alg} (hp : 1 ≤ a.p) : Rw a.p (sHandle a) := pairR_rw hp _
def C_paired1 (P : Program) (N : FN) : Prop := ∀ {sz : Nat} {l : List (List D)} {e off : Nat} {a : Alg} {g : FuncId} {c : D} {of : Nat → Nat → Nat → Int}, AlgAt l e off a → AlgOk a → (∀ k l, Byts (of k l)) →
  (∀ k l : Nat, k < (iCop a).length → l < a.n.toNat → Can P g [.int .i64 k, .int .i64 l, c] (.val (vecD (of k l)))) → Can P N.impl_Algebra_paired [.pd sz l e off, .fn g [] [c]] (.val (vecD (pairR a.p (fun k => (iCop a).getD k Z) of a.n.toNat (iCop a).length)))
def C_handle1 (P : Program) (N : FN) : Prop := ∀ {sz : Nat} {l : List (List D)} {e off : Nat} {a : Alg} {k j : Nat}, AlgAt l e off a → k < 6 → j < 6 → Can P N.impl_Algebra_handle_1 [.int .i64 k, .int .i64 j, .pd 1 [[.pd sz l e off]] 0 0] (.val (vecD (a.T k j)))
def C_handle (P : Program) (N : FN) : Prop := ∀ {sz : Nat} {l : List (List D)} {e off : Nat} {a : Alg}, AlgAt l e off a → AlgOk a → Can P N.impl_Algebra_handle [.pd sz l e off] (.val (vecD (iHandle a)))
def C_vpower (P : Program) (N : FN) : Prop := ∀ {sz : Nat} {l : List (List D)} {e off : Nat} {a : Alg} {v : Nat → Int} {k : Nat}, AlgAt l e off a → AlgOk a → Byts v → k ≤ 1000 → Can P N.impl_Algebra_power [.pd sz l e off, vecD v, .int .i64 k] (.val (vecD (foldV a (iUnit a) v k)))
def C_isGenus (P : Program) (N : FN) : Prop := ∀ {g : Int}, Can P N.impl_isGenus [.int .i64 g] (.val (.bool (decide (0 ≤ g ∧ g ≤ 30))))
def C_sHandle (P : Program) (N : FN) : Prop := ∀ {a : Alg}, AlgOk a → (∀ j, j < a.n.toNat → (sCol a j).isSome = true) → Can P N.spec_l02Handle [algD a] (.val (vecD (sHandle a)))
def C_sHPower (P : Program) (N : FN) : Prop := ∀ {a : Alg} {g : Nat}, AlgOk a → (∀ j, j < a.n.toNat → (sCol a j).isSome = true) → g ≤ 1000 → Can P N.spec_l02Power [algD a, .int .i64 g] (.val (vecD (foldV a (sUnit a) (sHandle a) g)))
def bdR (is : Bool) (g k : Int) (v : Int) : Res := if is = true then if (0 ≤ g ∧ g ≤ 30) ∧ 0 ≤ k ∧ k ≤ 30 then .tup [.int .i64 v, .int .i64 0] else .tup [.int .i64 0, .int .i64 2] else .tup [.int .i64 0, .int .i64 1]
def iBd (x : Pr) (g k : Nat) : Int := formV x.c (timesV x.c (foldV x.c (iUnit x.c) (iHandle x.c) g) (foldV x.c (iUnit x.c) (iUnzip x (iUnit x.o)) k))
def sBd (x : Pr) (g k : Nat) : Int := formV x.c (foldV x.c (foldV x.c (sUnit x.c) (sHandle x.c) g) (sUnzip x (sUnit x.o)) k)
def C_BoundaryNumber (P : Program) (N : FN) : Prop := ∀ {x : Pr} {g k : Int}, PrIn x → Can P N.impl_BoundaryNumber [pairD x, .int .i64 g, .int .i64 k] (bdR (dB (IsPairP x)) g k (iBd x g.toNat k.toNat))
def C_sBoundaryNumber (P : Program) (N : FN) : Prop := ∀ {x : Pr} {g k : Int}, SPrIn x → (sIsP x → (∀ j, j < x.c.n.toNat → (sCol x.c j).isSome = true)) → Can P N.spec_BoundaryNumber [pairD x, .int .i64 g, .int .i64 k] (bdR (dB (sIsP x)) g k (sBd x g.toNat k.toNat))
end Go.X
namespace Go.X
open Go Go.RowKit
def LinF (p : Int) (n : Nat) (F : (Nat → Int) → Int) : Prop := ∀ v, F v % p = sumN n (fun i => v i * F (basV i)) % p
theorem LinF.ext {p : Int} {n : Nat} {F G : (Nat → Int) → Int} (hF : LinF p n F) (hG : LinF p n G) (h : ∀ i, i < n → F (basV i) % p = G (basV i) % p) (v : Nat → Int) : F v % p = G v % p := by
  rw [hF v, hG v]
  exact sumN_mod fun i hi => cg_mul rfl (h i hi)
theorem LinF.comp {p : Int} {n m : Nat} {F : (Nat → Int) → Int} {G : (Nat → Int) → Nat → Int} (hF : LinF p m F) (hG : ∀ k, k < m → LinF p n fun v => G v k) : LinF p n fun v => F (G v) := fun v => by
  show F (G v) % p = _
  rw [hF (G v)]
  have e1 : sumN m (fun k => G v k * F (basV k)) % p = sumN m (fun k => sumN n (fun i => v i * (G (basV i) k * F (basV k)))) % p := sumN_mod fun k hk => by
    rw [cg_mul (hG k hk v) rfl, Int.mul_comm, ← sumN_mul]
    congr 1
    exact sumN_ext fun i _ => by rw [Int.mul_comm, Int.mul_assoc]
  rw [e1, sumN_comm]
  refine sumN_mod fun i _ => ?_
  rw [sumN_mul]
  exact cg_mul rfl (hF (G (basV i))).symm
theorem lin_l {a : Alg} {w : Nat → Int} (q : Nat) : LinF a.p a.n.toNat fun v => timesV a v w q := fun v => by
  show timesV a v w q % a.p = _
  by_cases hq : q < a.n.toNat
  · rw [times_lt hq, cg_mod]
    unfold tsum
    refine sumN_mod fun i hi => ?_
    show sumN a.n.toNat (fun j => v i * w j * a.T i j q) % a.p = v i * timesV a (basV i) w q % a.p
    rw [times_r hi hq, cg_mul rfl (cg_mod a.p _)]
    congr 1
    unfold dot
    rw [← sumN_mul]
    exact sumN_ext fun j _ => by rw [Int.mul_assoc, Int.mul_comm (w j)]
  · rw [times_ge (by omega), sumN_zero fun i _ => by show v i * timesV a (basV i) w q = 0; rw [times_ge (by omega), Int.mul_zero]]
theorem lin_r {a : Alg} {v : Nat → Int} (q : Nat) : LinF a.p a.n.toNat fun w => timesV a v w q := fun w => by
  show timesV a v w q % a.p = _
  by_cases hq : q < a.n.toNat
  · rw [times_lt hq, cg_mod]
    unfold tsum
    rw [sumN_comm]
    refine sumN_mod fun j hj => ?_
    show sumN a.n.toNat (fun i => v i * w j * a.T i j q) % a.p = w j * timesV a v (basV j) q % a.p
    rw [times_l hj hq, cg_mul rfl (cg_mod a.p _)]
    congr 1
    unfold dot
    rw [← sumN_mul]
    exact sumN_ext fun i _ => by rw [Int.mul_comm (v i), Int.mul_assoc, Int.mul_comm (v i)]
  · rw [times_ge (by omega), sumN_zero fun i _ => by show w i * timesV a v (basV i) q = 0; rw [times_ge (by omega), Int.mul_zero]]
theorem lin_id {p : Int} {n q : Nat} (hq : q < n) : LinF p n fun v => v q := fun v => by
  show v q % p = _
  congr 1
  rw [sumN_one' (i := q) hq fun k _ hne => by
    show v k * (if q = k then 1 else 0) = 0
    rw [if_neg (fun h => hne h.symm), Int.mul_zero]]
  show v q = v q * (if q = q then 1 else 0)
  rw [if_pos rfl, Int.mul_one]
theorem bas_times2 {a : Alg} (ha : AlgOk a) {i j : Nat} (hi : i < a.n.toNat) (hj : j < a.n.toNat) : timesV a (basV i) (basV j) = a.T i j := funext fun k => bas_times ha (by omega) (by omega) k
theorem times_assoc {a : Alg} (ha : AlgOk a) (hs : AssocP a) (u v w : Nat → Int) : timesV a (timesV a u v) w = timesV a u (timesV a v w) := by
  have hp2 := prime_bd ha.p
  funext q
  rw [← rw_mod (times_rw (a := a) (by omega) (timesV a u v) w) q, ← rw_mod (times_rw (a := a) (by omega) u (timesV a v w)) q]
  by_cases hq : q < a.n.toNat
  · refine LinF.ext (F := fun u => timesV a (timesV a u v) w q) (G := fun u => timesV a u (timesV a v w) q) (LinF.comp (F := fun x => timesV a x w q) (G := fun u => timesV a u v) (lin_l q) fun k _ => lin_l k) (lin_l q) (fun i hi => ?_) u
    refine LinF.ext (F := fun v => timesV a (timesV a (basV i) v) w q) (G := fun v => timesV a (basV i) (timesV a v w) q) (LinF.comp (F := fun x => timesV a x w q) (G := fun v => timesV a (basV i) v) (lin_l q) fun k _ => lin_r k)
      (LinF.comp (F := fun x => timesV a (basV i) x q) (G := fun v => timesV a v w) (lin_r q) fun k _ => lin_l k) (fun j hj => ?_) v
    refine LinF.ext (F := fun w => timesV a (timesV a (basV i) (basV j)) w q) (G := fun w => timesV a (basV i) (timesV a (basV j) w) q) (lin_r q)
      (LinF.comp (F := fun x => timesV a (basV i) x q) (G := fun w => timesV a (basV j) w) (lin_r q) fun k _ => lin_r k) (fun k hk => ?_) w
    show timesV a (timesV a (basV i) (basV j)) (basV k) q % a.p = timesV a (basV i) (timesV a (basV j) (basV k)) q % a.p
    rw [bas_times2 ha hi hj, bas_times2 ha hj hk]
    have hn := ha.n
    rw [hs i j k (by omega) (by omega) (by omega) q (by omega)]
  · rw [times_ge (by omega), times_ge (by omega)]
theorem times_ur {a : Alg} (hp : 1 ≤ a.p) {u x : Nat → Int} (hu : RU a u) (hx : Rw a.p x) (hz : ∀ i, a.n.toNat ≤ i → x i = 0) : timesV a x u = x := by
  funext q
  by_cases hq : q < a.n.toNat
  · rw [← rw_mod (times_rw (a := a) hp x u) q, ← rw_mod hx q]
    refine LinF.ext (F := fun x => timesV a x u q) (G := fun x => x q) (lin_l q) (lin_id hq) (fun i hi => ?_) x
    show timesV a (basV i) u q % a.p = _
    rw [hu i q hi hq]
  · rw [times_ge (by omega), hz q (by omega)]
end Go.X
namespace Go.X
open Go Go.RowKit
theorem VEq.rfl' {v : Nat → Int} : VEq v v := fun _ _ => rfl
theorem shape_iff {a : Alg} : ShapeP a ↔ a.p ∈ primes ∧ (1 ≤ a.n ∧ a.n ≤ 6) ∧ TabP a := by
  unfold ShapeP TabP
  constructor
  · rintro ⟨h1, h2, h3, h4⟩
    refine ⟨h1, h2, fun i j hi hj => ⟨fun k hk => ?_, fun hz k hk => ?_⟩, h3⟩
    · have := h4 i j hi hj k hk
      refine ⟨this.1, fun hn => this.2 ?_⟩
      split <;> omega
    · have := h4 i j hi hj k hk
      rw [if_pos hz] at this
      exact this.2 (by omega)
  · rintro ⟨h1, h2, h3, h4⟩
    refine ⟨h1, h2, h4, fun i j hi hj k hk => ?_⟩
    obtain ⟨g1, g2⟩ := h3 i j hi hj
    refine ⟨(g1 k hk).1, fun hn => ?_⟩
    by_cases c : a.n ≤ (i : Int) ∨ a.n ≤ (j : Int)
    · exact g2 c k hk
    · rw [if_neg c] at hn
      exact (g1 k hk).2 hn
theorem alg_iff {a : Alg} (h : AlgIn a) : IsAlgP a ↔ sAlgP a := by
  unfold IsAlgP sAlgP
  rw [shape_iff]
  constructor
  · rintro ⟨h1, h2, h3, h4, h5⟩
    exact ⟨⟨h1, h2, h3⟩, h4, (unit_same (h.ok h1 h2 h3)).1.1 h5⟩
  · rintro ⟨⟨h1, h2, h3⟩, h4, h5⟩
    exact ⟨h1, h2, h3, h4, (unit_same (h.ok h1 h2 h3)).1.2 h5⟩
theorem comm_iff {a : Alg} (ha : AlgOk a) : CommP a ↔ sCommP a := by
  have hn := ha.n
  constructor
  · intro h i hi j hj
    by_cases c : (i : Int) < a.n
    · exact h i j c hj
    · intro k hk
      rw [ha.z i j k (by omega), ha.z j i k (by omega)]
  · intro h i j hi hj
    exact h i (by omega) j hj
theorem frob_iff {a : Alg} (ha : AlgOk a) : FrobP a ↔ sFrobP a := by
  have hn := ha.n
  have := rank_eq (m := a.n.toNat) ha.p (tabL_rw ha a.n.toNat)
  unfold FrobP sFrobP
  omega
theorem algs_iff {x : Pr} (hi : PrIn x) : AlgsP x ↔ sAlgsP x := by
  unfold AlgsP sAlgsP
  rw [alg_iff hi.c, alg_iff hi.o]
  constructor
  · rintro ⟨h1, h2, h3, h4, h5, h6, h7⟩
    have okc := hi.c.alg ((alg_iff hi.c).2 h1)
    have oko := hi.o.alg ((alg_iff hi.o).2 h2)
    exact ⟨h1, h2, h3, (comm_iff okc).1 h4, (frob_iff okc).1 h5, (frob_iff oko).1 h6, h7⟩
  · rintro ⟨h1, h2, h3, h4, h5, h6, h7⟩
    have okc := hi.c.alg ((alg_iff hi.c).2 h1)
    have oko := hi.o.alg ((alg_iff hi.o).2 h2)
    exact ⟨h1, h2, h3, (comm_iff okc).2 h4, (frob_iff okc).2 h5, (frob_iff oko).2 h6, h7⟩
theorem zipN_ge {p : Int} (hp : 1 ≤ p) {z : Nat → Nat → Int} {v : Nat → Int} {n : Nat} : ∀ d, n + d ≤ 6 → (∀ i : Nat, i < 6 → n ≤ i → VEq (z i) Z) → VEq (zipN p z v (n + d)) (zipN p z v n)
  | 0, _, _ => VEq.rfl'
  | d + 1, hd, hz => fun k hk => by
    have ih := zipN_ge (v := v) hp d (by omega) hz k hk
    have h1 := hz (n + d) (by omega) (by omega) k hk
    have h2 := rw_mod (zipN_rw (z := z) (v := v) hp (n + d)) k
    show (zipN p z v (n + d) k + v (n + d) * z (n + d) k) % p = _
    rw [h1, show v (n + d) * Z k = 0 from Int.mul_zero _, Int.add_zero, h2, ih]
theorem zip6 {p : Int} (hp : 1 ≤ p) {z : Nat → Nat → Int} {v : Nat → Int} {n : Nat} (hn : n ≤ 6) (hz : ∀ i : Nat, i < 6 → n ≤ i → VEq (z i) Z) : VEq (zipN p z v 6) (zipN p z v n) := by
  have := zipN_ge (v := v) hp (6 - n) (by omega) hz
  rwa [show n + (6 - n) = 6 by omega] at this
theorem zip_zero {p : Int} {z : Nat → Nat → Int} {v : Nat → Int} : ∀ n, n ≤ 6 → VEq v Z → VEq (zipN p z v n) Z
  | 0, _, _ => VEq.rfl'
  | n + 1, hn, hv => fun k hk => by
    have ih := zip_zero (p := p) (z := z) n (by omega) hv k hk
    show (zipN p z v n k + v n * z n k) % p = 0
    rw [ih, hv n (by omega), show Z n * z n k = 0 from Int.zero_mul _]; simp [Z]
theorem times_zl {a : Alg} {v w : Nat → Int} (hn : a.n ≤ 6) (hv : VEq v Z) : VEq (timesV a v w) Z := fun k hk => by
  unfold timesV
  split
  · unfold tsum
    rw [sumN_zero fun i hi => sumN_zero fun j _ => by rw [hv i (by omega), show Z i * w j = 0 from Int.zero_mul _, Int.zero_mul]]
    simp [Z]
  · rfl
theorem times_zr {a : Alg} {v w : Nat → Int} (hn : a.n ≤ 6) (hw : VEq w Z) : VEq (timesV a v w) Z := fun k hk => by
  unfold timesV
  split
  · unfold tsum
    rw [sumN_zero fun i hi => sumN_zero fun j hj => by rw [hw j (by omega), show v i * Z j = 0 from Int.mul_zero _, Int.zero_mul]]
    simp [Z]
  · rfl
theorem VEq.trans' {u v w : Nat → Int} (h : VEq u v) (g : VEq v w) : VEq u w := fun i hi => (h i hi).trans (g i hi)
theorem VEq.symm' {u v : Nat → Int} (h : VEq u v) : VEq v u := fun i hi => (h i hi).symm
theorem pair_iff {x : Pr} (hi : PrIn x) : IsPairP x ↔ sIsP x := by
  unfold IsPairP sIsP
  rw [algs_iff hi]
  constructor
  · rintro ⟨h1, h2, h3⟩
    have okc := hi.c.alg ((alg_iff hi.c).2 h1.1)
    have oko := hi.o.alg ((alg_iff hi.o).2 h1.2.1)
    have hc := okc.n
    have ho := oko.n
    have hp2 := prime_bd oko.p
    have hz : ∀ i : Nat, i < 6 → x.c.n.toNat ≤ i → VEq (x.z i) Z := fun i h hle => (h2 i h).1.2 (by omega)
    have z6 : ∀ v, VEq (zipN x.o.p x.z v 6) (zipN x.o.p x.z v x.c.n.toNat) := fun v => zip6 (by omega) (by omega) hz
    refine ⟨h1, fun i h => (h2 i h).1, fun i h => ⟨fun j hj => (z6 _).symm'.trans' ((h2 i (by omega)).2.2 j (by omega)), (h2 i (by omega)).2.1⟩, ?_⟩
    rw [← (unit_same okc).2, ← (unit_same oko).2]
    exact (z6 _).symm'.trans' h3
  · rintro ⟨h1, h2, h3, h4⟩
    have okc := hi.c.alg ((alg_iff hi.c).2 h1.1)
    have oko := hi.o.alg ((alg_iff hi.o).2 h1.2.1)
    have hc := okc.n
    have ho := oko.n
    have hp2 := prime_bd oko.p
    have hz : ∀ i : Nat, i < 6 → x.c.n.toNat ≤ i → VEq (x.z i) Z := fun i h hle => (h2 i h).2 (by omega)
    have z6 : ∀ v, VEq (zipN x.o.p x.z v 6) (zipN x.o.p x.z v x.c.n.toNat) := fun v => zip6 (by omega) (by omega) hz
    refine ⟨h1, fun i h => ⟨h2 i h, fun j hj => ?_, fun j hj => ?_⟩, ?_⟩
    · by_cases c : (i : Int) < x.c.n
      · exact (h3 i c).2 j hj
      · have := hz i h (by omega)
        exact (times_zl (by omega) this).trans' (times_zr (by omega) this).symm'
    · by_cases c : (i : Int) < x.c.n
      · by_cases c2 : (j : Int) < x.c.n
        · exact (z6 _).trans' ((h3 i c).1 j c2)
        · exact (zip_zero 6 (by omega) (fun k _ => okc.z i j k (by omega))).trans' (times_zr (by omega) (hz j hj (by omega))).symm'
      · exact (zip_zero 6 (by omega) (fun k _ => okc.z i j k (by omega))).trans' (times_zl (by omega) (hz i h (by omega))).symm'
    · rw [(unit_same okc).2, (unit_same oko).2]
      exact (z6 _).trans' h4
theorem dot_split {m n : Nat} {r z : Row} : dot (m + n) r z = dot m r z + sumN n fun i => r (m + i) * z (m + i) := by
  unfold dot
  induction n with
  | zero => simp [sumN]
  | succ n ih =>
    rw [← Nat.add_assoc]
    simp only [sumN]
    rw [ih]; omega
def two (n : Nat) (u v : Row) : Row := fun i => if i < n then u i else v (i - n)
theorem dot_two {n : Nat} {r u v : Row} : dot (n + n) r (two n u v) = dot n r u + dot n (fun i => r (n + i)) v := by
  rw [dot_split]
  congr 1
  · exact sumN_ext fun i hi => by unfold two; rw [if_pos hi]
  · refine sumN_ext fun i hi => ?_
    unfold two; rw [if_neg (by omega), show n + i - n = i by omega]
theorem aug_dot {a : Alg} {i : Nat} (hi : i < a.n.toNat) {u v : Row} : dot (a.n.toNat + a.n.toNat) (augR a i) (two a.n.toNat u v) = dot a.n.toNat (tabR a i) u + v i := by
  rw [dot_two]
  congr 1
  · exact sumN_ext fun j hj => by unfold augR; rw [if_pos hj]
  · unfold dot
    rw [sumN_one' (i := i) hi fun k hk hne => ?_]
    · have : augR a i (a.n.toNat + i) = 1 := by
        unfold augR
        rw [if_neg (by omega), show a.n.toNat + i - a.n.toNat = i by omega, if_pos rfl]
      show augR a i (a.n.toNat + i) * v i = v i
      rw [this, Int.one_mul]
    · have : augR a i (a.n.toNat + k) = 0 := by
        unfold augR
        rw [if_neg (by omega), show a.n.toNat + k - a.n.toNat = k by omega, if_neg hne]
      show augR a i (a.n.toNat + k) * v k = 0
      rw [this, Int.zero_mul]
theorem ker_aug {a : Alg} {u v : Row} : Ker a.p (a.n.toNat + a.n.toNat) (augL a) (two a.n.toNat u v) ↔ ∀ i, i < a.n.toNat → (dot a.n.toNat (tabR a i) u + v i) % a.p = 0 := by
  unfold Ker augL arr
  constructor
  · intro h i hi
    rw [← aug_dot hi]
    exact h _ (List.mem_map.2 ⟨i, by simpa using hi, rfl⟩)
  · intro h r hr
    obtain ⟨i, hi, rfl⟩ := List.mem_map.1 hr
    rw [aug_dot (by simpa using hi)]
    exact h i (by simpa using hi)
theorem ker_tab {a : Alg} {u : Row} : Ker a.p a.n.toNat (tabL a a.n.toNat) u ↔ ∀ i, i < a.n.toNat → dot a.n.toNat (tabR a i) u % a.p = 0 := by
  unfold Ker tabL arr
  constructor
  · intro h i hi
    exact h _ (List.mem_map.2 ⟨i, by simpa using hi, rfl⟩)
  · intro h r hr
    obtain ⟨i, hi, rfl⟩ := List.mem_map.1 hr
    exact h i (by simpa using hi)
theorem cop_rr {a : Alg} (ha : AlgOk a) (hf : sFrobP a) : (redF a.p (a.n.toNat + a.n.toNat) (augL a)).length = a.n.toNat ∧ ∀ ld, RR a.p (a.n.toNat + a.n.toNat) (redF a.p (a.n.toNat + a.n.toNat) (augL a)) ld → ∀ i, i < a.n.toNat → ld i = i := by
  have hp2 := prime_bd ha.p
  have hn := ha.n
  have hle : (redF a.p (a.n.toNat + a.n.toNat) (augL a)).length ≤ a.n.toNat := by
    have := (redN_inv (p := a.p) (rows := augL a) (by omega) (augL_rw ha) (a.n.toNat + a.n.toNat)).2.2
    have e : (augL a).length = a.n.toNat := arr_len ..
    unfold redF; omega
  have hkz := kerZ_ech (m := a.n.toNat) ha.p (tabL_rw ha a.n.toNat) (by unfold sFrobP at hf; omega)
  have key : ∀ ld, RR a.p (a.n.toNat + a.n.toNat) (redF a.p (a.n.toNat + a.n.toNat) (augL a)) ld → ∀ c, c < a.n.toNat → ∃ i, i < (redF a.p (a.n.toNat + a.n.toNat) (augL a)).length ∧ ld i = c := by
    intro ld rr c hc
    apply Classical.byContradiction
    intro hno
    have hne : ∀ i, i < (redF a.p (a.n.toNat + a.n.toNat) (augL a)).length → ld i ≠ c := fun i hi e => hno ⟨i, hi, e⟩
    have hk := (redF_ker ha.p (augL_rw ha)).1 (kv_ker rr (by omega) hne)
    have hz : ∀ j, a.n.toNat ≤ j → j < a.n.toNat + a.n.toNat → kv a.p (redF a.p (a.n.toNat + a.n.toNat) (augL a)) ld c j = 0 := fun j hj hj2 => by
      by_cases e : ∃ i, i < (redF a.p (a.n.toNat + a.n.toNat) (augL a)).length ∧ ld i = j
      · obtain ⟨i, hi, rfl⟩ := e
        rw [kv_ld rr hi (hne i hi), (rr.lead i hi).2.2 c (by omega)]; simp
      · exact kv_no (by omega) (fun i hi e' => e ⟨i, hi, e'⟩)
    have hkt : Ker a.p a.n.toNat (tabL a a.n.toNat) (kv a.p (redF a.p (a.n.toNat + a.n.toNat) (augL a)) ld c) := ker_tab.2 fun i hi => by
      have h1 := hk (augR a i) (by unfold augL arr; exact List.mem_map.2 ⟨i, by simpa using hi, rfl⟩)
      rw [dot_split, sumN_zero fun k hk => by rw [hz _ (by omega) (by omega), Int.mul_zero], Int.add_zero] at h1
      rw [← h1]
      congr 1
      exact sumN_ext fun j hj => by unfold augR; rw [if_pos hj]
    have := hkz _ (kv_rw hp2.1) hkt c hc
    rw [kv_c] at this; omega
  have fin : ∀ ld, RR a.p (a.n.toNat + a.n.toNat) (redF a.p (a.n.toNat + a.n.toNat) (augL a)) ld → (redF a.p (a.n.toNat + a.n.toNat) (augL a)).length = a.n.toNat ∧ ∀ i, i < a.n.toNat → ld i = i := by
    intro ld rr
    have kk := key ld rr
    have hge : ∀ c, c < a.n.toNat → ∃ i, i < (redF a.p (a.n.toNat + a.n.toNat) (augL a)).length ∧ ld i = c ∧ c ≤ i := by
      intro c
      induction c with
      | zero => intro hc; obtain ⟨i, hi, e⟩ := kk 0 hc; exact ⟨i, hi, e, by omega⟩
      | succ c ih =>
        intro hc
        obtain ⟨i, hi, e, hle⟩ := ih (by omega)
        obtain ⟨i', hi', e'⟩ := kk (c + 1) hc
        refine ⟨i', hi', e', ?_⟩
        rcases Nat.lt_trichotomy i i' with t | t | t
        · omega
        · subst t; omega
        · have := rr.sort i' i t hi; omega
    have hlen : (redF a.p (a.n.toNat + a.n.toNat) (augL a)).length = a.n.toNat := by
      obtain ⟨i, hi, _, hle⟩ := hge (a.n.toNat - 1) (by omega); omega
    refine ⟨hlen, fun i hi => ?_⟩
    obtain ⟨i', hi', e', hle'⟩ := hge i hi
    have h1 := rr.ld_ge i (by omega)
    rcases Nat.lt_trichotomy i i' with t | t | t
    · have := rr.sort i i' t hi'; omega
    · subst t; exact e'
    · omega
  obtain ⟨ld, rr⟩ := redF_rr (m := a.n.toNat + a.n.toNat) ha.p (augL_rw ha)
  exact ⟨(fin ld rr).1, fun ld rr => (fin ld rr).2⟩
def copB (a : Alg) (k j : Nat) : Int := (redF a.p (a.n.toNat + a.n.toNat) (augL a)).getD k Z (a.n.toNat + j)
theorem cop_dot {a : Alg} (ha : AlgOk a) (hf : sFrobP a) {k : Nat} (hk : k < a.n.toNat) {u v : Row} : dot (a.n.toNat + a.n.toNat) ((redF a.p (a.n.toNat + a.n.toNat) (augL a)).getD k Z) (two a.n.toNat u v) = u k + dot a.n.toNat (copB a k) v := by
  obtain ⟨hl, hld⟩ := cop_rr ha hf
  obtain ⟨ld, rr⟩ := redF_rr (m := a.n.toNat + a.n.toNat) ha.p (augL_rw ha)
  have hld := hld ld rr
  rw [dot_two]
  congr 1
  unfold dot
  rw [sumN_one' (i := k) hk fun i hi hne => ?_]
  · have := (rr.lead k (by omega)).2.1
    rw [hld k hk] at this
    rw [this, Int.one_mul]
  · have := rr.zero i k (by omega) (by omega) hne
    rw [hld i hi] at this
    rw [this, Int.zero_mul]
def neg1 (j : Nat) : Row := fun i => if i = j then -1 else 0
theorem dot_neg1 {n : Nat} {r : Row} {j : Nat} (hj : j < n) : dot n r (neg1 j) = -(r j) := by
  unfold dot
  rw [sumN_one' (i := j) hj fun k _ hne => by unfold neg1; rw [if_neg hne, Int.mul_zero]]
  unfold neg1; rw [if_pos rfl]; omega
theorem sAug_rw {a : Alg} (ha : AlgOk a) (j : Nat) : RwL a.p (arr a.n.toNat (sAug a j)) := fun r hr => by
  have hp2 := prime_bd ha.p
  simp only [arr, List.mem_map] at hr
  obtain ⟨i', _, rfl⟩ := hr
  intro q
  unfold sAug
  split
  · exact tabR_rw ha i' q
  · split <;> omega
theorem sol_col {a : Alg} {j : Nat} {v : Row} : Sol a.p a.n.toNat (arr a.n.toNat (sAug a j)) v ↔ ∀ i, i < a.n.toNat → (dot a.n.toNat (tabR a i) v + neg1 j i) % a.p = 0 := by
  have key : ∀ i, (dot a.n.toNat (sAug a j i) v % a.p = sAug a j i a.n.toNat % a.p ↔ (dot a.n.toNat (tabR a i) v + neg1 j i) % a.p = 0) := fun i => by
    have e1 : dot a.n.toNat (sAug a j i) v = dot a.n.toNat (tabR a i) v := sumN_ext fun q hq => by unfold sAug; rw [if_pos hq]
    have e2 : sAug a j i a.n.toNat = -(neg1 j i) := by
      unfold sAug neg1
      rw [if_neg (Nat.lt_irrefl _)]
      split <;> rfl
    rw [e1, e2, Int.emod_eq_emod_iff_emod_sub_eq_zero, Int.sub_neg]
  rw [sol_iff]
  constructor
  · intro h i hi
    exact (key i).1 (h _ (by unfold arr; exact List.mem_map.2 ⟨i, by simpa using hi, rfl⟩))
  · intro h r hr
    unfold arr at hr
    obtain ⟨i, hi, rfl⟩ := List.mem_map.1 hr
    exact (key i).2 (h i (by simpa using hi))
theorem copB_rw {a : Alg} (ha : AlgOk a) (k : Nat) : Rw a.p (copB a k) := fun j => by
  have hp2 := prime_bd ha.p
  obtain ⟨ld, rr⟩ := redF_rr (m := a.n.toNat + a.n.toNat) ha.p (augL_rw ha)
  exact rr.rw.get (by omega) k _
theorem col_eq {a : Alg} (ha : AlgOk a) (hf : sFrobP a) {j : Nat} (hj : j < a.n.toNat) : ∃ s, sCol a j = some s ∧ ∀ i, i < a.n.toNat → s i = copB a i j := by
  have hp2 := prime_bd ha.p
  have hn := ha.n
  obtain ⟨hl, _⟩ := cop_rr ha hf
  have hkz := kerZ_ech (m := a.n.toNat) ha.p (tabL_rw ha a.n.toNat) (by unfold sFrobP at hf; omega)
  have h1 : Sol a.p a.n.toNat (arr a.n.toNat (sAug a j)) (fun i => copB a i j) := sol_col.2 <| ker_aug.1 <| (redF_ker ha.p (augL_rw ha)).1 fun r hr => by
    obtain ⟨k, hk, rfl⟩ := mem_getD hr
    rw [cop_dot ha hf (by omega), dot_neg1 hj, Int.add_right_neg]; simp
  have hne : arr a.n.toNat (sAug a j) ≠ [] := fun e => by
    have := congrArg List.length e
    rw [arr_len] at this
    simp at this; omega
  refine sSolve_of ha.p (sAug_rw ha j) hne h1 (fun i => copB_rw ha i j) fun v hv hs i hi => ?_
  have h2 := sol_col.1 hs
  have h3 := sol_col.1 h1
  have hk : Ker a.p a.n.toNat (tabL a a.n.toNat) (fun i => (v i - copB a i j) % a.p) := ker_tab.2 fun i hi => by
    have e : dot a.n.toNat (tabR a i) (fun i => (v i - copB a i j) % a.p) % a.p = dot a.n.toNat (tabR a i) (fun i => v i - copB a i j) % a.p := dot_mod fun i _ => cg_mod _ _
    rw [e, dot_sub]
    have e0 : (0 : Int) % a.p = 0 := by simp
    have h2' : (dot a.n.toNat (tabR a i) v + neg1 j i) % a.p = 0 % a.p := by rw [h2 i hi, e0]
    have h3' : (dot a.n.toNat (tabR a i) (fun i => copB a i j) + neg1 j i) % a.p = 0 % a.p := by rw [h3 i hi, e0]
    have := cg_sub h2' h3'
    rw [show dot a.n.toNat (tabR a i) v - dot a.n.toNat (tabR a i) (fun i => copB a i j) = dot a.n.toNat (tabR a i) v + neg1 j i - (dot a.n.toNat (tabR a i) (fun i => copB a i j) + neg1 j i) by omega, this]
    simp
  have h4 := hkz _ (fun i => mod_bd _ (by omega)) hk i hi
  have h5 := (Int.emod_eq_emod_iff_emod_sub_eq_zero (m := v i) (n := a.p) (k := copB a i j)).2 h4
  rw [rw_mod hv, rw_mod (copB_rw ha i)] at h5
  exact h5
theorem sCol_some {a : Alg} (ha : AlgOk a) (hf : sFrobP a) : ∀ j, j < a.n.toNat → (sCol a j).isSome = true := fun j hj => by
  obtain ⟨s, hs, _⟩ := col_eq ha hf hj
  rw [hs]; rfl
theorem iCop_len2 {a : Alg} (ha : AlgOk a) (hf : sFrobP a) : (iCop a).length = a.n.toNat := by
  unfold iCop
  rw [List.length_map]
  exact (cop_rr ha hf).1
theorem cop_same {a : Alg} (ha : AlgOk a) (hf : sFrobP a) {k l : Nat} (hk : k < a.n.toNat) (hl : l < a.n.toNat) : (iCop a).getD k Z l = sCop a k l := by
  obtain ⟨s, hs, he⟩ := col_eq ha hf hl
  have hlen := (cop_rr ha hf).1
  unfold sCop
  rw [hs]
  show _ = s k
  rw [he k hk]
  unfold iCop
  rw [getD_map (by omega)]; rfl
theorem pairC_ext {p : Int} {B C : Nat → Row} {of : Nat → Nat → Nat → Int} {k : Nat} : ∀ {acc : Nat → Int} (l : Nat), (∀ j, j < l → B k j = C k j) → pairC p B of acc k l = pairC p C of acc k l
  | _, 0, _ => rfl
  | acc, l + 1, h => by
    unfold pairC
    rw [pairC_ext l (fun j hj => h j (by omega)), h l (by omega)]
theorem pairR_ext {p : Int} {B C : Nat → Row} {of : Nat → Nat → Nat → Int} {n : Nat} : ∀ k, (∀ i j, i < k → j < n → B i j = C i j) → pairR p B of n k = pairR p C of n k
  | 0, _ => rfl
  | k + 1, h => by
    unfold pairR
    rw [pairR_ext k (fun i j hi hj => h i j (by omega) hj), pairC_ext n (fun j hj => h k j (by omega) hj)]
theorem sand_same {x : Pr} {w : Nat → Int} (ho : AlgOk x.o) (hf : sFrobP x.o) : iSand x w = sSand x w := by
  unfold iSand sSand
  rw [iCop_len2 ho hf]
  exact pairR_ext _ fun i j hi hj => cop_same ho hf hi hj
end Go.X
