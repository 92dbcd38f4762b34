import Derived.Test.YtphelkciklpakaaK18
import Derived.Test.YtphelkciklpakaaK17
import Derived.Test.YtphelkciklpakaaK5
set_option linter.all false
namespace Go.X
open Go Go.RowKit
set_option maxRecDepth 100000
structure AlgRep (a : Alg) : Prop where
  b : AlgB a
  z : ∀ i j k : Nat, 6 ≤ i ∨ 6 ≤ j ∨ 6 ≤ k → a.T i j k = 0
  fz : ∀ i : Nat, 6 ≤ i → a.f i = 0
theorem AlgRep.inn {a : Alg} (h : AlgRep a) : AlgIn a := by
  refine ⟨h.b, fun hp hn ht => ?_⟩
  have hpb := prime_bd hp
  refine ⟨hp, hn, fun i j k => ?_, fun i => ?_, fun i j k hh => ?_, fun i hh => ?_⟩
  · have h0 := h.b.1 i j k
    by_cases hi : i < 6 ∧ j < 6 ∧ k < 6
    · have := ((ht.1 i j hi.1 hi.2.1).1 k hi.2.2).1
      omega
    · have := h.z i j k (by omega)
      omega
  · have h0 := h.b.2 i
    by_cases hi : i < 6
    · have := (ht.2 i hi).1
      omega
    · have := h.fz i (by omega)
      omega
  · by_cases hi : i < 6 ∧ j < 6 ∧ k < 6
    · rcases hh with hh | hh | hh
      · exact (ht.1 i j hi.1 hi.2.1).2 (.inl hh) k hi.2.2
      · exact (ht.1 i j hi.1 hi.2.1).2 (.inr hh) k hi.2.2
      · exact ((ht.1 i j hi.1 hi.2.1).1 k hi.2.2).2 hh
    · exact h.z i j k (by omega)
  · by_cases hi : i < 6
    · exact (ht.2 i hi).2 hh
    · exact h.fz i (by omega)
theorem AlgOk.rep {a : Alg} (h : AlgOk a) : AlgRep a := ⟨h.b, fun i j k hh => h.z i j k (by have := h.n; omega), fun i hh => h.fz i (by have := h.n; omega)⟩
def setT (a : Alg) (i j k : Nat) (x : Int) : Alg := { a with T := updT a.T i j k x }
def setF (a : Alg) (i : Nat) (x : Int) : Alg := { a with f := upd a.f i x }
theorem setT_ok {a : Alg} (h : AlgOk a) {i j k : Nat} {x : Int} (hi : (i : Int) < a.n) (hj : (j : Int) < a.n) (hk : (k : Int) < a.n) (hx : 0 ≤ x ∧ x < a.p) : AlgOk (setT a i j k x) := by
  refine ⟨h.p, h.n, fun i' j' k' => ?_, h.f, fun i' j' k' hh => ?_, h.fz⟩
  · show 0 ≤ updT a.T i j k x i' j' k' ∧ updT a.T i j k x i' j' k' < a.p
    unfold updT
    split
    · exact hx
    · exact h.T ..
  · show updT a.T i j k x i' j' k' = 0
    unfold updT
    have hh : a.n ≤ (i' : Int) ∨ a.n ≤ (j' : Int) ∨ a.n ≤ (k' : Int) := hh
    rw [if_neg (by omega)]
    exact h.z _ _ _ hh
theorem setF_ok {a : Alg} (h : AlgOk a) {i : Nat} {x : Int} (hi : (i : Int) < a.n) (hx : 0 ≤ x ∧ x < a.p) : AlgOk (setF a i x) := by
  refine ⟨h.p, h.n, h.T, fun i' => ?_, h.z, fun i' hh => ?_⟩
  · show 0 ≤ upd a.f i x i' ∧ upd a.f i x i' < a.p
    unfold upd
    split
    · exact hx
    · exact h.f ..
  · show upd a.f i x i' = 0
    have hh : a.n ≤ (i' : Int) := hh
    unfold upd
    rw [if_neg (by omega)]
    exact h.fz _ hh
theorem setT_rep {a : Alg} (h : AlgRep a) {i j k : Nat} {x : Int} (hi : i < 6 ∧ j < 6 ∧ k < 6) (hx : 0 ≤ x ∧ x ≤ 255) : AlgRep (setT a i j k x) := by
  refine ⟨⟨fun i' j' k' => ?_, h.b.2⟩, fun i' j' k' hh => ?_, h.fz⟩
  · show 0 ≤ updT a.T i j k x i' j' k' ∧ updT a.T i j k x i' j' k' ≤ 255
    unfold updT
    split
    · exact hx
    · exact h.b.1 ..
  · show updT a.T i j k x i' j' k' = 0
    unfold updT
    rw [if_neg (by omega)]
    exact h.z _ _ _ hh
theorem setF_rep {a : Alg} (h : AlgRep a) {i : Nat} {x : Int} (hi : i < 6) (hx : 0 ≤ x ∧ x ≤ 255) : AlgRep (setF a i x) := by
  refine ⟨⟨h.b.1, fun i' => ?_⟩, h.z, fun i' hh => ?_⟩
  · show 0 ≤ upd a.f i x i' ∧ upd a.f i x i' ≤ 255
    unfold upd
    split
    · exact hx
    · exact h.b.2 ..
  · show upd a.f i x i' = 0
    unfold upd
    rw [if_neg (by omega)]
    exact h.fz _ hh
theorem L_setT {a : Alg} {i j k : Nat} {x : Int} (hi : i < 6) (hj : j < 6) (hk : k < 6) :
    (algL a).set (0 + 2 + ((i : Nat) : Int).toNat * 36 + ((j : Nat) : Int).toNat * 6 + ((k : Nat) : Int).toNat * 1) (.int .u8 x) = algL (setT a i j k x) := algL_setT hi hj hk
theorem L_setF {a : Alg} {i : Nat} {x : Int} (hi : i < 6) : (algL a).set (0 + 218 + ((i : Nat) : Int).toNat * 1) (.int .u8 x) = algL (setF a i x) := by
  rw [show 0 + 218 + ((i : Nat) : Int).toNat * 1 = 218 + i by omega]
  unfold algL setF
  rw [arr_set]
  refine arr_ext fun q hq => ?_
  unfold upd algF
  dsimp only
  by_cases e : q = 218 + i
  · subst e
    rw [if_pos rfl, if_neg (by omega), if_neg (by omega), if_neg (by omega), if_pos (by omega)]
  · rw [if_neg e]
    by_cases e0 : q = 0
    · rw [if_pos e0, if_pos e0]
    · rw [if_neg e0, if_neg e0]
      by_cases e1 : q = 1
      · rw [if_pos e1, if_pos e1]
      · rw [if_neg e1, if_neg e1]
        by_cases e2 : q < 218
        · rw [if_pos e2, if_pos e2]
        · rw [if_neg e2, if_neg e2, if_neg (by omega)]
theorem L_setP {a : Alg} {x : Int} : (algL a).set 0 (.int .i64 x) = algL { a with p := x } := by
  unfold algL
  rw [arr_set]
  refine arr_ext fun q hq => ?_
  unfold upd algF
  dsimp only
  by_cases e0 : q = 0
  · rw [if_pos e0, if_pos e0]
  · rw [if_neg e0, if_neg e0, if_neg e0]
theorem L_setN {a : Alg} {x : Int} : (algL a).set (0 + 1) (.int .i64 x) = algL { a with n := x } := by
  unfold algL
  rw [arr_set]
  refine arr_ext fun q hq => ?_
  unfold upd algF
  dsimp only
  by_cases e0 : q = 0
  · rw [if_pos e0, if_neg (by omega), if_pos e0]
  · rw [if_neg e0, if_neg e0]
    by_cases e1 : q = 1
    · rw [if_pos (by omega), if_pos e1]
    · rw [if_neg (by omega), if_neg e1, if_neg e1]
theorem L_setV {a : Alg} {v : Nat → Int} : splice (algL a) (0 + 218) (vecL v) = algL { a with f := v } := by
  unfold algL
  show splice (arr 224 (algF a)) (0 + 218) (arr 6 fun i => .int .u8 (v i)) = _
  rw [arr_splice (by omega)]
  refine arr_ext fun q hq => ?_
  unfold algF
  dsimp only
  by_cases e : 218 ≤ q
  · rw [if_pos (by omega), if_neg (by omega), if_neg (by omega), if_neg (by omega), Nat.zero_add]
  · rw [if_neg (by omega)]
    by_cases e0 : q = 0
    · rw [if_pos e0, if_pos e0]
    · rw [if_neg e0, if_neg e0]
      by_cases e1 : q = 1
      · rw [if_pos e1, if_pos e1]
      · rw [if_neg e1, if_neg e1, if_pos (by omega), if_pos (by omega)]
def updR (T : Nat → Nat → Nat → Int) (i j : Nat) (v : Nat → Int) : Nat → Nat → Nat → Int := fun a b => if a = i ∧ b = j then v else T a b
def setR (a : Alg) (i j : Nat) (v : Nat → Int) : Alg := { a with T := updR a.T i j v }
theorem L_setR {a : Alg} {i j : Nat} {v : Nat → Int} (hi : i < 6) (hj : j < 6) : splice (algL a) (0 + 2 + ((i : Nat) : Int).toNat * 36 + ((j : Nat) : Int).toNat * 6) (vecL v) = algL (setR a i j v) := by
  rw [show 0 + 2 + ((i : Nat) : Int).toNat * 36 + ((j : Nat) : Int).toNat * 6 = 2 + i * 36 + j * 6 by omega]
  unfold algL setR
  show splice (arr 224 (algF a)) (2 + i * 36 + j * 6) (arr 6 fun i => .int .u8 (v i)) = _
  rw [arr_splice (by omega)]
  refine arr_ext fun q hq => ?_
  unfold algF updR
  dsimp only
  by_cases e : 2 + i * 36 + j * 6 ≤ q ∧ q < 2 + i * 36 + j * 6 + 6
  · rw [if_pos e, if_neg (by omega), if_neg (by omega), if_pos (by omega), if_pos (by omega), show q - (2 + i * 36 + j * 6) = (q - 2) % 6 by omega]
  · rw [if_neg e]
    by_cases e0 : q = 0
    · rw [if_pos e0, if_pos e0]
    · rw [if_neg e0, if_neg e0]
      by_cases e1 : q = 1
      · rw [if_pos e1, if_pos e1]
      · rw [if_neg e1, if_neg e1]
        by_cases e2 : q < 218
        · rw [if_pos e2, if_pos e2, if_neg (by omega)]
        · rw [if_neg e2, if_neg e2]
def permL : Nat → List Nat
  | 0 => [0, 1, 2, 3, 4, 5]
  | 1 => [1, 0, 4, 5, 2, 3]
  | 2 => [2, 3, 0, 1, 5, 4]
  | 3 => [3, 2, 5, 4, 0, 1]
  | 4 => [4, 5, 1, 0, 3, 2]
  | _ => [5, 4, 3, 2, 1, 0]
def permN (i j : Nat) : Nat := (permL i).getD j 0
theorem permN_lt {i j : Nat} (hi : i < 6) (hj : j < 6) : permN i j < 6 := by
  have h : ∀ i : Fin 6, ∀ j : Fin 6, permN i j < 6 := by decide
  exact h ⟨i, hi⟩ ⟨j, hj⟩
def fillC (a : Alg) (on : Nat → Nat → Bool) (k : Nat → Nat → Nat) (i : Nat) : Nat → Alg
  | 0 => a
  | j + 1 => if on i j then setT (fillC a on k i j) i j (k i j) 1 else fillC a on k i j
def fillR (a : Alg) (on : Nat → Nat → Bool) (k : Nat → Nat → Nat) (m : Nat) : Nat → Alg
  | 0 => a
  | i + 1 => fillC (fillR a on k m i) on k i m
theorem fillC_n {a : Alg} {on : Nat → Nat → Bool} {k : Nat → Nat → Nat} {i : Nat} : ∀ j, (fillC a on k i j).n = a.n ∧ (fillC a on k i j).p = a.p
  | 0 => ⟨rfl, rfl⟩
  | j + 1 => by
    have := fillC_n (a := a) (on := on) (k := k) (i := i) j
    unfold fillC
    split <;> exact this
theorem fillR_n {a : Alg} {on : Nat → Nat → Bool} {k : Nat → Nat → Nat} {m : Nat} : ∀ i, (fillR a on k m i).n = a.n ∧ (fillR a on k m i).p = a.p
  | 0 => ⟨rfl, rfl⟩
  | i + 1 => by
    have h1 := fillR_n (a := a) (on := on) (k := k) (m := m) i
    have h2 := fillC_n (a := fillR a on k m i) (on := on) (k := k) (i := i) m
    unfold fillR
    exact ⟨h2.1.trans h1.1, h2.2.trans h1.2⟩
theorem fillC_ok {a : Alg} (h : AlgOk a) {on : Nat → Nat → Bool} {k : Nat → Nat → Nat} {i m : Nat} (hm : a.n = m) (hi : i < m) (hk : ∀ i j, i < m → j < m → on i j = true → k i j < m) : ∀ j, j ≤ m → AlgOk (fillC a on k i j)
  | 0, _ => h
  | j + 1, hj => by
    have h1 := fillC_ok h hm hi hk j (by omega)
    have h2 := (fillC_n (a := a) (on := on) (k := k) (i := i) j)
    have h3 := prime_bd h.p
    unfold fillC
    split
    · rename_i e
      have := hk i j hi (by omega) e
      exact setT_ok h1 (by omega) (by omega) (by omega) (by omega)
    · exact h1
theorem fillR_ok {a : Alg} (h : AlgOk a) {on : Nat → Nat → Bool} {k : Nat → Nat → Nat} {m : Nat} (hm : a.n = m) (hk : ∀ i j, i < m → j < m → on i j = true → k i j < m) : ∀ i, i ≤ m → AlgOk (fillR a on k m i)
  | 0, _ => h
  | i + 1, hi => fillC_ok (fillR_ok h hm hk i (by omega)) ((fillR_n i).1.trans hm) (by omega) hk m (Nat.le_refl _)
def v2 : Nat → Int := fun i => if i = 0 then 1 else if i = 1 then 1 else 0
def v4 : Nat → Int := fun i => if i = 0 then 1 else if i = 3 then 1 else 0
def nmA (k : Nat) (p : Int) : Alg := match k with
  | 0 => setT (alg0 p 1 (basV 0)) 0 0 0 1
  | 1 => setT (setT (setT (alg0 p 2 (basV 1)) 0 0 0 1) 0 1 1 1) 1 0 1 1
  | 2 => setT (setT (alg0 p 2 v2) 0 0 0 1) 1 1 1 1
  | 3 => fillR (alg0 p 3 (basV 0)) (fun _ _ => true) (fun i j => (i + j) % 3) 3 3
  | 4 => fillR (alg0 p 6 (basV 0)) (fun _ _ => true) permN 6 6
  | _ => fillR (alg0 p 4 v4) (fun i j => i % 2 == j / 2) (fun i j => i / 2 * 2 + j % 2) 4 4
theorem alg0_ok {p n : Int} {f : Nat → Int} (hp : p ∈ primes) (hn : 1 ≤ n ∧ n ≤ 6) (hf : Rw p f) (hz : ∀ i : Nat, n ≤ (i : Int) → f i = 0) : AlgOk (alg0 p n f) := by
  have := prime_bd hp
  exact ⟨hp, hn, fun _ _ _ => ⟨Int.le_refl _, by show (0 : Int) < p; omega⟩, hf, fun _ _ _ _ => rfl, hz⟩
def nmN (k : Nat) : Int := match k with
  | 0 => 1
  | 1 => 2
  | 2 => 2
  | 3 => 3
  | 4 => 6
  | _ => 4
theorem nmA_n {k : Nat} {p : Int} : (nmA k p).n = nmN k ∧ (nmA k p).p = p := by
  match k with
  | 0 => exact ⟨rfl, rfl⟩
  | 1 => exact ⟨rfl, rfl⟩
  | 2 => exact ⟨rfl, rfl⟩
  | 3 => exact ⟨(fillR_n 3).1, (fillR_n 3).2⟩
  | 4 => exact ⟨(fillR_n 6).1, (fillR_n 6).2⟩
  | k + 5 => exact ⟨(fillR_n 4).1, (fillR_n 4).2⟩
theorem basV_rw {p : Int} (hp : 2 ≤ p) (i : Nat) : Rw p (basV i) := fun j => by unfold basV; split <;> omega
theorem basV_z {i : Nat} {n : Int} (h : (i : Int) < n) : ∀ j : Nat, n ≤ (j : Int) → basV i j = 0 := fun j hj => by unfold basV; rw [if_neg (by omega)]
theorem nmA_ok {k : Nat} {p : Int} (hp : p ∈ primes) : AlgOk (nmA k p) := by
  have hb := prime_bd hp
  have e1 : 0 ≤ (1 : Int) ∧ (1 : Int) < p := ⟨by decide, by omega⟩
  have l1 : ((0 : Nat) : Int) < 1 := by decide
  have l2 : ((0 : Nat) : Int) < 2 := by decide
  have l3 : ((1 : Nat) : Int) < 2 := by decide
  match k with
  | 0 => exact setT_ok (alg0_ok hp (by decide) (basV_rw (by omega) 0) (basV_z (by decide))) l1 l1 l1 e1
  | 1 =>
    have h0 : AlgOk (alg0 p 2 (basV 1)) := alg0_ok hp (by decide) (basV_rw (by omega) 1) (basV_z (by decide))
    have h1 := setT_ok (i := 0) (j := 0) (k := 0) h0 l2 l2 l2 e1
    have h2 := setT_ok (i := 0) (j := 1) (k := 1) h1 l2 l3 l3 e1
    exact setT_ok (i := 1) (j := 0) (k := 1) h2 l3 l2 l3 e1
  | 2 =>
    have h0 : AlgOk (alg0 p 2 v2) := by
      refine alg0_ok hp (by decide) (fun i => ?_) (fun i hi => ?_)
      · unfold v2; split
        · omega
        · split <;> omega
      · unfold v2; rw [if_neg (by omega), if_neg (by omega)]
    have h1 := setT_ok (i := 0) (j := 0) (k := 0) h0 l2 l2 l2 e1
    exact setT_ok (i := 1) (j := 1) (k := 1) h1 l3 l3 l3 e1
  | 3 => exact fillR_ok (alg0_ok hp (by decide) (basV_rw (by omega) 0) (basV_z (by decide))) rfl (fun i j hi hj _ => by show (i + j) % 3 < 3; omega) 3 (by decide)
  | 4 => exact fillR_ok (alg0_ok hp (by decide) (basV_rw (by omega) 0) (basV_z (by decide))) rfl (fun i j hi hj _ => permN_lt hi hj) 6 (by decide)
  | k + 5 =>
    have h0 : AlgOk (alg0 p 4 v4) := by
      refine alg0_ok hp (by decide) (fun i => ?_) (fun i hi => ?_)
      · unfold v4; split
        · omega
        · split <;> omega
      · unfold v4; rw [if_neg (by omega), if_neg (by omega)]
    exact fillR_ok (m := 4) h0 rfl (fun i j (hi : i < 4) (hj : j < 4) _ => by show i / 2 * 2 + j % 2 < 4; omega) 4 (by decide)
theorem alg0_Z {p : Int} : algZ.set 0 (.int .i64 p) = algL (alg0 p 0 Z) := by
  have h : algZ = algL (alg0 0 0 Z) := by
    rw [algZ_arr]
    refine arr_ext fun q hq => ?_
    unfold algF alg0 Z
    dsimp only
    by_cases e : q < 2
    · rw [if_pos e]
      by_cases e0 : q = 0
      · rw [if_pos e0]
      · rw [if_neg e0, if_pos (by omega)]
    · rw [if_neg e, if_neg (by omega), if_neg (by omega), ite_self]
  rw [h, L_setP]; rfl
end Go.X
