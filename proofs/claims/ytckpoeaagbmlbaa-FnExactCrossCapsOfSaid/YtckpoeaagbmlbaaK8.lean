import Derived.Test.YtckpoeaagbmlbaaK7
set_option linter.all false
namespace Go.X
open Go Go.RowKit
theorem can_emp2 {P : Program} {f : FuncId} {a b : D} {sz : Nat} {r : Res} (h : Can P f [a, b, .lst sz []] r) (hr : r.isPost = false) : Can P f [a, b, .emp] r :=
  can_sub h hr rfl fun i x y hx hy W F v hv => by
    match i, hx, hy with
    | 0, hx, hy => simp at hx hy; subst hx hy; exact hv
    | 1, hx, hy => simp at hx hy; subst hx hy; exact hv
    | 2, hx, hy => simp at hx hy; subst hx hy; exact emp_lst hv
    | i + 3, hx, hy => simp at hx
def dgv (a : Alg) (x : Nat) : Nat → Int := vecR a.n.toNat (digV a.p a.n.toNat x)
noncomputable def hitF (a : Alg) (s : Nat → Nat → Int) (kl : Nat → Int) : Nat → List (Nat → Int)
  | 0 => []
  | x + 1 => if dB (crossP a s kl (dgv a x)) = true then hitF a s kl x ++ [dgv a x] else hitF a s kl x
theorem hit_s {a : Alg} {s : Nat → Nat → Int} {kl : Nat → Int} {x : Nat} : hitF a s kl (x + 1) = if dB (crossP a s kl (dgv a x)) = true then hitF a s kl x ++ [dgv a x] else hitF a s kl x := rfl
theorem hit_len {a : Alg} {s : Nat → Nat → Int} {kl : Nat → Int} : ∀ x, (hitF a s kl x).length ≤ x
  | 0 => Nat.le_refl 0
  | x + 1 => by
    have := hit_len (a := a) (s := s) (kl := kl) x
    rw [hit_s]; split
    · rw [List.length_append]; simp only [List.length_cons, List.length_nil]; omega
    · omega
theorem hit_mono1 {a : Alg} {s : Nat → Nat → Int} {kl : Nat → Int} (x : Nat) : (hitF a s kl x).length ≤ (hitF a s kl (x + 1)).length := by
  rw [hit_s]
  split
  · rw [List.length_append]; omega
  · exact Nat.le_refl _
theorem hit_mono {a : Alg} {s : Nat → Nat → Int} {kl : Nat → Int} {x y : Nat} (h : x ≤ y) : (hitF a s kl x).length ≤ (hitF a s kl y).length := by
  induction y with
  | zero => rw [show x = 0 by omega]; exact Nat.le_refl _
  | succ y ih =>
    by_cases c : x = y + 1
    · rw [c]; exact Nat.le_refl _
    · exact Nat.le_trans (ih (by omega)) (hit_mono1 y)
theorem hit_t {a : Alg} {s : Nat → Nat → Int} {kl : Nat → Int} {x : Nat} (h : crossP a s kl (dgv a x)) : hitF a s kl (x + 1) = hitF a s kl x ++ [dgv a x] := by
  rw [hit_s, if_pos (dB_t h)]
theorem hit_f {a : Alg} {s : Nat → Nat → Int} {kl : Nat → Int} {x : Nat} (h : ¬ crossP a s kl (dgv a x)) : hitF a s kl (x + 1) = hitF a s kl x := by
  rw [hit_s, if_neg (by rw [dB_f h]; simp)]
theorem vcs_app {L : List (Nat → Int)} {v : Nat → Int} : L.map vecL ++ [vecL v] = (L ++ [v]).map vecL := by simp
theorem vcs_arr (L : List (Nat → Int)) : L.map vecL = arr L.length fun i => vecL (L.getD i Z) := by
  refine arr_of (by simp) fun i hi => ?_
  simp [hi]
theorem pow_bdn {a : Alg} (ha : AlgOk a) : 1 ≤ a.p ^ a.n.toNat ∧ a.p ^ a.n.toNat ≤ 4826809 := pow_bd ha.p (by have := ha.n; omega)
theorem dgv_byt {a : Alg} (ha : AlgOk a) (x : Nat) : Byts (dgv a x) := fun i => by
  have hp := prime_bd ha.p
  unfold dgv vecR
  split
  · unfold digV
    have h1 := Int.emod_nonneg ((x : Int) / a.p ^ (a.n.toNat - 1 - i)) (show a.p ≠ 0 by omega)
    have h2 := Int.emod_lt_of_pos ((x : Int) / a.p ^ (a.n.toNat - 1 - i)) (show 0 < a.p by omega)
    omega
  · omega
theorem dig_bd {a : Alg} (ha : AlgOk a) (x : Nat) : Bd 255 (digV a.p a.n.toNat x) := fun i => by
  have hp := prime_bd ha.p
  unfold digV
  have h1 := Int.emod_nonneg ((x : Int) / a.p ^ (a.n.toNat - 1 - i)) (show a.p ≠ 0 by omega)
  have h2 := Int.emod_lt_of_pos ((x : Int) / a.p ^ (a.n.toNat - 1 - i)) (show 0 < a.p by omega)
  omega
noncomputable def iCode (a : Alg) (m : Nat) (s : Nat → Nat → Int) : Int := scode (dB (IsAlgP a ∧ AllSm a 0 fun _ => Z)) (dB (m = a.n.toNat ∧ AllSm a m s)) (dB (CommP a ∧ FrobP a ∧ iStarP a s))
noncomputable def sCode (a : Alg) (m : Nat) (s : Nat → Nat → Int) : Int := scode (dB (sAlgP a ∧ AllSm a 0 fun _ => Z)) (dB (m = a.n.toNat ∧ AllSm a m s)) (dB (sCommP a ∧ sFrobP a ∧ sStarP a s))
theorem scode_0 {p q r : Prop} (h : scode (dB p) (dB q) (dB r) = 0) : p ∧ q ∧ r := by
  by_cases g1 : p
  · by_cases g2 : q
    · by_cases g3 : r
      · exact ⟨g1, g2, g3⟩
      · rw [dB_t g1, dB_t g2, dB_f g3] at h; exact absurd h (by decide)
    · rw [dB_t g1, dB_f g2] at h; exact absurd h (by simp [scode])
  · rw [dB_f g1] at h; exact absurd h (by simp [scode])
theorem scode_bd (x y z : Bool) : 0 ≤ scode x y z ∧ scode x y z ≤ 5 := by
  cases x <;> cases y <;> cases z <;> decide
def capC (c pw : Int) (k : Nat) : Int := if c = 0 then if pw ≤ 20000 ∧ k ≤ 200 then 0 else 3 else c
def capL (c pw : Int) (L : List (Nat → Int)) : List (List D) := if c = 0 ∧ pw ≤ 20000 ∧ L.length ≤ 200 then L.map vecL else []
def capR (c pw : Int) (L : List (Nat → Int)) : Res := .tupO 6 (capL c pw L) [] [.int .i64 (capC c pw L.length)]
def C_CrossCapsOf (P : Program) (N : FN) : Prop := ∀ {a : Alg} {m : Nat} {s : Nat → Nat → Int}, AlgIn a → m ≤ 1048576 → (∀ i, Byts (s i)) →
  Can P N.impl_CrossCapsOf [algD a, vsD m s] (capR (iCode a m s) (a.p ^ a.n.toNat) (hitF a s (iKlein a s) (a.p ^ a.n.toNat).toNat))
def C_sCrossCapsOf (P : Program) (N : FN) : Prop := ∀ {a : Alg} {m : Nat} {s : Nat → Nat → Int}, SAlgIn a → m ≤ 1048576 → (∀ i, Byts (s i)) → (sAlgP a → sFrobP a → ∀ j, j < a.n.toNat → (sCol a j).isSome = true) →
  Can P N.spec_CrossCapsOf [algD a, vsD m s] (capR (sCode a m s) (a.p ^ a.n.toNat) (hitF a s (sKlein a s) (a.p ^ a.n.toNat).toNat))
end Go.X
