import Derived.Test.YtckpoeaagbmlbaaGreatK15
set_option linter.all false
namespace Go.X
open Go Go.RowKit
def pnX (p b x : Int) : Nat → Int
  | 0 => x
  | g + 1 => pnX p b x g * b % p
theorem inv0_bd {p x : Int} (hp : p ∈ primes) (hx : 0 ≤ x ∧ x < p) : 0 ≤ invF p x ∧ invF p x < p := by
  have h0 : ∀ p ∈ primes, ∀ x ∈ (List.range 13).map Int.ofNat, x < p → 0 ≤ invF p x ∧ invF p x < p := by decide +kernel
  have := prime_bd hp
  exact h0 p hp x (by rw [List.mem_map]; exact ⟨x.toNat, by simp; omega, by simp; omega⟩) hx.2
theorem pnX_0 {p b : Int} : ∀ g, pnX p b 0 g = 0
  | 0 => rfl
  | g + 1 => by show pnX p b 0 g * b % p = 0; rw [pnX_0 g, Int.zero_mul, Int.zero_emod]
theorem pnX_bd {p b x : Int} (hp : 1 ≤ p) (hx : 0 ≤ x ∧ x < p) : ∀ g, 0 ≤ pnX p b x g ∧ pnX p b x g < p
  | 0 => hx
  | g + 1 => mod_bd _ hp
theorem pnX_same {p x : Int} (hp : p ∈ primes) (hx : 0 ≤ x ∧ x < p) (g : Nat) : pnX p (powR x p (p - 2).toNat) x g = pnX p (invF p x) x g := by
  by_cases h : 0 < x
  · rw [inv_pow hp ⟨h, hx.2⟩]
  · have : x = 0 := by omega
    subst this
    rw [pnX_0, pnX_0]
def pnV (a : Alg) (g : Nat) (i : Nat) : Int := pnX a.p (invF a.p (formV a ((sortV (primI a)).getD i Z))) (formV a ((sortV (primI a)).getD i Z)) g
def pnC (x r y : Bool) : Int := if x then if r then if y then 0 else 5 else 2 else 1
def pnR (v : Int) (x r y : Bool) : Res := .tup [.int .i64 (if x && (r && y) then v else 0), .int .i64 (pnC x r y)]
def pnT (a : Alg) (g : Int) : Int := sumN (primI a).length (pnV a g.toNat) % a.p
def C_inverseP (P : Program) (N : FN) : Prop := ∀ {x p : Int}, p ∈ primes → 0 ≤ x ∧ x < p → Can P N.impl_inverse [.int .i64 x, .int .i64 p] (.val (.int .i64 (powR x p (p - 2).toNat)))
def C_PartNumber (P : Program) (N : FN) : Prop := ∀ {a : Alg} {g : Int}, AlgIn a → Can P N.impl_PartNumber [algD a, .int .i64 g] (pnR (pnT a g) (dB (IsAlgP a)) (decide (0 ≤ g ∧ g ≤ 30)) (dB (CommP a ∧ nilL a = [] ∧ SplitP a ∧ FrobP a)))
def C_sPartNumber (P : Program) (N : FN) : Prop := ∀ {a : Alg} {g : Int}, SAlgIn a → Can P N.spec_PartNumber [algD a, .int .i64 g] (pnR (pnT a g) (dB (sAlgP a)) (decide (0 ≤ g ∧ g ≤ 30)) (dB (sCommP a ∧ nilL a = [] ∧ SplitP a ∧ sFrobP a)))
theorem pn_same {a : Alg} (hi : AlgIn a) {v : Int} {r : Bool} : pnR v (dB (IsAlgP a)) r (dB (CommP a ∧ nilL a = [] ∧ SplitP a ∧ FrobP a)) = pnR v (dB (sAlgP a)) r (dB (sCommP a ∧ nilL a = [] ∧ SplitP a ∧ sFrobP a)) := by
  rw [dB_congr (alg_iff hi)]
  by_cases g : sAlgP a
  · have ha := hi.s.ok g.1
    rw [dB_congr (show (CommP a ∧ nilL a = [] ∧ SplitP a ∧ FrobP a) ↔ (sCommP a ∧ nilL a = [] ∧ SplitP a ∧ sFrobP a) from and_congr (comm_iff ha) (and_congr Iff.rfl (and_congr Iff.rfl (frob_iff ha))))]
  · rw [dB_f g]; rfl
end Go.X
