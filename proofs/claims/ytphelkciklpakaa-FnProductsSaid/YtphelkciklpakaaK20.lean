import Derived.Test.YtphelkciklpakaaK19
set_option linter.all false
namespace Go.X
open Go Go.RowKit
set_option maxRecDepth 100000
set_option linter.unusedVariables false
def filT (U V : Nat → Nat → Nat → Int) (s N i j k : Nat) : Nat → Nat → Nat → Int := fun a b c =>
  if (s ≤ a ∧ s ≤ b ∧ b < s + N ∧ s ≤ c ∧ c < s + N) ∧ (a < s + i ∨ a = s + i ∧ (b < s + j ∨ b = s + j ∧ c < s + k)) then V a b c else U a b c
theorem filT_0 {U V : Nat → Nat → Nat → Int} {s N : Nat} : filT U V s N 0 0 0 = U := by
  funext a b c
  unfold filT
  rw [if_neg (by omega)]
theorem filT_s {U V : Nat → Nat → Nat → Int} {s N i j k : Nat} (hj : j < N) (hk : k < N) : updT (filT U V s N i j k) (s + i) (s + j) (s + k) (V (s + i) (s + j) (s + k)) = filT U V s N i j (k + 1) := by
  funext a b c
  unfold updT filT
  by_cases e : a = s + i ∧ b = s + j ∧ c = s + k
  · obtain ⟨rfl, rfl, rfl⟩ := e
    rw [if_pos ⟨rfl, rfl, rfl⟩, if_pos (by omega)]
  · rw [if_neg e]
    by_cases d : (s ≤ a ∧ s ≤ b ∧ b < s + N ∧ s ≤ c ∧ c < s + N) ∧ (a < s + i ∨ a = s + i ∧ (b < s + j ∨ b = s + j ∧ c < s + k))
    · rw [if_pos d, if_pos (by omega)]
    · rw [if_neg d, if_neg (by omega)]
theorem filT_r {U V : Nat → Nat → Nat → Int} {s N i j : Nat} : filT U V s N i j N = filT U V s N i (j + 1) 0 := by
  funext a b c
  unfold filT
  by_cases d : (s ≤ a ∧ s ≤ b ∧ b < s + N ∧ s ≤ c ∧ c < s + N) ∧ (a < s + i ∨ a = s + i ∧ (b < s + j ∨ b = s + j ∧ c < s + N))
  · rw [if_pos d, if_pos (by omega)]
  · rw [if_neg d, if_neg (by omega)]
theorem filT_R {U V : Nat → Nat → Nat → Int} {s N i : Nat} : filT U V s N i N 0 = filT U V s N (i + 1) 0 0 := by
  funext a b c
  unfold filT
  by_cases d : (s ≤ a ∧ s ≤ b ∧ b < s + N ∧ s ≤ c ∧ c < s + N) ∧ (a < s + i ∨ a = s + i ∧ (b < s + N ∨ b = s + N ∧ c < s + 0))
  · rw [if_pos d, if_pos (by omega)]
  · rw [if_neg d, if_neg (by omega)]
def filF (U V : Nat → Int) (s i : Nat) : Nat → Int := fun a => if s ≤ a ∧ a < s + i then V a else U a
theorem filF_0 {U V : Nat → Int} {s : Nat} : filF U V s 0 = U := by
  funext a
  unfold filF
  rw [if_neg (by omega)]
theorem filF_s {U V : Nat → Int} {s i : Nat} : upd (filF U V s i) (s + i) (V (s + i)) = filF U V s (i + 1) := by
  funext a
  unfold upd filF
  by_cases e : a = s + i
  · subst e; rw [if_pos rfl, if_pos (by omega)]
  · rw [if_neg e]
    by_cases d : s ≤ a ∧ a < s + i
    · rw [if_pos d, if_pos (by omega)]
    · rw [if_neg d, if_neg (by omega)]
def filR (U V : Nat → Nat → Nat → Int) (N i j : Nat) : Nat → Nat → Nat → Int := fun a b => if b < N ∧ (a < i ∨ a = i ∧ b < j) then V a b else U a b
theorem filR_0 {U V : Nat → Nat → Nat → Int} {N : Nat} : filR U V N 0 0 = U := by
  funext a b
  unfold filR
  rw [if_neg (by omega)]
theorem filR_s {U V : Nat → Nat → Nat → Int} {N i j : Nat} (hj : j < N) : updR (filR U V N i j) i j (V i j) = filR U V N i (j + 1) := by
  funext a b
  unfold updR filR
  by_cases e : a = i ∧ b = j
  · obtain ⟨rfl, rfl⟩ := e
    rw [if_pos ⟨rfl, rfl⟩, if_pos (by omega)]
  · rw [if_neg e]
    by_cases d : b < N ∧ (a < i ∨ a = i ∧ b < j)
    · rw [if_pos d, if_pos (by omega)]
    · rw [if_neg d, if_neg (by omega)]
theorem filR_r {U V : Nat → Nat → Nat → Int} {N i : Nat} : filR U V N i N = filR U V N (i + 1) 0 := by
  funext a b
  unfold filR
  by_cases d : b < N ∧ (a < i ∨ a = i ∧ b < N)
  · rw [if_pos d, if_pos (by omega)]
  · rw [if_neg d, if_neg (by omega)]
theorem L_setTi {a : Alg} {x y z : Int} {i j k : Nat} {v : Int} (hx : x = (i : Nat)) (hy : y = (j : Nat)) (hz : z = (k : Nat)) (hi : i < 6) (hj : j < 6) (hk : k < 6) :
    (algL a).set (0 + 2 + x.toNat * 36 + y.toNat * 6 + z.toNat * 1) (.int .u8 v) = algL (setT a i j k v) := by
  subst hx; subst hy; subst hz; exact L_setT hi hj hk
theorem L_setFi {a : Alg} {x : Int} {i : Nat} {v : Int} (hx : x = (i : Nat)) (hi : i < 6) : (algL a).set (0 + 218 + x.toNat * 1) (.int .u8 v) = algL (setF a i v) := by
  subst hx; exact L_setF hi
def sumT (b : Alg) (n : Nat) : Nat → Nat → Nat → Int := fun i j k => b.T (i - n) (j - n) (k - n)
def sumF (b : Alg) (n : Nat) : Nat → Int := fun i => b.f (i - n)
def sumS (a b : Alg) (q i j k : Nat) : Alg := ⟨a.p, a.n + b.n, filT a.T (sumT b a.n.toNat) a.n.toNat b.n.toNat i j k, filF a.f (sumF b a.n.toNat) a.n.toNat q⟩
def sumA (a b : Alg) : Alg := sumS a b b.n.toNat b.n.toNat 0 0
theorem sumA_ok {a b : Alg} (ha : AlgOk a) (hb : AlgOk b) (hp : a.p = b.p) (hn : a.n + b.n ≤ 6) : AlgOk (sumA a b) := by
  have h1 := ha.n
  have h2 := hb.n
  refine ⟨ha.p, ⟨by show 1 ≤ a.n + b.n; omega, hn⟩, fun i j k => ?_, fun i => ?_, fun i j k hh => ?_, fun i hh => ?_⟩
  · show 0 ≤ filT _ _ _ _ _ _ _ i j k ∧ filT _ _ _ _ _ _ _ i j k < a.p
    unfold filT sumT
    split
    · rw [hp]; exact hb.T ..
    · exact ha.T ..
  · show 0 ≤ filF _ _ _ _ i ∧ filF _ _ _ _ i < a.p
    unfold filF sumF
    split
    · rw [hp]; exact hb.f ..
    · exact ha.f ..
  · show filT _ _ _ _ _ _ _ i j k = 0
    have hh : a.n + b.n ≤ (i : Int) ∨ a.n + b.n ≤ (j : Int) ∨ a.n + b.n ≤ (k : Int) := hh
    unfold filT sumT
    split
    · exact hb.z _ _ _ (by omega)
    · exact ha.z _ _ _ (by omega)
  · show filF _ _ _ _ i = 0
    have hh : a.n + b.n ≤ (i : Int) := hh
    unfold filF sumF
    split
    · exact hb.fz _ (by omega)
    · exact ha.fz _ (by omega)
def tenT (a b : Alg) (m : Nat) : Nat → Nat → Nat → Int := fun i j k => a.T (i / m) (j / m) (k / m) * b.T (i % m) (j % m) (k % m) % a.p
def tenF (a b : Alg) (m : Nat) : Nat → Int := fun i => a.f (i / m) * b.f (i % m) % a.p
def tenS (a b : Alg) (q i j k : Nat) : Alg := ⟨a.p, a.n * b.n, filT (fun _ _ _ => 0) (tenT a b b.n.toNat) 0 (a.n.toNat * b.n.toNat) i j k, filF (fun _ => 0) (tenF a b b.n.toNat) 0 q⟩
def tenA (a b : Alg) : Alg := tenS a b (a.n.toNat * b.n.toNat) (a.n.toNat * b.n.toNat) 0 0
theorem tenA_ok {a b : Alg} (ha : AlgOk a) (hb : AlgOk b) (hn : a.n * b.n ≤ 6) : AlgOk (tenA a b) := by
  have h1 := ha.n
  have h2 := hb.n
  have hp := prime_bd ha.p
  have hnm : a.n * b.n = ((a.n.toNat * b.n.toNat : Nat) : Int) := by
    rw [Int.natCast_mul, show ((a.n.toNat : Nat) : Int) = a.n by omega, show ((b.n.toNat : Nat) : Int) = b.n by omega]
  have h3 : 1 ≤ a.n * b.n := by have := Int.mul_le_mul h1.1 h2.1 (by decide) (by omega); omega
  refine ⟨ha.p, ⟨h3, hn⟩, fun i j k => ?_, fun i => ?_, fun i j k hh => ?_, fun i hh => ?_⟩
  · unfold tenA tenS; dsimp only
    unfold filT tenT
    split
    · exact mod_bd _ (by omega)
    · exact ⟨Int.le_refl _, by show (0 : Int) < a.p; omega⟩
  · unfold tenA tenS; dsimp only
    unfold filF tenF
    split
    · exact mod_bd _ (by omega)
    · exact ⟨Int.le_refl _, by show (0 : Int) < a.p; omega⟩
  · unfold tenA tenS; dsimp only
    have hh : a.n * b.n ≤ (i : Int) ∨ a.n * b.n ≤ (j : Int) ∨ a.n * b.n ≤ (k : Int) := hh
    rw [hnm] at hh
    generalize a.n.toNat * b.n.toNat = nm at *
    unfold filT
    rw [if_neg (by omega)]
  · unfold tenA tenS; dsimp only
    have hh : a.n * b.n ≤ (i : Int) := hh
    rw [hnm] at hh
    generalize a.n.toNat * b.n.toNat = nm at *
    unfold filF
    rw [if_neg (by omega)]
def sherU (a : Alg) (i j : Nat) (k : Int) (x : Nat) : Nat → Int := if x = i then addV a.p k (basV x) (basV j) else basV x
def sherV (a : Alg) (i j : Nat) (k : Int) (x y : Nat) : Nat → Int :=
  let own := timesV a (sherU a i j k x) (sherU a i j k y)
  upd own j ((own j - k * own i) % a.p)
def sherS (a : Alg) (i j : Nat) (k : Int) (x y : Nat) : Alg := { a with T := filR a.T (sherV a i j k) a.n.toNat x y }
def sheA (a : Alg) (i j : Nat) (k : Int) : Alg := setF (sherS a i j k a.n.toNat 0) i ((a.f i + k * a.f j) % a.p)
theorem times_rwz {a : Alg} (hp : 1 ≤ a.p) (v w : Nat → Int) : ∀ k : Nat, a.n ≤ (k : Int) → timesV a v w k = 0 := fun k hk => by
  unfold timesV; rw [if_neg (by omega)]
theorem sherV_rw {a : Alg} (ha : AlgOk a) {i j : Nat} (hj : (j : Int) < a.n) {k : Int} (x y : Nat) : Rw a.p (sherV a i j k x y) ∧ ∀ q : Nat, a.n ≤ (q : Int) → sherV a i j k x y q = 0 := by
  have hp := prime_bd ha.p
  refine ⟨fun q => ?_, fun q hq => ?_⟩
  · show 0 ≤ upd _ j _ q ∧ upd _ j _ q < a.p
    unfold upd
    split
    · exact mod_bd _ (by omega)
    · exact times_rw (by omega) _ _ q
  · show upd _ j _ q = 0
    unfold upd
    rw [if_neg (by omega)]
    exact times_rwz (by omega) _ _ q hq
theorem sheA_ok {a : Alg} (ha : AlgOk a) {i j : Nat} (hi : (i : Int) < a.n) (hj : (j : Int) < a.n) {k : Int} : AlgOk (sheA a i j k) := by
  have hp := prime_bd ha.p
  refine setF_ok ?_ hi (mod_bd _ (by omega))
  refine ⟨ha.p, ha.n, fun x y z => ?_, ha.f, fun x y z hh => ?_, ha.fz⟩
  · show 0 ≤ filR _ _ _ _ _ x y z ∧ filR _ _ _ _ _ x y z < a.p
    unfold filR
    split
    · exact (sherV_rw ha hj x y).1 z
    · exact ha.T ..
  · show filR _ _ _ _ _ x y z = 0
    have hh : a.n ≤ (x : Int) ∨ a.n ≤ (y : Int) ∨ a.n ≤ (z : Int) := hh
    unfold filR
    split
    · exact (sherV_rw ha hj x y).2 z (by omega)
    · exact ha.z _ _ _ hh
end Go.X
