import Derived.Test.YtphelkciklpakaaK20
set_option linter.all false
namespace Go.X
open Go Go.RowKit
set_option maxRecDepth 100000
set_option linter.unusedVariables false
def itS : Nat → Src → Src
  | 0, s => s
  | n + 1, s => nextS (itS n s)
theorem itS_ok {s : Src} (h : SrcOk s) : ∀ n, SrcOk (itS n s)
  | 0 => h
  | n + 1 => nextS_ok (itS_ok h n)
theorem itS_add (s : Src) (a : Nat) : ∀ b, itS (a + b) s = itS b (itS a s)
  | 0 => rfl
  | b + 1 => congrArg nextS (itS_add s a b)
theorem itH_succ (n : Nat) (h : Int) : itH (n + 1) h = hN (itH n h) := by
  rw [itH_add]; rfl
theorem itS_h (s : Src) : ∀ n, (itS n s).h = itH n s.h
  | 0 => rfl
  | n + 1 => by rw [itH_succ, ← itS_h s n]; rfl
theorem itS_m (s : Src) : ∀ n, (itS n s).m = s.m
  | 0 => rfl
  | n + 1 => itS_m s n
theorem itS_pos {s : Src} (h : SrcOk s) : ∀ n, s.m ≤ (itS n s).pos + (s.m - s.pos - n)
  | 0 => by show s.m ≤ s.pos + _; omega
  | n + 1 => by
    have ih := itS_pos h n
    have hm := itS_m s n
    show s.m ≤ (if (itS n s).pos < (itS n s).m then (itS n s).pos + 1 else (itS n s).pos) + _
    split <;> omega
theorem low_draw1 {s : Src} (h : SrcOk s) (hp : s.m ≤ s.pos) : ∃ n, nextV (itS n s) 4 = 0 := by
  have hb := hN_bd s.h
  obtain ⟨n, hn⟩ := low_zero (hN s.h) hb.1
  refine ⟨n, ?_⟩
  have hq := itS_pos h n
  have hm := itS_m s n
  have hh := itS_h s n
  have he : hN (itS n s).h = itH n (hN s.h) := by rw [hh, ← itH_succ]; rfl
  have hx := (itS_ok h n)
  unfold nextV nextX
  rw [if_neg (by decide), if_neg (by omega), he]
  have h2 : 0 ≤ itH n (hN s.h) := by rw [← he]; exact (hN_bd _).1
  omega
theorem low_draw {s : Src} (h : SrcOk s) : ∃ n, nextV (itS n s) 4 = 0 := by
  have h1 := itS_ok h (s.m - s.pos)
  have h2 := itS_pos h (s.m - s.pos)
  have h3 := itS_m s (s.m - s.pos)
  obtain ⟨n, hn⟩ := low_draw1 h1 (by omega)
  exact ⟨(s.m - s.pos) + n, by rw [itS_add]; exact hn⟩
def fitS (p : Int) (x : Src × Alg) : Src × Alg := (nextT x.1 4, nmA (nextV x.1 4).toNat p)
def fitF (p : Int) (s : Src) (a : Alg) : Nat → Src × Alg
  | 0 => (s, a)
  | i + 1 => fitS p (fitF p s a i)
theorem fitF_1 {p : Int} {s : Src} {a : Alg} : ∀ i, (fitF p s a i).1 = itS i s
  | 0 => rfl
  | i + 1 => by
    show nextT (fitF p s a i).1 4 = nextS (itS i s)
    rw [fitF_1 i]
    unfold nextT
    rw [if_neg (by decide)]
theorem fitF_ok {p : Int} (hp : p ∈ primes) {s : Src} (hs : SrcOk s) {a : Alg} (ha : AlgOk a) (hap : a.p = p) : ∀ i, SrcOk (fitF p s a i).1 ∧ AlgOk (fitF p s a i).2 ∧ (fitF p s a i).2.p = p
  | 0 => ⟨hs, ha, hap⟩
  | i + 1 => ⟨(nextT_ok (fitF_ok hp hs ha hap i).1 4 : SrcOk (nextT (fitF p s a i).1 4)), nmA_ok hp, nmA_n.2⟩
theorem fit_ex {p : Int} {s : Src} (hs : SrcOk s) {a : Alg} {most : Int} (hm : 1 ≤ most) : ∃ n, (fitF p s a n).2.n ≤ most ∧ ∀ i, i < n → ¬ (fitF p s a i).2.n ≤ most := by
  have hex : ∃ n, (fitF p s a n).2.n ≤ most := by
    obtain ⟨n, hn⟩ := low_draw hs
    refine ⟨n + 1, ?_⟩
    show (nmA (nextV (fitF p s a n).1 4).toNat p).n ≤ most
    rw [fitF_1, hn, nmA_n.1]
    exact hm
  have key : ∀ n, (∃ m, m ≤ n ∧ (fitF p s a m).2.n ≤ most) → ∃ n, (fitF p s a n).2.n ≤ most ∧ ∀ i, i < n → ¬ (fitF p s a i).2.n ≤ most := by
    intro n
    induction n with
    | zero =>
      rintro ⟨m, hm, h⟩
      obtain rfl : m = 0 := by omega
      exact ⟨0, h, fun i hi => absurd hi (Nat.not_lt_zero _)⟩
    | succ n ih =>
      rintro ⟨m, hm, h⟩
      by_cases c : ∃ m, m ≤ n ∧ (fitF p s a m).2.n ≤ most
      · exact ih c
      · refine ⟨m, h, fun i hi hc => c ⟨i, by omega, hc⟩⟩
  obtain ⟨n, hn⟩ := hex
  exact key n ⟨n, Nat.le_refl _, hn⟩
def shrS (p : Int) (x : Src × Alg) : Src × Alg :=
  let i := nextV x.1 x.2.n
  let s1 := nextT x.1 x.2.n
  let j := nextV s1 x.2.n
  let s2 := nextT s1 x.2.n
  if i = j then (s2, x.2) else (nextT s2 p, sheA x.2 i.toNat j.toNat (nextV s2 p))
def shrF (p : Int) (s : Src) (a : Alg) : Nat → Src × Alg
  | 0 => (s, a)
  | i + 1 => shrS p (shrF p s a i)
theorem shrS_ok {p : Int} {x : Src × Alg} (hs : SrcOk x.1) (ha : AlgOk x.2) : SrcOk (shrS p x).1 ∧ AlgOk (shrS p x).2 ∧ (shrS p x).2.n = x.2.n ∧ (shrS p x).2.p = x.2.p := by
  have hn := ha.n
  have h1 := nextV_bd (s := x.1) hn.1
  have h2 := nextV_bd (s := nextT x.1 x.2.n) hn.1
  unfold shrS
  dsimp only
  split
  · exact ⟨nextT_ok (nextT_ok hs _) _, ha, rfl, rfl⟩
  · exact ⟨nextT_ok (nextT_ok (nextT_ok hs _) _) _, sheA_ok ha (by omega) (by omega), rfl, rfl⟩
theorem shrF_ok {p : Int} {s : Src} (hs : SrcOk s) {a : Alg} (ha : AlgOk a) : ∀ i, SrcOk (shrF p s a i).1 ∧ AlgOk (shrF p s a i).2 ∧ (shrF p s a i).2.n = a.n ∧ (shrF p s a i).2.p = a.p
  | 0 => ⟨hs, ha, rfl, rfl⟩
  | i + 1 => by
    obtain ⟨h1, h2, h3, h4⟩ := shrF_ok hs ha (p := p) i
    obtain ⟨g1, g2, g3, g4⟩ := shrS_ok (p := p) h1 h2
    exact ⟨g1, g2, g3.trans h3, g4.trans h4⟩
def newF (a : Alg) (c : Row) : Row := fun i => if (i : Int) < a.n then formV a (timesV a c (basV i)) else 0
theorem newF_ok {a : Alg} (ha : AlgOk a) (c : Row) : AlgOk { a with f := newF a c } := by
  have hp := prime_bd ha.p
  refine ⟨ha.p, ha.n, ha.T, fun i => ?_, ha.z, fun i hi => ?_⟩
  · show 0 ≤ newF a c i ∧ newF a c i < a.p
    unfold newF
    split
    · exact mod_bd _ (by omega)
    · omega
  · show newF a c i = 0
    have hi : a.n ≤ (i : Int) := hi
    unfold newF
    rw [if_neg (by omega)]
def litF (L : List Int) (i : Nat) : Int := L.getD i 0
end Go.X
