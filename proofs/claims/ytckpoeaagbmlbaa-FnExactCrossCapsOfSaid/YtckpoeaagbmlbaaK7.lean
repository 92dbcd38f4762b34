import Derived.Test.YtckpoeaagbmlbaaK3
import Derived.Test.YtckpoeaagbmlbaaK6
import Derived.Test.YtckpoeaagbmlbaaK5
set_option linter.all false
namespace Go.X
open Go Go.RowKit
theorem pow_bd {p : Int} (hp : p ∈ primes) {k : Nat} (hk : k ≤ 6) : 1 ≤ p ^ k ∧ p ^ k ≤ 4826809 := by
  have : ∀ p ∈ primes, ∀ k ∈ List.range 7, 1 ≤ p ^ k ∧ p ^ k ≤ 4826809 := by decide +kernel
  exact this p hp k (by simp; omega)
def digV (p : Int) (n : Nat) (x : Int) : Row := fun j => x / p ^ (n - 1 - j) % p
def digQ (p : Int) (n : Nat) (x : Int) (q : Nat) : Row := fun j => if n - q ≤ j then digV p n x j else 0
def C_powerAll (P : Program) (N : FN) : Prop := ∀ {p : Int} {k : Nat}, p ∈ primes → k ≤ 6 → Can P N.impl_powerAll [.int .i64 p, .int .i64 k] (.val (.int .i64 (p ^ k)))
def C_digits (P : Program) (N : FN) : Prop := ∀ {p x : Int} {n : Nat}, p ∈ primes → n ≤ 6 → 0 ≤ x ∧ x ≤ 1000000000 → Can P N.impl_digits [.int .i64 x, .int .i64 p, .int .i64 n] (.val (rowD n (digV p n x)))
def mkV (k : Int) : Nat → Nat → Int := fun i j => (k + 6 * i + j) % 256
def mkQ (k : Int) (s : Nat → Nat → Int) (q : Nat) : Nat → Nat → Int := fun i j => if 6 * i + j < q then mkV k i j else s i j
def C_markVS (P : Program) (N : FN) : Prop := ∀ {m : Nat} {s : Nat → Nat → Int} {k : Int}, m ≤ 1048576 → 0 ≤ k ∧ k ≤ 1000000 → Can P N.laws_markVectorS [.ownA 6 (arr m fun i => vecL (s i)), .int .i64 k] (.post (some (arr m fun i => vecL (mkV k i))) (.val (.int .i64 (k + 6 * m))))
def C_heldVS (P : Program) (N : FN) : Prop := ∀ {m : Nat} {k : Int}, m ≤ 1048576 → 0 ≤ k ∧ k ≤ 1000000 → Can P N.laws_heldVectorS [vsD m (mkV k), .int .i64 k] (.val (.int .i64 (k + 6 * m)))
end Go.X
namespace Go.X
open Go Go.RowKit
theorem form_bas {a : Alg} (ha : AlgOk a) {i : Nat} (hi : i < a.n.toNat) : formV a (basV i) = a.f i := by
  have hn := ha.n
  unfold formV fsum
  rw [sumN_one' (i := i) (by omega) fun k _ hne => by unfold basV; rw [if_neg hne, Int.zero_mul]]
  have e : basV i i = 1 := by unfold basV; rw [if_pos rfl]
  rw [e, Int.one_mul]
  exact Int.emod_eq_of_lt (ha.f i).1 (ha.f i).2
theorem star_iff {a : Alg} (ha : AlgOk a) {s : Nat → Nat → Int} : iStarP a s ↔ sStarP a s := by
  unfold iStarP sStarP iStar1 iStar2 sStar1 sStar2
  refine forall_congr' fun i => forall_congr' fun hi => ?_
  rw [form_bas ha hi]
  refine and_congr Iff.rfl (forall_congr' fun j => forall_congr' fun hj => ?_)
  rw [bas_times2 ha hi hj]
theorem klein_same {a : Alg} (ha : AlgOk a) (hf : sFrobP a) (s : Nat → Nat → Int) : iKlein a s = sKlein a s := by
  unfold iKlein sKlein
  rw [iCop_len2 ha hf]
  exact pairR_ext _ fun i j hi hj => cop_same ha hf hi hj
theorem st3_iff {a : Alg} (ha : AlgOk a) {s : Nat → Nat → Int} : (CommP a ∧ FrobP a ∧ iStarP a s) ↔ (sCommP a ∧ sFrobP a ∧ sStarP a s) :=
  and_congr (comm_iff ha) (and_congr (frob_iff ha) (star_iff ha))
theorem scode_same {a : Alg} (hi : AlgIn a) {m q : Nat} {s t : Nat → Nat → Int} : scode (dB (IsAlgP a ∧ AllSm a q t)) (dB (m = a.n.toNat ∧ AllSm a m s)) (dB (CommP a ∧ FrobP a ∧ iStarP a s)) =
    scode (dB (sAlgP a ∧ AllSm a q t)) (dB (m = a.n.toNat ∧ AllSm a m s)) (dB (sCommP a ∧ sFrobP a ∧ sStarP a s)) := by
  rw [dB_congr (and_congr (alg_iff hi) Iff.rfl)]
  by_cases g : sAlgP a ∧ AllSm a q t
  · rw [dB_congr (st3_iff (hi.s.ok g.1.1))]
  · rw [dB_f g]; rfl
def tyVs : Ty := .sl tyVec
theorem vecs_fn : ∀ {l : List (List D)}, (∀ r ∈ l, ∃ f : Nat → Int, r = vecL f ∧ Byts f) → ∃ s : Nat → Nat → Int, l = arr l.length (fun i => vecL (s i)) ∧ ∀ i, Byts (s i)
  | [], _ => ⟨fun _ => Z, rfl, fun _ _ => by show (0 : Int) ≤ 0 ∧ (0 : Int) ≤ 255; omega⟩
  | r :: l, h => by
    obtain ⟨f, rfl, hf⟩ := h r (List.mem_cons_self ..)
    obtain ⟨s, h1, hs⟩ := vecs_fn fun r hr => h r (List.mem_cons_of_mem _ hr)
    refine ⟨fun i => if i = 0 then f else s (i - 1), ?_, fun i => ?_⟩
    · refine arr_of rfl fun i hi => ?_
      cases i with
      | zero => rfl
      | succ i =>
        rw [List.getElem?_cons_succ, h1, arr_get (by simp at hi; omega)]; rfl
    · dsimp only; split
      · exact hf
      · exact hs _
theorem arg_vs {d : D} (h : tyVs.arg d) : ∃ (m : Nat) (s : Nat → Nat → Int), d = vsD m s ∧ m ≤ maxLen ∧ ∀ i, Byts (s i) := by
  obtain ⟨l, h, hl, hr⟩ := h
  simp only [List.cons.injEq, and_true] at h
  obtain ⟨s, h1, hs⟩ := vecs_fn (l := l) fun r hrm => allU8_arr (n := 6) allU8_int _ (hr r hrm)
  refine ⟨l.length, s, ?_, hl, hs⟩
  rw [h]
  show D.lst 6 l = _
  rw [h1, arr_len]
end Go.X
