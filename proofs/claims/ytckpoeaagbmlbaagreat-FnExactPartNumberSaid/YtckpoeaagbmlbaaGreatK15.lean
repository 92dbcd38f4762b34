import Derived.Test.YtckpoeaagbmlbaaGreatK10
import Derived.Test.YtckpoeaagbmlbaaGreatK14
set_option linter.all false
namespace Go.X
open Go Go.RowKit
def expI (p : Int) : Nat := if 6 < p then 1 else if 6 < p ^ 2 then 2 else 3
theorem expI_tab : ∀ p ∈ primes, ∀ i ∈ List.range 4, 1 ≤ i → i ≤ expI p → (p ^ i ≤ 6 ↔ i < expI p) ∧ p ^ i ≤ 1000 := by decide +kernel
theorem expI_facts {p : Int} (hp : p ∈ primes) : 1 ≤ expI p ∧ expI p ≤ 3 ∧ 6 < p ^ expI p ∧ ∀ i : Nat, 1 ≤ i → i ≤ expI p → (p ^ i ≤ 6 ↔ i < expI p) ∧ p ^ i ≤ 1000 := by
  have hb : 1 ≤ expI p ∧ expI p ≤ 3 := by unfold expI; split <;> (try split) <;> omega
  have h : ∀ i : Nat, 1 ≤ i → i ≤ expI p → (p ^ i ≤ 6 ↔ i < expI p) ∧ p ^ i ≤ 1000 := fun i h1 h2 => expI_tab p hp i (List.mem_range.2 (by omega)) h1 h2
  refine ⟨hb.1, hb.2, ?_, h⟩
  have := (h (expI p) hb.1 (Nat.le_refl _)).1
  omega
theorem frobI_pw {a : Alg} (h : CA a) (v : Row) : ∀ t, 1 ≤ t → frobI a v t = pw a v (a.p.toNat ^ t)
  | 0, h0 => absurd h0 (by omega)
  | 1, _ => by
    show foldV a (iUnit a) v a.p.toNat = pw a v (a.p.toNat ^ 1)
    rw [(unit_same h.ok).2, Nat.pow_one]
  | t + 2, _ => by
    show foldV a (iUnit a) (frobI a v (t + 1)) a.p.toNat = _
    rw [frobI_pw h v (t + 1) (by omega), (unit_same h.ok).2]
    exact (pw_frob h (t + 1)).symm
theorem pow_nat {p : Int} (hp : 2 ≤ p) (s : Nat) : ((p.toNat ^ s : Nat) : Int) = p ^ s := by rw [Int.natCast_pow, show ((p.toNat : Nat) : Int) = p by omega]
theorem nil_imp {a : Alg} (h : CA a) : (iKerF a.p a.n.toNat (mapL a.n.toNat (nilF a (expI a.p)))).map (vecR a.n.toNat) = nilL a := by
  have hp2 := h.p2
  have hn := h.ok.n
  have e1 := (expI_facts h.ok.p).2.2.1
  have e2 := (exp_facts h.ok.p hn).2.2.1
  rw [← pow_nat hp2] at e1 e2
  exact nil_same h (by omega) (by omega)
def C_nil1 (P : Program) (N : FN) : Prop := ∀ {sz : Nat} {l : List (List D)} {e off : Nat} {a : Alg} {v : Row} {t : Nat}, AlgAt l e off a → AlgOk a → Byts v → t ≤ 100 → Can P N.impl_Algebra_nilradical_1 [vecD v, .pd 1 [[.pd sz l e off]] 0 0, .pd 1 [[.int .i64 t]] 0 0] (.val (vecD (frobI a v t)))
def C_nil (P : Program) (N : FN) : Prop := ∀ {sz : Nat} {l : List (List D)} {e off : Nat} {a : Alg}, AlgAt l e off a → CA a → Can P N.impl_Algebra_nilradical [.pd sz l e off] (.own 6 ((nilL a).map vecL))
def C_degrees (P : Program) (N : FN) : Prop := ∀ {sz : Nat} {l : List (List D)} {e off : Nat} {a : Alg}, AlgAt l e off a → CA a → Can P N.impl_Algebra_degrees [.pd sz l e off] (.own 1 (row (primI a).length (szF a true)))
def SplitP (a : Alg) : Prop := ∀ i, i < (primI a).length → szF a true i = 1
def C_CFInt (P : Program) (N : FN) : Prop := ∀ {m : Nat} {f : Row} {g : FuncId} {q : Nat → Bool}, m ≤ 1000000 → (∀ i, i < m → Can P g [.int .i64 (f i)] (.val (.bool (q i)))) → Can P N.slices_ContainsFunc_Lint64_int64 [rowD m f, .fn g [] []] (.val (.bool (Cm.geq.int (idxF q m) 0)))
def C_split1 (P : Program) (N : FN) : Prop := ∀ {x : Int}, Can P N.impl_Algebra_split_1 [.int .i64 x] (.val (.bool (x != 1)))
def C_split (P : Program) (N : FN) : Prop := ∀ {sz : Nat} {l : List (List D)} {e off : Nat} {a : Alg}, AlgAt l e off a → CA a → Can P N.impl_Algebra_split [.pd sz l e off] (.val (.bool (dB (SplitP a))))
def C_sSplit (P : Program) (N : FN) : Prop := ∀ {a : Alg}, CA a → Can P N.spec_l05Split [algD a] (.val (.bool (dB (SplitP a))))
end Go.X
