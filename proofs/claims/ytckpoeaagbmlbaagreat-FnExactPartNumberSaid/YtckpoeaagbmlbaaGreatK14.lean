import Derived.Test.YtckpoeaagbmlbaaGreatK9
import Derived.Test.YtckpoeaagbmlbaaGreatK13
set_option linter.all false
namespace Go.X
open Go Go.RowKit
def basL (a : Alg) : List Row := arr a.n.toNat basV
def partL (a : Alg) (e : Row) (L : List Row) : List Row := (echF a.p a.n.toNat (L.map (timesV a e))).map (vecR a.n.toNat)
def expS (p n : Int) : Nat := if n ≤ p then 1 else if n ≤ p ^ 2 then 2 else 3
def nilL (a : Alg) : List Row := spaceL a.p a.n.toNat (nilF a (expS a.p a.n))
theorem exp_tab : ∀ p ∈ primes, ∀ n ∈ (List.range 7).map Int.ofNat, ∀ i ∈ List.range 4, 1 ≤ i → i ≤ expS p n → (p ^ i < n ↔ i < expS p n) ∧ p ^ i ≤ 1000 := by decide +kernel
theorem exp_facts {p n : Int} (hp : p ∈ primes) (hn : 1 ≤ n ∧ n ≤ 6) : 1 ≤ expS p n ∧ expS p n ≤ 3 ∧ n ≤ p ^ expS p n ∧ ∀ i : Nat, 1 ≤ i → i ≤ expS p n → (p ^ i < n ↔ i < expS p n) ∧ p ^ i ≤ 1000 := by
  have hb : 1 ≤ expS p n ∧ expS p n ≤ 3 := by unfold expS; split <;> (try split) <;> omega
  have h : ∀ i : Nat, 1 ≤ i → i ≤ expS p n → (p ^ i < n ↔ i < expS p n) ∧ p ^ i ≤ 1000 := fun i h1 h2 =>
    exp_tab p hp n (by refine List.mem_map.2 ⟨n.toNat, List.mem_range.2 (by omega), ?_⟩; show ((n.toNat : Nat) : Int) = n; omega) i (List.mem_range.2 (by omega)) h1 h2
  refine ⟨hb.1, hb.2, ?_, h⟩
  have := (h (expS p n) hb.1 (Nat.le_refl _)).1
  omega
def C_row (P : Program) (N : FN) : Prop := ∀ {sz : Nat} {l : List (List D)} {e off : Nat} {a : Alg} {v : Row}, AlgAt l e off a → 0 ≤ a.n ∧ a.n ≤ 6 → Byts v → Can P N.impl_Algebra_row [.pd sz l e off, vecD v] (.val (rowD a.n.toNat v))
def C_sRow (P : Program) (N : FN) : Prop := ∀ {m : Nat} {v : Row}, m ≤ 6 → Byts v → Can P N.spec_l05Row [vecD v, .int .i64 m] (.val (rowD m v))
def C_spanned (P : Program) (N : FN) : Prop := ∀ {sz : Nat} {l : List (List D)} {e off : Nat} {a : Alg} {L : List Row}, AlgAt l e off a → AlgOk a → L.length ≤ 1000 → RwL a.p L → Can P N.impl_Algebra_spanned [.pd sz l e off, .lst 6 (L.map vecL)] (.own 6 (((redF a.p a.n.toNat L).map (vecR a.n.toNat)).map vecL))
def C_spread (P : Program) (N : FN) : Prop := ∀ {sz : Nat} {l : List (List D)} {e off : Nat} {a : Alg} {v : Row} {L : List Row}, AlgAt l e off a → AlgOk a → Byts v → L.length ≤ 1000 → (∀ w ∈ L, Byts w) → Can P N.impl_Algebra_spread [.pd sz l e off, vecD v, .lst 6 (L.map vecL)] (.own 6 ((partL a v L).map vecL))
def C_all (P : Program) (N : FN) : Prop := ∀ {sz : Nat} {l : List (List D)} {e off : Nat} {a : Alg}, AlgAt l e off a → 0 ≤ a.n ∧ a.n ≤ 6 → Can P N.impl_Algebra_all [.pd sz l e off] (.own 6 ((basL a).map vecL))
def C_sBasisL (P : Program) (N : FN) : Prop := ∀ {a : Alg}, 0 ≤ a.n ∧ a.n ≤ 6 → Can P N.spec_l05Basis [algD a] (.own 6 ((basL a).map vecL))
def C_sPart (P : Program) (N : FN) : Prop := ∀ {a : Alg} {v : Row} {L : List Row}, AlgOk a → Byts v → L.length ≤ 1000 → (∀ w ∈ L, Byts w) → Can P N.spec_l05Part [algD a, vecD v, .lst 6 (L.map vecL)] (.own 6 ((partL a v L).map vecL))
def C_sNil (P : Program) (N : FN) : Prop := ∀ {a : Alg}, CA a → Can P N.spec_l05Nil [algD a] (.own 6 ((nilL a).map vecL))
def szF (a : Alg) (b : Bool) (i : Nat) : Int := ((partL a ((sortV (primI a)).getD i Z) (basL a)).length : Int) - (if b then ((partL a ((sortV (primI a)).getD i Z) (nilL a)).length : Int) else 0)
def C_sSizes (P : Program) (N : FN) : Prop := ∀ {a : Alg} {b : Bool}, CA a → Can P N.spec_l05Sizes [algD a, .bool b] (.own 1 (row (primI a).length (szF a b)))
theorem part_rw {a : Alg} (hp : 1 ≤ a.p) (v : Row) (L : List Row) : RwL a.p (L.map (timesV a v)) := fun r hr => by
  obtain ⟨w, _, rfl⟩ := List.mem_map.1 hr
  exact times_rw hp _ _
theorem part_imp {a : Alg} (ha : AlgOk a) (v : Row) (L : List Row) : (redF a.p a.n.toNat (L.map (timesV a v))).map (vecR a.n.toNat) = partL a v L :=
  vecs_same (red_ech ha.p (part_rw (by have := prime_bd ha.p; omega) v L) (part_rw (by have := prime_bd ha.p; omega) v L) fun _ => Iff.rfl)
theorem part_len {a : Alg} (ha : AlgOk a) (v : Row) (L : List Row) : (partL a v L).length ≤ a.n.toNat := by
  obtain ⟨ld, rr⟩ := echF_rr (m := a.n.toNat) ha.p (part_rw (by have := prime_bd ha.p; omega) v L)
  unfold partL
  rw [List.length_map]; exact rr.len_le
theorem basL_byt {a : Alg} : ∀ w ∈ basL a, Byts w := fun w hw => by
  obtain ⟨i, _, rfl⟩ := List.mem_map.1 hw
  exact basV_byt i
theorem basL_len {a : Alg} : (basL a).length = a.n.toNat := arr_len ..
theorem nil_addM {a : Alg} (h : CA a) : AddM a (nilF a (expS a.p a.n)) := frobs_addM h _
theorem nilL_len {a : Alg} (h : CA a) : (nilL a).length ≤ a.n.toNat := by
  obtain ⟨ld, rr⟩ := sKer_rr (n := a.n.toNat) (L := mapL a.n.toNat (nilF a (expS a.p a.n))) h.ok.p
  unfold nilL spaceL
  rw [List.length_map]; exact rr.len_le
theorem nilL_in {a : Alg} (h : CA a) : ∀ b ∈ nilL a, InA a b := fun b hb => (space_mem h (nil_addM h) (fun x _ => in_pw h x _) (nil_rw h _) b hb).1
end Go.X
