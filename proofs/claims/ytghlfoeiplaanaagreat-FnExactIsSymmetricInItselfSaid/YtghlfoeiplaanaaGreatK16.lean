import Derived.Test.YtghlfoeiplaanaaGreatK11
import Derived.Test.YtghlfoeiplaanaaGreatK15
set_option linter.all false
namespace Go.X
open Go Go.RowKit
def C_equationsM (P : Program) (N : FN) : Prop := ∀ {sz : Nat} {l : List (List D)} {e off : Nat} {a : Alg} {m : Nat} {g : Nat → FuncId} {c d : Nat → D} {M : Nat → Nat → Nat → Int}, AlgAt l e off a → AlgOk a → m ≤ 100 → (∀ q i k, 0 ≤ M q i k ∧ M q i k ≤ 255) →
  (∀ q i : Nat, q < m → i < a.n.toNat → Can P (g q) [vecD (basV i), c q, d q] (.val (vecD (M q i)))) → Can P N.impl_Algebra_equations [.pd sz l e off, .lst 1 (mapsL m g c d)] (.val (.lst 1 (nestD 1 (arr (m * a.n.toNat) fun r => row a.n.toNat (eqR M a.n.toNat r)))))
def killM (a : Alg) (L : List Row) (q i : Nat) : Row := timesV a (basV i) (L.getD q Z)
def killE (a : Alg) (L : List Row) : List Row := arr (L.length * a.n.toNat) (eqR (killM a L) a.n.toNat)
def annL (a : Alg) (L : List Row) : List Row := (sKerF a.p a.n.toNat (killE a L)).map (vecR a.n.toNat)
theorem killE_rw {a : Alg} (hp : 1 ≤ a.p) (L : List Row) : RwL a.p (killE a L) := fun r hr => by
  obtain ⟨i, _, rfl⟩ := List.mem_map.1 hr
  exact fun j => times_rw hp _ _ _
theorem kill_imp {a : Alg} (ha : AlgOk a) (L : List Row) : (iKerF a.p a.n.toNat (killE a L)).map (vecR a.n.toNat) = annL a L := space_imp ha.p (killE_rw (by have := prime_bd ha.p; omega) L)
theorem kill_len {a : Alg} (ha : AlgOk a) (L : List Row) : (annL a L).length ≤ a.n.toNat := by
  obtain ⟨ld, rr⟩ := sKer_rr (n := a.n.toNat) (L := killE a L) ha.p
  unfold annL
  rw [List.length_map]; exact rr.len_le
theorem kill_byt {a : Alg} (ha : AlgOk a) (L : List Row) : ∀ w ∈ annL a L, Byts w := fun w hw => by
  obtain ⟨r, hr, rfl⟩ := List.mem_map.1 hw
  obtain ⟨ld, rr⟩ := sKer_rr (n := a.n.toNat) (L := killE a L) ha.p
  have hp := prime_bd ha.p
  intro i
  have := rr.rw r hr i
  unfold vecR
  split <;> omega
def C_annih (P : Program) (N : FN) : Prop := ∀ {sz : Nat} {l : List (List D)} {e off : Nat} {a : Alg} {L : List Row}, AlgAt l e off a → AlgOk a → L.length ≤ 6 → (∀ w ∈ L, Byts w) → Can P N.impl_Algebra_annihilator [.pd sz l e off, .lst 6 (L.map vecL)] (.own 6 ((annL a L).map vecL))
def C_sKill (P : Program) (N : FN) : Prop := ∀ {a : Alg} {L : List Row}, AlgOk a → L.length ≤ 6 → (∀ w ∈ L, Byts w) → Can P N.spec_l09Kill [algD a, .lst 6 (L.map vecL)] (.own 6 ((annL a L).map vecL))
def SymSelf (a : Alg) : Prop := ∀ i, i < (primI a).length → ((partL a ((sortV (primI a)).getD i Z) (annL a (nilL a))).length : Int) = szF a true i
def C_IsSymSelf (P : Program) (N : FN) : Prop := ∀ {a : Alg}, AlgIn a → Can P N.impl_IsSymmetricInItself [algD a] (isPR (dB (SymSelf a)) (dB (IsAlgP a)) (dB (CommP a)))
def C_sIsSymSelf (P : Program) (N : FN) : Prop := ∀ {a : Alg}, SAlgIn a → Can P N.spec_IsSymmetricInItself [algD a] (isPR (dB (SymSelf a)) (dB (sAlgP a)) (dB (sCommP a)))
theorem killE_d {a : Alg} {L : List Row} : D.lst 1 (nestD 1 (arr (L.length * a.n.toNat) fun r => row a.n.toNat (eqR (killM a L) a.n.toNat r))) = rowsD a.n.toNat (killE a L) := by
  refine congrArg (D.lst 1) ?_
  unfold nestD rowsL killE
  rw [arr_map, arr_map]
end Go.X
