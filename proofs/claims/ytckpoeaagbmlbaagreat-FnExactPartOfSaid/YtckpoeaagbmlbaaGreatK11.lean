import Derived.Test.YtckpoeaagbmlbaaGreatK10
set_option linter.all false
namespace Go.X
open Go Go.RowKit
def ltN (v w : Nat → Int) : Nat → Nat → Bool
  | 0, _ => false
  | k + 1, i => if v i = w i then ltN v w k (i + 1) else decide (v i < w i)
def ltV (v w : Nat → Int) : Bool := ltN v w 6 0
def LtV (v w : Nat → Int) (i k : Nat) : Prop := ∃ q, i ≤ q ∧ q < i + k ∧ v q < w q ∧ ∀ j, i ≤ j → j < q → v j = w j
theorem ltN_iff {v w : Nat → Int} : ∀ k i, ltN v w k i = true ↔ LtV v w i k
  | 0, i => ⟨fun h => absurd h Bool.false_ne_true, fun ⟨q, h1, h2, _⟩ => absurd h2 (by omega)⟩
  | k + 1, i => by
    unfold ltN
    by_cases e : v i = w i
    · rw [if_pos e, ltN_iff k (i + 1)]
      refine ⟨fun ⟨q, h1, h2, h3, h4⟩ => ⟨q, by omega, by omega, h3, fun j hj1 hj2 => ?_⟩, fun ⟨q, h1, h2, h3, h4⟩ => ⟨q, ?_, by omega, h3, fun j hj1 hj2 => h4 j (by omega) hj2⟩⟩
      · by_cases g : j = i
        · rw [g]; exact e
        · exact h4 j (by omega) hj2
      · have : q ≠ i := fun g => by rw [g, e] at h3; omega
        omega
    · rw [if_neg e, decide_eq_true_eq]
      refine ⟨fun h => ⟨i, Nat.le_refl _, by omega, h, fun j h1 h2 => by omega⟩, fun ⟨q, h1, h2, h3, h4⟩ => ?_⟩
      by_cases g : q = i
      · rwa [g] at h3
      · exact absurd (h4 i (Nat.le_refl _) (by omega)) e
theorem ltV_iff {v w : Nat → Int} : ltV v w = true ↔ LtV v w 0 6 := ltN_iff 6 0
theorem ltV_trans {u v w : Nat → Int} (h : ltV u v = true) (g : ltV v w = true) : ltV u w = true := by
  rw [ltV_iff] at h g ⊢
  obtain ⟨q, h1, h2, h3, h4⟩ := h
  obtain ⟨r, g1, g2, g3, g4⟩ := g
  rcases Nat.lt_trichotomy q r with c | c | c
  · exact ⟨q, h1, h2, by rw [← g4 q (by omega) c]; exact h3, fun j hj1 hj2 => by rw [h4 j hj1 hj2, g4 j hj1 (by omega)]⟩
  · subst c
    exact ⟨q, h1, h2, by omega, fun j hj1 hj2 => by rw [h4 j hj1 hj2, g4 j hj1 hj2]⟩
  · exact ⟨r, g1, g2, by rw [h4 r (by omega) c]; exact g3, fun j hj1 hj2 => by rw [h4 j hj1 (by omega), g4 j hj1 hj2]⟩
theorem ltV_asym {v w : Nat → Int} (h : ltV v w = true) : ltV w v = false := by
  cases c : ltV w v with
  | false => rfl
  | true =>
    rw [ltV_iff] at h c
    obtain ⟨q, h1, h2, h3, h4⟩ := h
    obtain ⟨r, g1, g2, g3, g4⟩ := c
    rcases Nat.lt_trichotomy q r with e | e | e
    · have := g4 q (by omega) e; omega
    · subst e; omega
    · have := h4 r (by omega) e; omega
theorem ltV_tot {v w : Nat → Int} (h : ltV v w = false) (hne : ¬ VEq v w) : ltV w v = true := by
  obtain ⟨q, hq, hd, hmin⟩ : ∃ q, q < 6 ∧ v q ≠ w q ∧ ∀ j, j < q → v j = w j := by
    obtain ⟨q, h1, h2⟩ := least (p := fun q => q < 6 ∧ v q ≠ w q) (Classical.byContradiction fun g => hne fun i hi => Classical.byContradiction fun e => g ⟨i, hi, e⟩)
    exact ⟨q, h1.1, h1.2, fun j hj => Classical.byContradiction fun e => by have := h2 j ⟨by omega, e⟩; omega⟩
  rcases Int.lt_or_gt_of_ne hd with c | c
  · have : ltV v w = true := ltV_iff.2 ⟨q, by omega, by omega, c, fun j _ hj => hmin j hj⟩
    rw [h] at this; cases this
  · exact ltV_iff.2 ⟨q, by omega, by omega, c, fun j _ hj => (hmin j hj).symm⟩
def posV (v : Nat → Int) : List Row → Nat
  | [] => 0
  | s :: r => if ltV s v = true then posV v r + 1 else 0
def insV (S : List Row) (v : Nat → Int) : List Row := S.take (posV v S) ++ v :: S.drop (posV v S)
def sortV (L : List Row) : List Row := L.foldl insV []
theorem posV_le (v : Nat → Int) : ∀ S : List Row, posV v S ≤ S.length
  | [] => Nat.le_refl 0
  | s :: r => by
    have := posV_le v r
    unfold posV
    split <;> simp only [List.length_cons] <;> omega
theorem posV_eq {v : Nat → Int} : ∀ {S : List Row} {q : Nat}, q ≤ S.length → (∀ k, k < q → ltV (S.getD k Z) v = true) → (q < S.length → ltV (S.getD q Z) v = false) → posV v S = q
  | [], q, h1, _, _ => by simp only [List.length_nil] at h1; unfold posV; omega
  | s :: r, 0, _, _, h3 => by
    have := h3 (by simp)
    unfold posV
    rw [if_neg (by rw [show ltV s v = false from this]; simp)]
  | s :: r, q + 1, h1, h2, h3 => by
    have h0 : ltV s v = true := h2 0 (by omega)
    simp only [List.length_cons] at h1 h3
    unfold posV
    rw [if_pos h0, posV_eq (q := q) (by omega) (fun k hk => h2 (k + 1) (by omega)) (fun hq => h3 (by omega))]
theorem posV_lt {v : Nat → Int} : ∀ {S : List Row} {k : Nat}, k < posV v S → ltV (S.getD k Z) v = true
  | [], k, h => by simp [posV] at h
  | s :: r, k, h => by
    unfold posV at h
    split at h
    · rename_i e
      cases k with
      | zero => exact e
      | succ k => exact posV_lt (S := r) (by omega)
    · omega
theorem posV_ge {v : Nat → Int} : ∀ {S : List Row}, posV v S < S.length → ltV (S.getD (posV v S) Z) v = false
  | [], h => by simp at h
  | s :: r, h => by
    unfold posV at h ⊢
    split at h
    · rename_i e
      rw [if_pos e]
      simp only [List.length_cons] at h
      exact posV_ge (S := r) (by omega)
    · rename_i e
      rw [if_neg e]
      simpa using e
theorem insV_len (S : List Row) (v : Nat → Int) : (insV S v).length = S.length + 1 := by
  have := posV_le v S
  unfold insV
  rw [List.length_append, List.length_cons, List.length_take, List.length_drop]; omega
theorem insV_mem {S : List Row} {v x : Nat → Int} : x ∈ insV S v ↔ x = v ∨ x ∈ S := by
  unfold insV
  rw [List.mem_append, List.mem_cons]
  conv => rhs; rw [← List.take_append_drop (posV v S) S, List.mem_append]
  constructor
  · rintro (h | h | h)
    · exact .inr (.inl h)
    · exact .inl h
    · exact .inr (.inr h)
  · rintro (h | h | h)
    · exact .inr (.inl h)
    · exact .inl h
    · exact .inr (.inr h)
abbrev AscV (S : List Row) : Prop := S.Pairwise fun v w => ltV v w = true
theorem asc_get {S : List Row} (h : AscV S) {i j : Nat} (hij : i < j) (hj : j < S.length) : ltV (S.getD i Z) (S.getD j Z) = true := by
  have g : ∀ k (hk : k < S.length), S.getD k Z = S[k] := fun k hk => by rw [List.getD_eq_getElem?_getD, List.getElem?_eq_getElem hk]; rfl
  rw [g i (by omega), g j hj]
  exact List.pairwise_iff_getElem.1 h i j (by omega) hj hij
theorem insV_asc {S : List Row} (h : AscV S) {v : Nat → Int} (hv : ∀ s ∈ S, ¬ VEq s v) : AscV (insV S v) := by
  have hle := posV_le v S
  have hd : ∀ x ∈ S.drop (posV v S), ltV v x = true := fun x hx => by
    obtain ⟨k, hk, rfl⟩ := List.getElem_of_mem hx
    rw [List.length_drop] at hk
    have e : (S.drop (posV v S))[k] = S.getD (posV v S + k) Z := by
      rw [List.getElem_drop, List.getD_eq_getElem?_getD, List.getElem?_eq_getElem (by omega)]; rfl
    have e0 : ltV v (S.getD (posV v S) Z) = true := by
      refine ltV_tot (posV_ge (by omega)) (hv _ ?_)
      rw [List.getD_eq_getElem?_getD, List.getElem?_eq_getElem (by omega)]
      exact List.getElem_mem _
    rw [e]
    by_cases c : k = 0
    · rw [c]; exact e0
    · exact ltV_trans e0 (asc_get h (by omega) (by omega))
  have ht : ∀ x ∈ S.take (posV v S), ltV x v = true := fun x hx => by
    obtain ⟨k, hk, rfl⟩ := List.getElem_of_mem hx
    rw [List.length_take] at hk
    have e : (S.take (posV v S))[k] = S.getD k Z := by
      rw [List.getElem_take, List.getD_eq_getElem?_getD, List.getElem?_eq_getElem (by omega)]; rfl
    rw [e]
    exact posV_lt (by omega)
  unfold insV
  refine List.pairwise_append.2 ?_
  rw [List.pairwise_cons]
  refine ⟨h.sublist (List.take_sublist _ _), ⟨hd, h.sublist (List.drop_sublist _ _)⟩, fun x hx y hy => ?_⟩
  rcases List.mem_cons.1 hy with e | e
  · rw [e]; exact ht x hx
  · exact ltV_trans (ht x hx) (hd y e)
abbrev DistV (L : List Row) : Prop := L.Pairwise fun v w => ¬ VEq v w
theorem sortV_snoc (L : List Row) (v : Nat → Int) : sortV (L ++ [v]) = insV (sortV L) v := by unfold sortV; rw [List.foldl_append]; rfl
theorem sortV_facts : ∀ (n : Nat) (L : List Row), L.length = n → DistV L → AscV (sortV L) ∧ (sortV L).length = L.length ∧ ∀ x, x ∈ sortV L ↔ x ∈ L
  | 0, L, hn, _ => by
    have : L = [] := List.length_eq_zero_iff.1 hn
    subst this
    exact ⟨List.Pairwise.nil, rfl, fun x => Iff.rfl⟩
  | n + 1, L, hn, hd => by
    have hne : L ≠ [] := fun e => by rw [e] at hn; cases hn
    obtain ⟨M, v, rfl⟩ : ∃ M v, L = M ++ [v] := ⟨L.dropLast, L.getLast hne, (List.dropLast_concat_getLast hne).symm⟩
    rw [List.length_append] at hn
    have hd' := List.pairwise_append.1 hd
    obtain ⟨h1, h2, h3⟩ := sortV_facts n M (by simp only [List.length_cons, List.length_nil] at hn; omega) hd'.1
    rw [sortV_snoc]
    refine ⟨insV_asc h1 fun s hs => hd'.2.2 s ((h3 s).1 hs) v (List.mem_singleton.2 rfl), by rw [insV_len, h2, List.length_append]; rfl, fun x => ?_⟩
    rw [insV_mem, h3, List.mem_append, List.mem_singleton, Or.comm]
theorem sortV_len (L : List Row) : (sortV L).length = L.length := by
  have key : ∀ (L S : List Row), (L.foldl insV S).length = S.length + L.length := by
    intro L
    induction L with
    | nil => intro S; rfl
    | cons v r ih => intro S; rw [List.foldl_cons, ih, insV_len, List.length_cons]; omega
  have := key L []
  unfold sortV; rw [this]; simp
theorem sortV_take {L : List Row} {i : Nat} (h : i < L.length) : sortV (L.take (i + 1)) = insV (sortV (L.take i)) (L.getD i Z) := by
  have e1 : L.take (i + 1) = L.take i ++ [L.getD i Z] := by rw [List.take_add_one]; simp [h]
  rw [e1, sortV_snoc]
section
variable {a : Alg}
theorem orth_dist (h : CA a) {E : List Row} (hE : Orth a E) : DistV E := by
  refine List.Pairwise.imp_of_mem (fun {e f} he hf hef hv => ?_) hE.pair
  have e1 : e = f := funext fun i => by
    by_cases c : i < 6
    · exact hv i c
    · have hn := h.ok.n
      rw [(hE.inn e he).2 i (by omega), (hE.inn f hf).2 i (by omega)]
  rw [← e1, hE.idem e he] at hef
  obtain ⟨i, hi⟩ := hE.nz e he
  exact hi (by rw [hef]; rfl)
end
def cmpV (v w : Nat → Int) : Int := if VEq v w then 0 else if ltV v w = true then -1 else 1
end Go.X
namespace Go.X
open Go Go.RowKit
section
variable {a : Alg}
def nilF (a : Alg) (s : Nat) (x : Nat → Int) : Nat → Int := pw a x (a.p.toNat ^ s)
theorem nil_rw (h : CA a) (s : Nat) : RwL a.p (mapL a.n.toNat (nilF a s)) := fun r hr => by
  obtain ⟨i, _, rfl⟩ := List.mem_map.1 hr
  exact fun j => (in_pw h _ _).1 i
end
end Go.X
