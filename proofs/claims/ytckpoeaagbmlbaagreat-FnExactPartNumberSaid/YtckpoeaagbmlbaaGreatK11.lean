import Derived.Test.YtckpoeaagbmlbaaGreatK10
set_option linter.all false
namespace Go.X
open Go Go.RowKit
def ltN (v w : Nat → Int) : Nat → Nat → Bool
  | 0, _ => false
  | k + 1, i => if v i = w i then ltN v w k (i + 1) else decide (v i < w i)
def ltV (v w : Nat → Int) : Bool := ltN v w 6 0
def LtV (v w : Nat → Int) (i k : Nat) : Prop := ∃ q, i ≤ q ∧ q < i + k ∧ v q < w q ∧ ∀ j, i ≤ j → j < q → v j = w j
theorem ltN_iff {v w : Nat → Int} : ∀ k i, ltN v w k i = true ↔ LtV v w i k
  | 0, i => ⟨fun h => absurd h Bool.false_ne_true, fun ⟨q, h1, h2, _⟩ => absurd h2 (by omega)⟩
  | k + 1, i => by
    unfold ltN
    by_cases e : v i = w i
    · rw [if_pos e, ltN_iff k (i + 1)]
      refine ⟨fun ⟨q, h1, h2, h3, h4⟩ => ⟨q, by omega, by omega, h3, fun j hj1 hj2 => ?_⟩, fun ⟨q, h1, h2, h3, h4⟩ => ⟨q, ?_, by omega, h3, fun j hj1 hj2 => h4 j (by omega) hj2⟩⟩
      · by_cases g : j = i
        · rw [g]; exact e
        · exact h4 j (by omega) hj2
      · have : q ≠ i := fun g => by rw [g, e] at h3; omega
        omega
    · rw [if_neg e, decide_eq_true_eq]
      refine ⟨fun h => ⟨i, Nat.le_refl _, by omega, h, fun j h1 h2 => by omega⟩, fun ⟨q, h1, h2, h3, h4⟩ => ?_⟩
      by_cases g : q = i
      · rwa [g] at h3
      · exact absurd (h4 i (Nat.le_refl _) (by omega)) e
theorem ltV_iff {v w : Nat → Int} : ltV v w = true ↔ LtV v w 0 6 := ltN_iff 6 0
theorem ltV_trans {u v w : Nat → Int} (h : ltV u v = true) (g : ltV v w = true) : ltV u w = true := by
  rw [ltV_iff] at h g ⊢
  obtain ⟨q, h1, h2, h3, h4⟩ := h
  obtain ⟨r, g1, g2, g3, g4⟩ := g
  rcases Nat.lt_trichotomy q r with c | c | c
  · exact ⟨q, h1, h2, by rw [← g4 q (by omega) c]; exact h3, fun j hj1 hj2 => by rw [h4 j hj1 hj2, g4 j hj1 (by omega)]⟩
  · subst c
    exact ⟨q, h1, h2, by omega, fun j hj1 hj2 => by rw [h4 j hj1 hj2, g4 j hj1 hj2]⟩
  · exact ⟨r, g1, g2, by rw [h4 r (by omega) c]; exact g3, fun j hj1 hj2 => by rw [h4 j hj1 (by omega), g4 j hj1 hj2]⟩
theorem ltV_asym {v w : Nat → Int} (h : ltV v w = true) : ltV w v = false := by
  cases c : ltV w v with
  | false => rfl
  | true =>
    rw [ltV_iff] at h c
    obtain ⟨q, h1, h2, h3, h4⟩ := h
    obtain ⟨r, g1, g2, g3, g4⟩ := c
    rcases Nat.lt_trichotomy q r with e | e | e
    · have := g4 q (by omega) e; omega
    · subst e; omega
    · have := h4 r (by omega) e; omega
theorem ltV_tot {v w : Nat → Int} (h : ltV v w = false) (hne : ¬ VEq v w) : ltV w v = true := by
  obtain ⟨q, hq, hd, hmin⟩ : ∃ q, q < 6 ∧ v q ≠ w q ∧ ∀ j, j < q → v j = w j := by
    obtain ⟨q, h1, h2⟩ := least (p := fun q => q < 6 ∧ v q ≠ w q) (Classical.byContradiction fun g => hne fun i hi => Classical.byContradiction fun e => g ⟨i, hi, e⟩)
    exact ⟨q, h1.1, h1.2, fun j hj => Classical.byContradiction fun e => by have := h2 j ⟨by omega, e⟩; omega⟩
  rcases Int.lt_or_gt_of_ne hd with c | c
  · have : ltV v w = true := ltV_iff.2 ⟨q, by omega, by omega, c, fun j _ hj => hmin j hj⟩
    rw [h] at this; cases this
  · exact ltV_iff.2 ⟨q, by omega, by omega, c, fun j _ hj => (hmin j hj).symm⟩
def posV (v : Nat → Int) : List Row → Nat
  | [] => 0
  | s :: r => if ltV s v = true then posV v r + 1 else 0
def insV (S : List Row) (v : Nat → Int) : List Row := S.take (posV v S) ++ v :: S.drop (posV v S)
def sortV (L : List Row) : List Row := L.foldl insV []
theorem posV_le (v : Nat → Int) : ∀ S : List Row, posV v S ≤ S.length
  | [] => Nat.le_refl 0
  | s :: r => by
    have := posV_le v r
    unfold posV
    split <;> simp only [List.length_cons] <;> omega
theorem posV_eq {v : Nat → Int} : ∀ {S : List Row} {q : Nat}, q ≤ S.length → (∀ k, k < q → ltV (S.getD k Z) v = true) → (q < S.length → ltV (S.getD q Z) v = false) → posV v S = q
  | [], q, h1, _, _ => by simp only [List.length_nil] at h1; unfold posV; omega
  | s :: r, 0, _, _, h3 => by
    have := h3 (by simp)
    unfold posV
    rw [if_neg (by rw [show ltV s v = false from this]; simp)]
  | s :: r, q + 1, h1, h2, h3 => by
    have h0 : ltV s v = true := h2 0 (by omega)
    simp only [List.length_cons] at h1 h3
    unfold posV
    rw [if_pos h0, posV_eq (q := q) (by omega) (fun k hk => h2 (k + 1) (by omega)) (fun hq => h3 (by omega))]
theorem posV_lt {v : Nat → Int} : ∀ {S : List Row} {k : Nat}, k < posV v S → ltV (S.getD k Z) v = true
  | [], k, h => by simp [posV] at h
  | s :: r, k, h => by
    unfold posV at h
    split at h
    · rename_i e
      cases k with
      | zero => exact e
      | succ k => exact posV_lt (S := r) (by omega)
    · omega
theorem posV_ge {v : Nat → Int} : ∀ {S : List Row}, posV v S < S.length → ltV (S.getD (posV v S) Z) v = false
  | [], h => by simp at h
  | s :: r, h => by
    unfold posV at h ⊢
    split at h
    · rename_i e
      rw [if_pos e]
      simp only [List.length_cons] at h
      exact posV_ge (S := r) (by omega)
    · rename_i e
      rw [if_neg e]
      simpa using e
theorem insV_len (S : List Row) (v : Nat → Int) : (insV S v).length = S.length + 1 := by
  have := posV_le v S
  unfold insV
  rw [List.length_append, List.length_cons, List.length_take, List.length_drop]; omega
theorem insV_mem {S : List Row} {v x : Nat → Int} : x ∈ insV S v ↔ x = v ∨ x ∈ S := by
  unfold insV
  rw [List.mem_append, List.mem_cons]
  conv => rhs; rw [← List.take_append_drop (posV v S) S, List.mem_append]
  constructor
  · rintro (h | h | h)
    · exact .inr (.inl h)
    · exact .inl h
    · exact .inr (.inr h)
  · rintro (h | h | h)
    · exact .inr (.inl h)
    · exact .inl h
    · exact .inr (.inr h)
abbrev AscV (S : List Row) : Prop := S.Pairwise fun v w => ltV v w = true
theorem asc_get {S : List Row} (h : AscV S) {i j : Nat} (hij : i < j) (hj : j < S.length) : ltV (S.getD i Z) (S.getD j Z) = true := by
  have g : ∀ k (hk : k < S.length), S.getD k Z = S[k] := fun k hk => by rw [List.getD_eq_getElem?_getD, List.getElem?_eq_getElem hk]; rfl
  rw [g i (by omega), g j hj]
  exact List.pairwise_iff_getElem.1 h i j (by omega) hj hij
theorem insV_asc {S : List Row} (h : AscV S) {v : Nat → Int} (hv : ∀ s ∈ S, ¬ VEq s v) : AscV (insV S v) := by
  have hle := posV_le v S
  have hd : ∀ x ∈ S.drop (posV v S), ltV v x = true := fun x hx => by
    obtain ⟨k, hk, rfl⟩ := List.getElem_of_mem hx
    rw [List.length_drop] at hk
    have e : (S.drop (posV v S))[k] = S.getD (posV v S + k) Z := by
      rw [List.getElem_drop, List.getD_eq_getElem?_getD, List.getElem?_eq_getElem (by omega)]; rfl
    have e0 : ltV v (S.getD (posV v S) Z) = true := by
      refine ltV_tot (posV_ge (by omega)) (hv _ ?_)
      rw [List.getD_eq_getElem?_getD, List.getElem?_eq_getElem (by omega)]
      exact List.getElem_mem _
    rw [e]
    by_cases c : k = 0
    · rw [c]; exact e0
    · exact ltV_trans e0 (asc_get h (by omega) (by omega))
  have ht : ∀ x ∈ S.take (posV v S), ltV x v = true := fun x hx => by
    obtain ⟨k, hk, rfl⟩ := List.getElem_of_mem hx
    rw [List.length_take] at hk
    have e : (S.take (posV v S))[k] = S.getD k Z := by
      rw [List.getElem_take, List.getD_eq_getElem?_getD, List.getElem?_eq_getElem (by omega)]; rfl
    rw [e]
    exact posV_lt (by omega)
  unfold insV
  refine List.pairwise_append.2 ?_
  rw [List.pairwise_cons]
  refine ⟨h.sublist (List.take_sublist _ _), ⟨hd, h.sublist (List.drop_sublist _ _)⟩, fun x hx y hy => ?_⟩
  rcases List.mem_cons.1 hy with e | e
  · rw [e]; exact ht x hx
  · exact ltV_trans (ht x hx) (hd y e)
abbrev DistV (L : List Row) : Prop := L.Pairwise fun v w => ¬ VEq v w
theorem sortV_snoc (L : List Row) (v : Nat → Int) : sortV (L ++ [v]) = insV (sortV L) v := by unfold sortV; rw [List.foldl_append]; rfl
theorem sortV_facts : ∀ (n : Nat) (L : List Row), L.length = n → DistV L → AscV (sortV L) ∧ (sortV L).length = L.length ∧ ∀ x, x ∈ sortV L ↔ x ∈ L
  | 0, L, hn, _ => by
    have : L = [] := List.length_eq_zero_iff.1 hn
    subst this
    exact ⟨List.Pairwise.nil, rfl, fun x => Iff.rfl⟩
  | n + 1, L, hn, hd => by
    have hne : L ≠ [] := fun e => by rw [e] at hn; cases hn
    obtain ⟨M, v, rfl⟩ : ∃ M v, L = M ++ [v] := ⟨L.dropLast, L.getLast hne, (List.dropLast_concat_getLast hne).symm⟩
    rw [List.length_append] at hn
    have hd' := List.pairwise_append.1 hd
    obtain ⟨h1, h2, h3⟩ := sortV_facts n M (by simp only [List.length_cons, List.length_nil] at hn; omega) hd'.1
    rw [sortV_snoc]
    refine ⟨insV_asc h1 fun s hs => hd'.2.2 s ((h3 s).1 hs) v (List.mem_singleton.2 rfl), by rw [insV_len, h2, List.length_append]; rfl, fun x => ?_⟩
    rw [insV_mem, h3, List.mem_append, List.mem_singleton, Or.comm]
theorem sortV_len (L : List Row) : (sortV L).length = L.length := by
  have key : ∀ (L S : List Row), (L.foldl insV S).length = S.length + L.length := by
    intro L
    induction L with
    | nil => intro S; rfl
    | cons v r ih => intro S; rw [List.foldl_cons, ih, insV_len, List.length_cons]; omega
  have := key L []
  unfold sortV; rw [this]; simp
theorem sortV_take {L : List Row} {i : Nat} (h : i < L.length) : sortV (L.take (i + 1)) = insV (sortV (L.take i)) (L.getD i Z) := by
  have e1 : L.take (i + 1) = L.take i ++ [L.getD i Z] := by rw [List.take_add_one]; simp [h]
  rw [e1, sortV_snoc]
section
variable {a : Alg}
theorem orth_dist (h : CA a) {E : List Row} (hE : Orth a E) : DistV E := by
  refine List.Pairwise.imp_of_mem (fun {e f} he hf hef hv => ?_) hE.pair
  have e1 : e = f := funext fun i => by
    by_cases c : i < 6
    · exact hv i c
    · have hn := h.ok.n
      rw [(hE.inn e he).2 i (by omega), (hE.inn f hf).2 i (by omega)]
  rw [← e1, hE.idem e he] at hef
  obtain ⟨i, hi⟩ := hE.nz e he
  exact hi (by rw [hef]; rfl)
end
def cmpV (v w : Nat → Int) : Int := if VEq v w then 0 else if ltV v w = true then -1 else 1
end Go.X
namespace Go.X
open Go Go.RowKit
theorem ker_same2 {p : Int} {n : Nat} {L M : List Row} (hp : p ∈ primes) (hL : RwL p L) (hM : RwL p M) (hk : ∀ z, Ker p n L z ↔ Ker p n M z) : rowsL n (iKerF p n L) = rowsL n (sKerF p n M) := by
  obtain ⟨hl, hc⟩ := rowsL_inj (red_ech (m := n) hp hL hM hk)
  have hd : ∀ i, i < (redF p n L).length → ldK n (redF p n L) i = ldK n (echF p n M) i := fun i hi => by
    unfold ldK ldN leadF
    refine congrArg Int.toNat ?_
    have : ∀ f g : Row, (∀ c, c < n → f c = g c) → idxF (fun i => f i != 0) n = idxF (fun i => g i != 0) n := fun f g h => by
      rcases idxF_cases (fun i => g i != 0) n with ⟨e, h2⟩ | ⟨q, hq, e, h2, h3⟩
      · rw [e]; exact idxF_none fun j hj => by have := h2 j hj; rw [← h j hj] at this; exact this
      · rw [e]; exact idxF_some hq (by have := h2; rw [← h q hq] at this; exact this) fun j hj => by have := h3 j hj; rw [← h j (by omega)] at this; exact this
    exact this _ _ (hc i hi)
  unfold iKerF sKerF
  rw [free_ext (p := p) hl hc hd n (Nat.le_refl n)]
  exact red_ech hp (free_rw (prime_bd hp).1 n) (free_rw (prime_bd hp).1 n) fun _ => Iff.rfl
section
variable {a : Alg}
def redZ (a : Alg) (z : Row) : Nat → Int := vecR a.n.toNat fun j => z j % a.p
theorem redZ_in (h : CA a) (z : Row) : InA a (redZ a z) := ⟨fun i => by
  have := h.p1
  unfold redZ vecR; split
  · exact mod_bd _ this
  · omega, fun i hi => by unfold redZ vecR; rw [if_neg (by omega)]⟩
theorem ker_iff (h : CA a) {F : (Nat → Int) → Nat → Int} (hF : AddM a F) (hi : ∀ x, InA a x → InA a (F x)) (z : Row) : Ker a.p a.n.toNat (mapL a.n.toNat F) z ↔ F (redZ a z) = Z := by
  have hin := redZ_in h z
  have key : ∀ q, q < a.n.toNat → F (redZ a z) q % a.p = dot a.n.toNat (fun j => F (basV j) q) z % a.p := fun q hq => by
    rw [hF.lin h hin q]
    refine sumN_mod fun j hj => ?_
    show (vecR a.n.toNat (fun j => z j % a.p) j * _) % a.p = _
    unfold vecR
    rw [if_pos hj, Int.mul_comm (F (basV j) q)]
    exact cg_mul (cg_mod a.p _) rfl
  refine ⟨fun hk => ?_, fun he r hr => ?_⟩
  · refine eq_mod (hi _ hin).1 (Z_rw h.p1) fun q => ?_
    rw [show Z q % a.p = 0 from by simp [Z]]
    by_cases hq : q < a.n.toNat
    · rw [key q hq]
      exact hk _ (List.mem_map.2 ⟨q, List.mem_range.2 hq, rfl⟩)
    · rw [(hi _ hin).2 q (by omega)]; simp
  · obtain ⟨q, hq, rfl⟩ := List.mem_map.1 hr
    have := key q (List.mem_range.1 hq)
    rw [he] at this
    rw [← this]; simp [Z]
theorem pw_ge (h : CA a) {x : Nat → Int} {k : Nat} (hk : pw a x k = Z) {i : Nat} (hi : k ≤ i) : pw a x i = Z := by
  obtain ⟨j, rfl⟩ := Nat.exists_eq_add_of_le hi
  rw [pw_add h, hk, Z_mul h]
theorem dep (h : CA a) {E : List (Nat → Int)} (hE : ∀ e ∈ E, InA a e) (hgt : a.n.toNat < E.length) : ∃ z : Row, Rw a.p z ∧ (∃ c, c < E.length ∧ z c ≠ 0) ∧ sumE a.p E z E.length = Z := by
  have hp2 := h.p2
  let L : List Row := arr a.n.toNat fun k j => E.getD j Z k
  have hL : RwL a.p L := fun r hr => by
    simp only [L, arr, List.mem_map] at hr
    obtain ⟨k, _, rfl⟩ := hr
    intro j
    by_cases hj : j < E.length
    · exact (hE _ (getD_memE hj)).1 k
    · have e : E.getD j Z = Z := by rw [List.getD_eq_getElem?_getD, List.getElem?_eq_none (by omega)]; rfl
      show 0 ≤ E.getD j Z k ∧ E.getD j Z k < a.p
      rw [e]
      show 0 ≤ (0 : Int) ∧ (0 : Int) < a.p; omega
  obtain ⟨ld, rr⟩ := redF_rr (m := E.length) h.ok.p hL
  have hlen : (redF a.p E.length L).length ≤ a.n.toNat := by
    have := (redN_inv (p := a.p) (rows := L) (by omega) hL E.length).2.2
    have e : L.length = a.n.toNat := arr_len ..
    unfold redF; omega
  obtain ⟨c, hc, hne⟩ := no_lead rr (by omega)
  have hk := (redF_ker h.ok.p hL).1 (kv_ker rr hc hne)
  refine ⟨kv a.p (redF a.p E.length L) ld c, kv_rw hp2, ⟨c, hc, by rw [kv_c]; decide⟩, funext fun i => ?_⟩
  show sumN E.length (fun j => kv a.p (redF a.p E.length L) ld c j * E.getD j Z i) % a.p = 0
  by_cases hi : i < a.n.toNat
  · have := hk (fun j => E.getD j Z i) (by
      simp only [L, arr, List.mem_map]
      exact ⟨i, by simpa using hi, rfl⟩)
    unfold dot at this
    rw [← this]
    congr 1
    exact sumN_ext fun j _ => Int.mul_comm ..
  · rw [sumN_zero fun j hj => by rw [(hE _ (getD_memE hj)).2 i (by omega), Int.mul_zero]]; simp
theorem pws_get (x : Nat → Int) {m j : Nat} (hj : j < m) : (arr m (pw a x)).getD j Z = pw a x j := by
  rw [List.getD_eq_getElem?_getD, arr_get hj]; rfl
theorem mul_sumP (h : CA a) {x : Nat → Int} {z : Row} {j t M : Nat} (hz : ∀ i, i < j → z i = 0) (hk : pw a x (t + j + 1) = Z) : ∀ m, m ≤ M → timesV a (pw a x t) (sumE a.p (arr M (pw a x)) z m) = if j < m then vsc a.p (z j) (pw a x (t + j)) else Z
  | 0, _ => by
    have e : sumE a.p (arr M (pw a x)) z 0 = Z := funext fun i => by show (0 : Int) % a.p = 0; simp
    rw [e, mul_Z h, if_neg (by omega)]
  | m + 1, hm => by
    rw [sumE_succ, mul_add' h, mul_sc' h, mul_sumP h hz hk m (by omega), pws_get x (by omega), ← pw_add h]
    rcases Nat.lt_trichotomy j m with c | c | c
    · rw [if_pos c, if_pos (by omega), pw_ge h hk (i := t + m) (by omega), vsc_Z, vadd_Z (vsc_rw h.p1)]
    · subst c
      rw [if_neg (by omega), if_pos (by omega), Z_vadd (vsc_rw h.p1)]
    · rw [if_neg (by omega), if_neg (by omega), hz m c, vsc_0, vadd_Z (Z_rw h.p1)]
theorem nil_n (h : CA a) {x : Nat → Int} {k0 : Nat} (h0 : pw a x k0 = Z) : pw a x a.n.toNat = Z := by
  obtain ⟨k, hk, hmin⟩ := least (p := fun k => pw a x k = Z) ⟨k0, h0⟩
  by_cases c : k ≤ a.n.toNat
  · exact pw_ge h hk c
  · exfalso
    have hlen : (arr (a.n.toNat + 1) (pw a x)).length = a.n.toNat + 1 := arr_len ..
    obtain ⟨z, hz, ⟨i, hi, hne⟩, hs⟩ := dep h (E := arr (a.n.toNat + 1) (pw a x)) (fun e he => by
      obtain ⟨i, _, rfl⟩ := List.mem_map.1 he
      exact in_pw h x i) (by omega)
    rw [hlen] at hs hi
    obtain ⟨j, hj, hjm⟩ := least (p := fun j => z j ≠ 0) ⟨i, hne⟩
    have hji := hjm i hne
    have hzj := hz j
    obtain ⟨t, ht⟩ := Nat.exists_eq_add_of_le (show j + 1 ≤ k by omega)
    have h1 := mul_sumP h (x := x) (z := z) (j := j) (t := t) (M := a.n.toNat + 1) (fun i hi => Classical.byContradiction fun g => by have := hjm i g; omega) (by rw [show t + j + 1 = k by omega]; exact hk) _ (Nat.le_refl _)
    rw [hs, mul_Z h, if_pos (by omega)] at h1
    have h2 := num_zero h.ok.p (in_pw h x (t + j)).1 (by rw [Int.emod_eq_of_lt hzj.1 hzj.2]; exact hj) h1.symm
    have := hmin _ h2
    omega
theorem nil_iff (h : CA a) {x : Nat → Int} {k l : Nat} (hk : a.n.toNat ≤ k) (hl : a.n.toNat ≤ l) : pw a x k = Z ↔ pw a x l = Z :=
  ⟨fun g => pw_ge h (nil_n h g) hl, fun g => pw_ge h (nil_n h g) hk⟩
def nilF (a : Alg) (s : Nat) (x : Nat → Int) : Nat → Int := pw a x (a.p.toNat ^ s)
theorem nil_rw (h : CA a) (s : Nat) : RwL a.p (mapL a.n.toNat (nilF a s)) := fun r hr => by
  obtain ⟨i, _, rfl⟩ := List.mem_map.1 hr
  exact fun j => (in_pw h _ _).1 i
theorem nil_same (h : CA a) {s t : Nat} (hs : a.n.toNat ≤ a.p.toNat ^ s) (ht : a.n.toNat ≤ a.p.toNat ^ t) : (iKerF a.p a.n.toNat (mapL a.n.toNat (nilF a s))).map (vecR a.n.toNat) = spaceL a.p a.n.toNat (nilF a t) := by
  refine vecs_same (ker_same2 h.ok.p (nil_rw h s) (nil_rw h t) fun z => ?_)
  rw [ker_iff h (F := nilF a s) (frobs_addM h s) (fun x _ => in_pw h x _), ker_iff h (F := nilF a t) (frobs_addM h t) (fun x _ => in_pw h x _)]
  exact nil_iff h hs ht
end
end Go.X
