import Derived.Test.YtehopmcogekcoaaKMq
import Derived.Test.YtehopmcogekcoaaKNc
set_option linter.all false
namespace Go.X
open Go Go.RowKit
theorem col_ok {a : Alg} (ha : AlgOk a) (hf : sFrobP a) {j : Nat} (hj : j < a.n.toNat) : ∀ i, i < a.n.toNat → (dot a.n.toNat (tabR a i) (fun q => copB a q j) + neg1 j i) % a.p = 0 := by
  have hn := ha.n
  obtain ⟨hl, _⟩ := cop_rr ha hf
  exact ker_aug.1 <| (redF_ker ha.p (augL_rw ha)).1 fun r hr => by
    obtain ⟨k, hk, rfl⟩ := mem_getD hr
    rw [cop_dot ha hf (by omega), dot_neg1 hj, Int.add_right_neg]; simp
theorem dot_bas {n m : Nat} {r : Row} (hm : m < n) : dot n r (basV m) = r m := by
  unfold dot
  rw [sumN_one' (i := m) hm fun k _ hne => by unfold basV; rw [if_neg hne, Int.mul_zero]]
  unfold basV; rw [if_pos rfl]; omega
theorem dot_neg {n : Nat} {r v : Row} : dot n r (fun i => -(v i)) = -(dot n r v) := by
  unfold dot
  induction n with
  | zero => rfl
  | succ n ih => simp only [sumN]; rw [ih, Int.mul_neg]; omega
theorem cop_left {a : Alg} (ha : AlgOk a) (hf : sFrobP a) {k m : Nat} (hk : k < a.n.toNat) (hm : m < a.n.toNat) : (basV m k - dot a.n.toNat (copB a k) (fun i => tabR a i m)) % a.p = 0 := by
  obtain ⟨hl, _⟩ := cop_rr ha hf
  have h1 : Ker a.p (a.n.toNat + a.n.toNat) (augL a) (two a.n.toNat (basV m) (fun i => -(tabR a i m))) := ker_aug.2 fun i hi => by
    rw [dot_bas hm, Int.add_right_neg]; simp
  have h2 := (redF_ker ha.p (augL_rw ha)).2 h1 _ (show (redF a.p (a.n.toNat + a.n.toNat) (augL a)).getD k Z ∈ _ by
    rw [List.getD_eq_getElem?_getD, List.getElem?_eq_getElem (by omega)]; exact List.getElem_mem _)
  rw [cop_dot ha hf hk, dot_neg] at h2
  rw [← h2]; congr 1
theorem tab_sym {a : Alg} (hc : sCommP a) {i j : Nat} (hi : i < 6) (hj : j < 6) : tabR a i j = tabR a j i := by
  have key : ∀ i j : Nat, i < 6 → j < i → tabR a i j = tabR a j i := fun i j hi hj => by
    unfold tabR formV fsum
    congr 1
    exact sumN_ext fun k hk => by rw [hc i hi j hj k hk]
  rcases Nat.lt_trichotomy i j with h | h | h
  · exact (key j i hj h).symm
  · rw [h]
  · exact key i j hi h
theorem dot_comm {n : Nat} {r v : Row} : dot n r v = dot n v r := sumN_ext fun i _ => Int.mul_comm ..
theorem cop_sym {a : Alg} (ha : AlgOk a) (hf : sFrobP a) (hc : sCommP a) {k i : Nat} (hk : k < a.n.toNat) (hi : i < a.n.toNat) : copB a k i = copB a i k := by
  have hp2 := prime_bd ha.p
  have hn := ha.n
  have hkz := kerZ_ech (m := a.n.toNat) ha.p (tabL_rw ha a.n.toNat) (by unfold sFrobP at hf; omega)
  have h1 := col_ok ha hf hk
  have h2 : ∀ q, q < a.n.toNat → (dot a.n.toNat (tabR a q) (copB a k) + neg1 k q) % a.p = 0 := fun q hq => by
    have h3 := cop_left ha hf hk hq
    have e : dot a.n.toNat (tabR a q) (copB a k) = dot a.n.toNat (copB a k) (fun i => tabR a i q) := by
      rw [dot_comm]
      exact sumN_ext fun j hj => by rw [tab_sym hc (i := q) (j := j) (by omega) (by omega)]
    have e2 : neg1 k q = -(basV q k) := by
      unfold neg1 basV
      by_cases c : q = k
      · rw [if_pos c, if_pos c.symm]
      · rw [if_neg c, if_neg (fun h => c h.symm)]; rfl
    rw [e, e2]
    have h4 : (-(basV q k - dot a.n.toNat (copB a k) (fun i => tabR a i q))) % a.p = 0 := by
      have := Int.dvd_of_emod_eq_zero h3
      exact Int.emod_eq_zero_of_dvd (Int.dvd_neg.2 this)
    rw [← h4]; congr 1; omega
  have hz : Ker a.p a.n.toNat (tabL a a.n.toNat) (fun i => (copB a k i - copB a i k) % a.p) := ker_tab.2 fun q hq => by
    have e : dot a.n.toNat (tabR a q) (fun i => (copB a k i - copB a i k) % a.p) % a.p = dot a.n.toNat (tabR a q) (fun i => copB a k i - copB a i k) % a.p := dot_mod fun i _ => cg_mod _ _
    rw [e, dot_sub]
    have e0 : (0 : Int) % a.p = 0 := by simp
    have h2' : (dot a.n.toNat (tabR a q) (copB a k) + neg1 k q) % a.p = 0 % a.p := by rw [h2 q hq, e0]
    have h1' : (dot a.n.toNat (tabR a q) (fun q => copB a q k) + neg1 k q) % a.p = 0 % a.p := by rw [h1 q hq, e0]
    have := cg_sub h2' h1'
    rw [show dot a.n.toNat (tabR a q) (copB a k) - dot a.n.toNat (tabR a q) (fun i => copB a i k) = dot a.n.toNat (tabR a q) (copB a k) + neg1 k q - (dot a.n.toNat (tabR a q) (fun i => copB a i k) + neg1 k q) by omega, this]
    simp
  have h4 := hkz _ (fun i => mod_bd _ (by omega)) hz i hi
  have h5 := (Int.emod_eq_emod_iff_emod_sub_eq_zero (m := copB a k i) (n := a.p) (k := copB a i k)).2 h4
  have r1 := rw_mod (copB_rw ha k) i
  have r2 := rw_mod (copB_rw ha i) k
  rw [r1, r2] at h5
  exact h5
theorem sCop_eq {a : Alg} (ha : AlgOk a) (hf : sFrobP a) {k l : Nat} (hk : k < a.n.toNat) (hl : l < a.n.toNat) : sCop a k l = copB a k l := by
  obtain ⟨s, hs, he⟩ := col_eq ha hf hl
  unfold sCop
  rw [hs]
  exact he k hk
theorem uzI_at {p : Int} {B : Nat → Row} {c : Row} {acc : Nat → Int} {k j : Nat} : ∀ i, uzI p B c acc k i j % p = (acc j + if j = k then sumN i (fun q => B k q * c q) else 0) % p
  | 0 => by simp [uzI, sumN]
  | i + 1 => by
    have ih := uzI_at (p := p) (B := B) (c := c) (acc := acc) (k := k) (j := j) i
    unfold uzI
    split
    · rename_i h
      rw [ih]
      by_cases g : j = k
      · simp only [g, if_true, sumN, h, Int.zero_mul, Int.add_zero]
      · simp only [g, if_false]
    · unfold addV
      rw [cg_mod]
      by_cases g : j = k
      · subst g
        simp only [if_true] at ih ⊢
        have e : basV j j = 1 := by simp [basV]
        rw [e, Int.mul_one]
        have h1 : (uzI p B c acc j i j + B j i * c i % p) % p = (acc j + sumN i (fun q => B j q * c q) + B j i * c i) % p := cg_add ih (cg_mod _ _)
        rw [h1]; simp only [sumN]; congr 1; omega
      · simp only [g, if_false] at ih ⊢
        have e : basV k j = 0 := by simp [basV, g]
        rw [e, Int.mul_zero, Int.add_zero]; exact ih
theorem uzR_at {p : Int} {B : Nat → Row} {c : Row} {n j : Nat} : ∀ m, uzR p B c n m j % p = (if j < m then sumN n (fun q => B j q * c q) else 0) % p
  | 0 => by simp [uzR, Z]
  | m + 1 => by
    have ih := uzR_at (p := p) (B := B) (c := c) (n := n) (j := j) m
    unfold uzR
    rw [uzI_at, cg_add ih rfl]
    by_cases g : j = m
    · subst g; simp
    · by_cases h : j < m
      · simp [g, h, Nat.lt_succ_of_lt h]
      · simp [g, h, show ¬ j < m + 1 by omega]
theorem uzS_at {p : Int} {T : Nat → Row} {c : Row} {acc : Nat → Int} {k j : Nat} : ∀ l, uzS p T c acc k l j % p = (acc j + if j < l then c k * T k j else 0) % p
  | 0 => by simp [uzS]
  | l + 1 => by
    have ih := uzS_at (p := p) (T := T) (c := c) (acc := acc) (k := k) (j := j) l
    unfold uzS addV
    rw [cg_mod, cg_add ih rfl]
    by_cases g : j = l
    · subst g
      have e : basV j j = 1 := by simp [basV]
      simp [e]
    · have e : basV l j = 0 := by simp [basV, g]
      rw [e, Int.mul_zero, Int.add_zero]
      by_cases h : j < l
      · simp [h, Nat.lt_succ_of_lt h]
      · simp [h, show ¬ j < l + 1 by omega]
theorem uzT_at {p : Int} {T : Nat → Row} {c : Row} {n j : Nat} : ∀ m, uzT p T c n m j % p = (if j < n then sumN m (fun k => c k * T k j) else 0) % p
  | 0 => by simp [uzT, Z, sumN]
  | m + 1 => by
    have ih := uzT_at (p := p) (T := T) (c := c) (n := n) (j := j) m
    unfold uzT
    rw [uzS_at, cg_add ih rfl]
    by_cases g : j < n
    · simp [g, sumN]
    · simp [g]
theorem unzip_same {x : Pr} (ha : AlgOk x.c) (hf : sFrobP x.c) (hc : sCommP x.c) (w : Nat → Int) : iUnzip x w = sUnzip x w := by
  have hp2 := prime_bd ha.p
  funext j
  have r1 : Rw x.c.p (iUnzip x w) := uzR_rw (by omega) _
  have r2 : Rw x.c.p (sUnzip x w) := uzT_rw (by omega) _
  rw [← rw_mod r1 j, ← rw_mod r2 j]
  unfold iUnzip sUnzip
  rw [uzR_at, uzT_at, iCop_len2 ha hf]
  congr 1
  by_cases h : j < x.c.n.toNat
  · rw [if_pos h, if_pos h]
    refine sumN_ext fun q hq => ?_
    rw [cop_same ha hf h hq, sCop_eq ha hf h hq, sCop_eq ha hf hq h, cop_sym ha hf hc h hq, Int.mul_comm]
  · rw [if_neg h, if_neg h]
end Go.X
