import Derived.Test.YtehopmcogekcoaaK5
import Derived.Test.YtehopmcogekcoaaK3
import Derived.Test.YtehopmcogekcoaaK4
import Derived.Test.YtehopmcogekcoaaX5
set_option linter.all false
namespace Go.X
open Go Go.RowKit
abbrev vsD (m : Nat) (s : Nat → Nat → Int) : D := .lst 6 (arr m fun i => vecL (s i))
def progV (i : Nat) (s : Nat → Nat → Int) : Nat → Nat → Int := fun j => if j < i then s j else Z
theorem get_vecs {m i : Nat} {f : Nat → Nat → Int} (h : i < m) : (arr m fun i => vecL (f i))[((i : Nat) : Int).toNat]? = some (vecL (f i)) := by
  rw [Int.toNat_natCast]; exact arr_get h
theorem rep_vecs {m n : Nat} {s : Nat → Nat → Int} (h : n = m) : Chunk.data 6 (List.replicate ((n : Nat) : Int).toNat [.int .u8 0, .int .u8 0, .int .u8 0, .int .u8 0, .int .u8 0, .int .u8 0]) = Chunk.data 6 (arr m fun i => vecL (progV 0 s i)) := by
  subst h
  rw [Int.toNat_natCast, arr_replicate]
  refine congrArg (Chunk.data 6) (arr_ext fun i _ => ?_)
  unfold progV; rw [if_neg (by omega)]; rfl
theorem st_vecs {m i : Nat} {s : Nat → Nat → Int} (h : i < m) : Chunk.data 6 ((arr m fun j => vecL (progV i s j)).set ((i : Nat) : Int).toNat (splice (vecL (progV i s i)) 0 (vecL (s i)))) = Chunk.data 6 (arr m fun j => vecL (progV (i + 1) s j)) := by
  rw [Int.toNat_natCast, splice_whole (by rw [cel_len, cel_len]), arr_set]
  refine congrArg (Chunk.data 6) (arr_ext fun j _ => ?_)
  unfold upd progV
  by_cases e : j = i
  · subst e; rw [if_pos rfl, if_pos (by omega)]
  · rw [if_neg e]
    dsimp only
    by_cases c : j < i
    · rw [if_pos c, if_pos (by omega)]
    · rw [if_neg c, if_neg (by omega)]
theorem all_vecs {m : Nat} {s : Nat → Nat → Int} : (arr m fun i => vecL (progV m s i)) = arr m fun i => vecL (s i) := arr_ext fun i hi => by unfold progV; rw [if_pos hi]
def AllSm (a : Alg) (m : Nat) (s : Nat → Nat → Int) : Prop := ∀ i, i < m → Small (s i) a.n a.p
def C_szVS (P : Program) (N : FN) : Prop := ∀ {m : Nat} {s : Nat → Nat → Int} {k : Int}, m ≤ 9223372036854775807 → 0 ≤ k ∧ k ≤ 1048576 → Can P N.laws_szVectorS [vsD m s, .int .i64 k] (.val (.int .i64 (if k < m then -1 else k - m)))
def C_toVS (P : Program) (N : FN) : Prop := ∀ {m : Nat} {s : Nat → Nat → Int}, m ≤ 1048576 → Can P N.laws_toVectorS [vsD m s] (.val (vsD m s))
def C_eqVS (P : Program) (N : FN) : Prop := ∀ {m q : Nat} {s t : Nat → Nat → Int}, m ≤ 1048576 → q ≤ 1048576 → Can P N.laws_eqVectorS [vsD m s, vsD q t] (.val (.bool (dB (m = q ∧ ∀ i, i < m → VEq (s i) (t i)))))
def C_valid1 (P : Program) (N : FN) : Prop := ∀ {sz : Nat} {l : List (List D)} {e off : Nat} {a : Alg} {v : Nat → Int}, AlgAt l e off a → Byts v → Can P N.impl_valid_1 [vecD v, .pd sz l e off] (.val (.bool (!decide (Small v a.n a.p))))
def C_validL (P : Program) (N : FN) : Prop := ∀ {a : Alg} {q : Nat} {s : Nat → Nat → Int}, AlgIn a → q ≤ 1000 → (∀ i, Byts (s i)) → Can P N.impl_valid [algD a, vsD q s] (.val (.int .i64 (if dB (IsAlgP a ∧ AllSm a q s) = true then 0 else 1)))
def C_sCodeL (P : Program) (N : FN) : Prop := ∀ {a : Alg} {q : Nat} {s : Nat → Nat → Int}, SAlgIn a → q ≤ 1000 → (∀ i, Byts (s i)) → Can P N.spec_l01Code [algD a, vsD q s] (.val (.int .i64 (if dB (sAlgP a ∧ AllSm a q s) = true then 0 else 1)))
def C_listOk1 (P : Program) (N : FN) : Prop := ∀ {sz : Nat} {l : List (List D)} {e off : Nat} {a : Alg} {v : Nat → Int}, AlgAt l e off a → Byts v → Can P N.impl_Algebra_listOk_1 [vecD v, .pd 1 [[.pd sz l e off]] 0 0] (.val (.bool (!decide (Small v a.n a.p))))
def C_listOk (P : Program) (N : FN) : Prop := ∀ {sz : Nat} {l : List (List D)} {e off : Nat} {a : Alg} {m : Nat} {s : Nat → Nat → Int}, AlgAt l e off a → AlgOk a → m ≤ 1048576 → (∀ i, Byts (s i)) → Can P N.impl_Algebra_listOk [.pd sz l e off, vsD m s] (.val (.bool (dB (m = a.n.toNat ∧ AllSm a m s))))
def lcode (x y : Bool) : Int := if x = true then if y = true then 0 else 2 else 1
def scode (x y z : Bool) : Int := if x = true then if y = true then if z = true then 0 else 5 else 2 else 1
def C_listed (P : Program) (N : FN) : Prop := ∀ {a : Alg} {m q : Nat} {s t : Nat → Nat → Int}, AlgIn a → m ≤ 1048576 → q ≤ 1000 → (∀ i, Byts (s i)) → (∀ i, Byts (t i)) →
  Can P N.impl_listed [algD a, vsD m s, vsD q t] (.val (.int .i64 (lcode (dB (IsAlgP a ∧ AllSm a q t)) (dB (m = a.n.toNat ∧ AllSm a m s)))))
def C_sList (P : Program) (N : FN) : Prop := ∀ {a : Alg} {m q : Nat} {s t : Nat → Nat → Int}, SAlgIn a → m ≤ 1048576 → q ≤ 1000 → (∀ i, Byts (s i)) → (∀ i, Byts (t i)) →
  Can P N.spec_l08List [algD a, vsD m s, vsD q t] (.val (.int .i64 (lcode (dB (sAlgP a ∧ AllSm a q t)) (dB (m = a.n.toNat ∧ AllSm a m s)))))
def C_starredN (P : Program) (N : FN) : Prop := ∀ {sz : Nat} {l : List (List D)} {e off : Nat} {a : Alg} {m : Nat} {z : Nat → Nat → Int} {v : Nat → Int}, AlgAt l e off a → 1 ≤ a.p ∧ a.p ≤ 255 → m ≤ 6 → (∀ i, Byts (z i)) → Byts v → Can P N.impl_Algebra_starred [.pd sz l e off, vsD m z, vecD v] (.val (vecD (zipN a.p z v m)))
def C_sApply (P : Program) (N : FN) : Prop := ∀ {a : Alg} {z : Nat → Nat → Int} {v : Nat → Int}, AlgOk a → (∀ i, Byts (z i)) → Byts v → Can P N.spec_l08Apply [algD a, vsD a.n.toNat z, vecD v] (.val (vecD (zipN a.p z v a.n.toNat)))
def iStar1 (a : Alg) (s : Nat → Nat → Int) (i : Nat) : Prop := VEq (zipN a.p s (s i) a.n.toNat) (basV i) ∧ formV a (s i) = a.f i
def iStar2 (a : Alg) (s : Nat → Nat → Int) (i j : Nat) : Prop := VEq (zipN a.p s (a.T i j) a.n.toNat) (timesV a (s j) (s i))
def iStarP (a : Alg) (s : Nat → Nat → Int) : Prop := ∀ i, i < a.n.toNat → iStar1 a s i ∧ ∀ j, j < a.n.toNat → iStar2 a s i j
def sStar1 (a : Alg) (s : Nat → Nat → Int) (i : Nat) : Prop := VEq (zipN a.p s (s i) a.n.toNat) (basV i) ∧ formV a (s i) = formV a (basV i)
def sStar2 (a : Alg) (s : Nat → Nat → Int) (i j : Nat) : Prop := VEq (zipN a.p s (timesV a (basV i) (basV j)) a.n.toNat) (timesV a (s j) (s i))
def sStarP (a : Alg) (s : Nat → Nat → Int) : Prop := ∀ i, i < a.n.toNat → sStar1 a s i ∧ ∀ j, j < a.n.toNat → sStar2 a s i j
def C_isStar (P : Program) (N : FN) : Prop := ∀ {sz : Nat} {l : List (List D)} {e off : Nat} {a : Alg} {s : Nat → Nat → Int}, AlgAt l e off a → AlgOk a → (∀ i, Byts (s i)) → Can P N.impl_Algebra_isStar [.pd sz l e off, vsD a.n.toNat s] (.val (.bool (dB (iStarP a s))))
def C_sStar (P : Program) (N : FN) : Prop := ∀ {a : Alg} {s : Nat → Nat → Int}, AlgOk a → (∀ i, Byts (s i)) → Can P N.spec_l08Star [algD a, vsD a.n.toNat s] (.val (.bool (dB (sStarP a s))))
def C_stars (P : Program) (N : FN) : Prop := ∀ {a : Alg} {m q : Nat} {s t : Nat → Nat → Int}, AlgIn a → m ≤ 1048576 → q ≤ 1000 → (∀ i, Byts (s i)) → (∀ i, Byts (t i)) →
  Can P N.impl_stars [algD a, vsD m s, vsD q t] (.val (.int .i64 (scode (dB (IsAlgP a ∧ AllSm a q t)) (dB (m = a.n.toNat ∧ AllSm a m s)) (dB (CommP a ∧ FrobP a ∧ iStarP a s)))))
def C_sStars (P : Program) (N : FN) : Prop := ∀ {a : Alg} {m q : Nat} {s t : Nat → Nat → Int}, SAlgIn a → m ≤ 1048576 → q ≤ 1000 → (∀ i, Byts (s i)) → (∀ i, Byts (t i)) →
  Can P N.spec_l08Code [algD a, vsD m s, vsD q t] (.val (.int .i64 (scode (dB (sAlgP a ∧ AllSm a q t)) (dB (m = a.n.toNat ∧ AllSm a m s)) (dB (sCommP a ∧ sFrobP a ∧ sStarP a s)))))
def kleinO (a : Alg) (s : Nat → Nat → Int) (k l : Nat) : Nat → Int := timesV a (s k) (basV l)
def iKlein (a : Alg) (s : Nat → Nat → Int) : Nat → Int := pairR a.p (fun k => (iCop a).getD k Z) (kleinO a s) a.n.toNat (iCop a).length
def sKlein (a : Alg) (s : Nat → Nat → Int) : Nat → Int := pairR a.p (sCop a) (kleinO a s) a.n.toNat a.n.toNat
def C_klein1 (P : Program) (N : FN) : Prop := ∀ {sz : Nat} {l : List (List D)} {e off : Nat} {a : Alg} {m : Nat} {s : Nat → Nat → Int} {k j : Nat}, AlgAt l e off a → AlgOk a → (∀ i, Byts (s i)) → k < m → j < 6 → Can P N.impl_Algebra_klein_1 [.int .i64 k, .int .i64 j, .pd 1 [[.pd sz l e off]] 0 0, .pd 1 [[vsD m s]] 0 0] (.val (vecD (kleinO a s k j)))
def C_klein (P : Program) (N : FN) : Prop := ∀ {sz : Nat} {l : List (List D)} {e off : Nat} {a : Alg} {s : Nat → Nat → Int}, AlgAt l e off a → AlgOk a → (∀ i, Byts (s i)) → Can P N.impl_Algebra_klein [.pd sz l e off, vsD a.n.toNat s] (.val (vecD (iKlein a s)))
def C_sKlein (P : Program) (N : FN) : Prop := ∀ {a : Alg} {s : Nat → Nat → Int}, AlgOk a → (∀ j, j < a.n.toNat → (sCol a j).isSome = true) → (∀ i, Byts (s i)) → Can P N.spec_l08Klein [algD a, vsD a.n.toNat s] (.val (vecD (sKlein a s)))
def crossP (a : Alg) (s : Nat → Nat → Int) (kl t : Nat → Int) : Prop := VEq (timesV a t t) kl ∧ ∀ i, i < a.n.toNat → VEq (zipN a.p s (timesV a t (basV i)) a.n.toNat) (timesV a t (basV i))
def C_crossCap (P : Program) (N : FN) : Prop := ∀ {sz : Nat} {l : List (List D)} {e off : Nat} {a : Alg} {s : Nat → Nat → Int} {kl t : Nat → Int}, AlgAt l e off a → AlgOk a → (∀ i, Byts (s i)) → Byts t → Can P N.impl_Algebra_crossCap [.pd sz l e off, vsD a.n.toNat s, vecD kl, vecD t] (.val (.bool (dB (crossP a s kl t))))
def C_sCrossCap (P : Program) (N : FN) : Prop := ∀ {a : Alg} {s : Nat → Nat → Int} {kl t : Nat → Int}, AlgOk a → (∀ i, Byts (s i)) → Byts t → Can P N.spec_l08CrossCap [algD a, vsD a.n.toNat s, vecD t, vecD kl] (.val (.bool (dB (crossP a s kl t))))
def iStA (a : Alg) (m : Nat) (s : Nat → Nat → Int) (q : Nat) (t : Nat → Nat → Int) : Prop := (IsAlgP a ∧ AllSm a q t) ∧ (m = a.n.toNat ∧ AllSm a m s) ∧ (CommP a ∧ FrobP a ∧ iStarP a s)
def sStA (a : Alg) (m : Nat) (s : Nat → Nat → Int) (q : Nat) (t : Nat → Nat → Int) : Prop := (sAlgP a ∧ AllSm a q t) ∧ (m = a.n.toNat ∧ AllSm a m s) ∧ (sCommP a ∧ sFrobP a ∧ sStarP a s)
def C_IsCrossCap (P : Program) (N : FN) : Prop := ∀ {a : Alg} {m : Nat} {s : Nat → Nat → Int} {t : Nat → Int}, AlgIn a → m ≤ 1048576 → (∀ i, Byts (s i)) → Byts t →
  Can P N.impl_IsCrossCap [algD a, vsD m s, vecD t] (.tup [.bool (dB (iStA a m s 1 (fun _ => t) ∧ crossP a s (iKlein a s) t)), .int .i64 (scode (dB (IsAlgP a ∧ AllSm a 1 fun _ => t)) (dB (m = a.n.toNat ∧ AllSm a m s)) (dB (CommP a ∧ FrobP a ∧ iStarP a s)))])
def C_sIsCrossCap (P : Program) (N : FN) : Prop := ∀ {a : Alg} {m : Nat} {s : Nat → Nat → Int} {t : Nat → Int}, SAlgIn a → m ≤ 1048576 → (∀ i, Byts (s i)) → Byts t → (sAlgP a → sFrobP a → ∀ j, j < a.n.toNat → (sCol a j).isSome = true) →
  Can P N.spec_IsCrossCap [algD a, vsD m s, vecD t] (.tup [.bool (dB (sStA a m s 1 (fun _ => t) ∧ crossP a s (sKlein a s) t)), .int .i64 (scode (dB (sAlgP a ∧ AllSm a 1 fun _ => t)) (dB (m = a.n.toNat ∧ AllSm a m s)) (dB (sCommP a ∧ sFrobP a ∧ sStarP a s)))])
end Go.X
namespace Go.X
open Go Go.RowKit
theorem col_ok {a : Alg} (ha : AlgOk a) (hf : sFrobP a) {j : Nat} (hj : j < a.n.toNat) : ∀ i, i < a.n.toNat → (dot a.n.toNat (tabR a i) (fun q => copB a q j) + neg1 j i) % a.p = 0 := by
  have hn := ha.n
  obtain ⟨hl, _⟩ := cop_rr ha hf
  exact ker_aug.1 <| (redF_ker ha.p (augL_rw ha)).1 fun r hr => by
    obtain ⟨k, hk, rfl⟩ := mem_getD hr
    rw [cop_dot ha hf (by omega), dot_neg1 hj, Int.add_right_neg]; simp
theorem dot_bas {n m : Nat} {r : Row} (hm : m < n) : dot n r (basV m) = r m := by
  unfold dot
  rw [sumN_one' (i := m) hm fun k _ hne => by unfold basV; rw [if_neg hne, Int.mul_zero]]
  unfold basV; rw [if_pos rfl]; omega
theorem dot_neg {n : Nat} {r v : Row} : dot n r (fun i => -(v i)) = -(dot n r v) := by
  unfold dot
  induction n with
  | zero => rfl
  | succ n ih => simp only [sumN]; rw [ih, Int.mul_neg]; omega
theorem cop_left {a : Alg} (ha : AlgOk a) (hf : sFrobP a) {k m : Nat} (hk : k < a.n.toNat) (hm : m < a.n.toNat) : (basV m k - dot a.n.toNat (copB a k) (fun i => tabR a i m)) % a.p = 0 := by
  obtain ⟨hl, _⟩ := cop_rr ha hf
  have h1 : Ker a.p (a.n.toNat + a.n.toNat) (augL a) (two a.n.toNat (basV m) (fun i => -(tabR a i m))) := ker_aug.2 fun i hi => by
    rw [dot_bas hm, Int.add_right_neg]; simp
  have h2 := (redF_ker ha.p (augL_rw ha)).2 h1 _ (show (redF a.p (a.n.toNat + a.n.toNat) (augL a)).getD k Z ∈ _ by
    rw [List.getD_eq_getElem?_getD, List.getElem?_eq_getElem (by omega)]; exact List.getElem_mem _)
  rw [cop_dot ha hf hk, dot_neg] at h2
  rw [← h2]; congr 1
theorem tab_sym {a : Alg} (hc : sCommP a) {i j : Nat} (hi : i < 6) (hj : j < 6) : tabR a i j = tabR a j i := by
  have key : ∀ i j : Nat, i < 6 → j < i → tabR a i j = tabR a j i := fun i j hi hj => by
    unfold tabR formV fsum
    congr 1
    exact sumN_ext fun k hk => by rw [hc i hi j hj k hk]
  rcases Nat.lt_trichotomy i j with h | h | h
  · exact (key j i hj h).symm
  · rw [h]
  · exact key i j hi h
theorem dot_comm {n : Nat} {r v : Row} : dot n r v = dot n v r := sumN_ext fun i _ => Int.mul_comm ..
theorem cop_sym {a : Alg} (ha : AlgOk a) (hf : sFrobP a) (hc : sCommP a) {k i : Nat} (hk : k < a.n.toNat) (hi : i < a.n.toNat) : copB a k i = copB a i k := by
  have hp2 := prime_bd ha.p
  have hn := ha.n
  have hkz := kerZ_ech (m := a.n.toNat) ha.p (tabL_rw ha a.n.toNat) (by unfold sFrobP at hf; omega)
  have h1 := col_ok ha hf hk
  have h2 : ∀ q, q < a.n.toNat → (dot a.n.toNat (tabR a q) (copB a k) + neg1 k q) % a.p = 0 := fun q hq => by
    have h3 := cop_left ha hf hk hq
    have e : dot a.n.toNat (tabR a q) (copB a k) = dot a.n.toNat (copB a k) (fun i => tabR a i q) := by
      rw [dot_comm]
      exact sumN_ext fun j hj => by rw [tab_sym hc (i := q) (j := j) (by omega) (by omega)]
    have e2 : neg1 k q = -(basV q k) := by
      unfold neg1 basV
      by_cases c : q = k
      · rw [if_pos c, if_pos c.symm]
      · rw [if_neg c, if_neg (fun h => c h.symm)]; rfl
    rw [e, e2]
    have h4 : (-(basV q k - dot a.n.toNat (copB a k) (fun i => tabR a i q))) % a.p = 0 := by
      have := Int.dvd_of_emod_eq_zero h3
      exact Int.emod_eq_zero_of_dvd (Int.dvd_neg.2 this)
    rw [← h4]; congr 1; omega
  have hz : Ker a.p a.n.toNat (tabL a a.n.toNat) (fun i => (copB a k i - copB a i k) % a.p) := ker_tab.2 fun q hq => by
    have e : dot a.n.toNat (tabR a q) (fun i => (copB a k i - copB a i k) % a.p) % a.p = dot a.n.toNat (tabR a q) (fun i => copB a k i - copB a i k) % a.p := dot_mod fun i _ => cg_mod _ _
    rw [e, dot_sub]
    have e0 : (0 : Int) % a.p = 0 := by simp
    have h2' : (dot a.n.toNat (tabR a q) (copB a k) + neg1 k q) % a.p = 0 % a.p := by rw [h2 q hq, e0]
    have h1' : (dot a.n.toNat (tabR a q) (fun q => copB a q k) + neg1 k q) % a.p = 0 % a.p := by rw [h1 q hq, e0]
    have := cg_sub h2' h1'
    rw [show dot a.n.toNat (tabR a q) (copB a k) - dot a.n.toNat (tabR a q) (fun i => copB a i k) = dot a.n.toNat (tabR a q) (copB a k) + neg1 k q - (dot a.n.toNat (tabR a q) (fun i => copB a i k) + neg1 k q) by omega, this]
    simp
  have h4 := hkz _ (fun i => mod_bd _ (by omega)) hz i hi
  have h5 := (Int.emod_eq_emod_iff_emod_sub_eq_zero (m := copB a k i) (n := a.p) (k := copB a i k)).2 h4
  have r1 := rw_mod (copB_rw ha k) i
  have r2 := rw_mod (copB_rw ha i) k
  rw [r1, r2] at h5
  exact h5
theorem sCop_eq {a : Alg} (ha : AlgOk a) (hf : sFrobP a) {k l : Nat} (hk : k < a.n.toNat) (hl : l < a.n.toNat) : sCop a k l = copB a k l := by
  obtain ⟨s, hs, he⟩ := col_eq ha hf hl
  unfold sCop
  rw [hs]
  exact he k hk
theorem uzI_at {p : Int} {B : Nat → Row} {c : Row} {acc : Nat → Int} {k j : Nat} : ∀ i, uzI p B c acc k i j % p = (acc j + if j = k then sumN i (fun q => B k q * c q) else 0) % p
  | 0 => by simp [uzI, sumN]
  | i + 1 => by
    have ih := uzI_at (p := p) (B := B) (c := c) (acc := acc) (k := k) (j := j) i
    unfold uzI
    split
    · rename_i h
      rw [ih]
      by_cases g : j = k
      · simp only [g, if_true, sumN, h, Int.zero_mul, Int.add_zero]
      · simp only [g, if_false]
    · unfold addV
      rw [cg_mod]
      by_cases g : j = k
      · subst g
        simp only [if_true] at ih ⊢
        have e : basV j j = 1 := by simp [basV]
        rw [e, Int.mul_one]
        have h1 : (uzI p B c acc j i j + B j i * c i % p) % p = (acc j + sumN i (fun q => B j q * c q) + B j i * c i) % p := cg_add ih (cg_mod _ _)
        rw [h1]; simp only [sumN]; congr 1; omega
      · simp only [g, if_false] at ih ⊢
        have e : basV k j = 0 := by simp [basV, g]
        rw [e, Int.mul_zero, Int.add_zero]; exact ih
theorem uzR_at {p : Int} {B : Nat → Row} {c : Row} {n j : Nat} : ∀ m, uzR p B c n m j % p = (if j < m then sumN n (fun q => B j q * c q) else 0) % p
  | 0 => by simp [uzR, Z]
  | m + 1 => by
    have ih := uzR_at (p := p) (B := B) (c := c) (n := n) (j := j) m
    unfold uzR
    rw [uzI_at, cg_add ih rfl]
    by_cases g : j = m
    · subst g; simp
    · by_cases h : j < m
      · simp [g, h, Nat.lt_succ_of_lt h]
      · simp [g, h, show ¬ j < m + 1 by omega]
theorem uzS_at {p : Int} {T : Nat → Row} {c : Row} {acc : Nat → Int} {k j : Nat} : ∀ l, uzS p T c acc k l j % p = (acc j + if j < l then c k * T k j else 0) % p
  | 0 => by simp [uzS]
  | l + 1 => by
    have ih := uzS_at (p := p) (T := T) (c := c) (acc := acc) (k := k) (j := j) l
    unfold uzS addV
    rw [cg_mod, cg_add ih rfl]
    by_cases g : j = l
    · subst g
      have e : basV j j = 1 := by simp [basV]
      simp [e]
    · have e : basV l j = 0 := by simp [basV, g]
      rw [e, Int.mul_zero, Int.add_zero]
      by_cases h : j < l
      · simp [h, Nat.lt_succ_of_lt h]
      · simp [h, show ¬ j < l + 1 by omega]
theorem uzT_at {p : Int} {T : Nat → Row} {c : Row} {n j : Nat} : ∀ m, uzT p T c n m j % p = (if j < n then sumN m (fun k => c k * T k j) else 0) % p
  | 0 => by simp [uzT, Z, sumN]
  | m + 1 => by
    have ih := uzT_at (p := p) (T := T) (c := c) (n := n) (j := j) m
    unfold uzT
    rw [uzS_at, cg_add ih rfl]
    by_cases g : j < n
    · simp [g, sumN]
    · simp [g]
theorem unzip_same {x : Pr} (ha : AlgOk x.c) (hf : sFrobP x.c) (hc : sCommP x.c) (w : Nat → Int) : iUnzip x w = sUnzip x w := by
  have hp2 := prime_bd ha.p
  funext j
  have r1 : Rw x.c.p (iUnzip x w) := uzR_rw (by omega) _
  have r2 : Rw x.c.p (sUnzip x w) := uzT_rw (by omega) _
  rw [← rw_mod r1 j, ← rw_mod r2 j]
  unfold iUnzip sUnzip
  rw [uzR_at, uzT_at, iCop_len2 ha hf]
  congr 1
  by_cases h : j < x.c.n.toNat
  · rw [if_pos h, if_pos h]
    refine sumN_ext fun q hq => ?_
    rw [cop_same ha hf h hq, sCop_eq ha hf h hq, sCop_eq ha hf hq h, cop_sym ha hf hc h hq, Int.mul_comm]
  · rw [if_neg h, if_neg h]
end Go.X
namespace Go.X
open Go Go.RowKit
theorem args1 {a : Ty} {l : List D} (h : argsHave [a] l) : ∃ x, l = [x] ∧ a.arg x := by
  match l, h with
  | [x], h => exact ⟨x, rfl, h.1⟩
theorem args2 {a b : Ty} {l : List D} (h : argsHave [a, b] l) : ∃ x y, l = [x, y] ∧ a.arg x ∧ b.arg y := by
  match l, h with
  | [x, y], h => exact ⟨x, y, rfl, h.1, h.2.1⟩
theorem args3 {a b c : Ty} {l : List D} (h : argsHave [a, b, c] l) : ∃ x y z, l = [x, y, z] ∧ a.arg x ∧ b.arg y ∧ c.arg z := by
  match l, h with
  | [x, y, z], h => exact ⟨x, y, z, rfl, h.1, h.2.1, h.2.2.1⟩
def AllU8 (c : Nat) (e : Ty) : Prop := ∀ ys, e.Has ys → ∃ f : Nat → Int, ys = cel .u8 c f ∧ Byts f
theorem allU8_int : AllU8 1 (.int .u8) := fun ys h => by
  obtain ⟨n, rfl, hw⟩ := h
  have := bounds_u8 hw
  exact ⟨fun _ => n, rfl, fun _ => this⟩
theorem cel_append {k : IntKind} {a b : Nat} {f g : Nat → Int} : cel k a f ++ cel k b g = cel k (a + b) fun i => if i < a then f i else g (i - a) := by
  refine arr_of (by simp [cel_len]) fun i hi => ?_
  rcases Nat.lt_or_ge i a with h | h
  · rw [List.getElem?_append_left (by rw [cel_len]; exact h), cel_get h]; simp [h]
  · rw [List.getElem?_append_right (by rw [cel_len]; exact h), cel_len, cel_get (by omega)]; simp [show ¬ i < a by omega]
theorem flat_u8 {c : Nat} : ∀ {yss : List (List D)}, (∀ ys ∈ yss, ∃ f : Nat → Int, ys = cel .u8 c f ∧ Byts f) → ∃ f : Nat → Int, yss.flatten = cel .u8 (yss.length * c) f ∧ Byts f
  | [], _ => ⟨fun _ => 0, by simp [cel, arr], fun _ => by show (0:Int) ≤ 0 ∧ (0:Int) ≤ 255; omega⟩
  | y :: r, h => by
    obtain ⟨f, rfl, hf⟩ := h y (List.mem_cons_self ..)
    obtain ⟨g, h2, hg⟩ := flat_u8 fun ys hy => h ys (List.mem_cons_of_mem _ hy)
    refine ⟨fun i => if i < c then f i else g (i - c), ?_, fun i => ?_⟩
    · rw [List.flatten_cons, h2, cel_append, List.length_cons, Nat.succ_mul, Nat.add_comm]
    · dsimp only; split
      · exact hf _
      · exact hg _
theorem allU8_arr {c n : Nat} {e : Ty} (h : AllU8 c e) : AllU8 (n * c) (.arr n e) := fun ys hy => by
  obtain ⟨yss, rfl, rfl, hy⟩ := hy
  exact flat_u8 fun ys hm => h ys (hy ys hm)
def tyVec : Ty := .arr 6 (.int .u8)
def tyTab : Ty := .arr 6 (.arr 6 (.arr 6 (.int .u8)))
def tyMat : Ty := .arr 6 (.arr 6 (.int .u8))
def tyAlg : Ty := .st [.int .i64, .int .i64, tyTab, tyVec]
def tyPair : Ty := .st [tyAlg, tyAlg, tyMat]
theorem arg_vec {d : D} (h : tyVec.arg d) : ∃ v, d = vecD v ∧ Byts v := by
  obtain ⟨xs, rfl, h⟩ := h
  obtain ⟨f, rfl, hf⟩ := allU8_arr allU8_int _ h
  exact ⟨f, rfl, hf⟩
def I64 (x : Int) : Prop := -9223372036854775808 ≤ x ∧ x ≤ 9223372036854775807
theorem arg_i64 {d : D} (h : (Ty.int .i64).arg d) : ∃ n, d = .int .i64 n ∧ I64 n := by
  obtain ⟨n, h, hw⟩ := h
  simp only [List.cons.injEq, and_true] at h
  exact ⟨n, h, bounds_i64 hw⟩
theorem has_alg {xs : List D} (h : tyAlg.Has xs) : ∃ a : Alg, xs = algL a ∧ AlgIn a ∧ I64 a.p ∧ I64 a.n := by
  obtain ⟨_, _, rfl, ⟨p, rfl, hp⟩, _, _, rfl, ⟨n, rfl, hn⟩, _, _, rfl, hT, _, _, rfl, hF, rfl⟩ := h
  obtain ⟨T, rfl, bT⟩ := allU8_arr (n := 6) (allU8_arr (n := 6) (allU8_arr (n := 6) allU8_int)) _ hT
  obtain ⟨F, rfl, bF⟩ := allU8_arr (n := 6) allU8_int _ hF
  let a : Alg := ⟨p, n, fun i j k => if i < 6 ∧ j < 6 ∧ k < 6 then T (i * 36 + j * 6 + k) else 0, fun i => if i < 6 then F i else 0⟩
  have aT : ∀ i j k, i < 6 → j < 6 → k < 6 → a.T i j k = T (i * 36 + j * 6 + k) := fun i j k hi hj hk => if_pos ⟨hi, hj, hk⟩
  have aF : ∀ i, i < 6 → a.f i = F i := fun i hi => if_pos hi
  have bB : AlgB a := by
    refine ⟨fun i j k => ?_, fun i => ?_⟩
    · show 0 ≤ (if _ then _ else (0 : Int)) ∧ (if _ then _ else (0 : Int)) ≤ 255
      split
      · exact bT _
      · omega
    · show 0 ≤ (if _ then _ else (0 : Int)) ∧ (if _ then _ else (0 : Int)) ≤ 255
      split
      · exact bF _
      · omega
  refine ⟨a, ?_, ⟨bB, fun hp hn hT => ?_⟩, bounds_i64 hp, bounds_i64 hn⟩
  · refine arr_of (by simp [cel_len]) fun q hq => ?_
    unfold algF
    by_cases c0 : q = 0
    · subst c0; rfl
    by_cases c1 : q = 1
    · subst c1; rfl
    rw [if_neg c0, if_neg c1]
    rw [List.getElem?_append_right (by simp; omega), List.getElem?_append_right (by simp; omega)]
    simp only [List.length_cons, List.length_nil]
    by_cases c2 : q < 218
    · rw [List.getElem?_append_left (by rw [cel_len]; omega), cel_get (by omega), if_pos c2]
      have e : a.T ((q - 2) / 36) ((q - 2) / 6 % 6) ((q - 2) % 6) = T (q - 2) := by
        rw [aT _ _ _ (by omega) (by omega) (by omega)]; congr 1; omega
      rw [e, Nat.sub_sub]
    · rw [List.getElem?_append_right (by rw [cel_len]; omega), List.append_nil, cel_len, cel_get (by omega), if_neg c2]
      rw [aF _ (by omega)]; congr 3
  · have hp2 := prime_bd hp
    refine ⟨hp, hn, fun i j k => ⟨(bB.1 i j k).1, ?_⟩, fun i => ⟨(bB.2 i).1, ?_⟩, fun i j k h => ?_, fun i h => ?_⟩
    · by_cases c : i < 6 ∧ j < 6 ∧ k < 6
      · exact ((hT.1 i j c.1 c.2.1).1 k c.2.2).1
      · show (if i < 6 ∧ j < 6 ∧ k < 6 then _ else (0 : Int)) < _
        rw [if_neg c]; omega
    · by_cases c : i < 6
      · exact (hT.2 i c).1
      · show (if i < 6 then _ else (0 : Int)) < _
        rw [if_neg c]; omega
    · by_cases c : i < 6 ∧ j < 6 ∧ k < 6
      · rcases h with h | h | h
        · exact (hT.1 i j c.1 c.2.1).2 (.inl h) k c.2.2
        · exact (hT.1 i j c.1 c.2.1).2 (.inr h) k c.2.2
        · exact ((hT.1 i j c.1 c.2.1).1 k c.2.2).2 h
      · show (if i < 6 ∧ j < 6 ∧ k < 6 then _ else (0 : Int)) = 0
        rw [if_neg c]
    · by_cases c : i < 6
      · exact (hT.2 i c).2 h
      · show (if i < 6 then _ else (0 : Int)) = 0
        rw [if_neg c]
theorem arg_alg {d : D} (h : tyAlg.arg d) : ∃ a : Alg, d = algD a ∧ AlgIn a ∧ I64 a.p ∧ I64 a.n := by
  obtain ⟨xs, rfl, h⟩ := h
  obtain ⟨a, rfl, ha⟩ := has_alg h
  exact ⟨a, rfl, ha⟩
theorem AlgIn.s {a : Alg} (h : AlgIn a) : SAlgIn a := ⟨h.b, fun hs => by
  obtain ⟨h1, h2, h3⟩ := shape_iff.1 hs
  exact h.ok h1 h2 h3⟩
theorem PrIn.s {x : Pr} (h : PrIn x) : SPrIn x := ⟨h.c.s, h.o.s, h.z⟩
theorem arg_pair {d : D} (h : tyPair.arg d) : ∃ x : Pr, d = pairD x ∧ PrIn x ∧ I64 x.c.p ∧ I64 x.c.n ∧ I64 x.o.p ∧ I64 x.o.n := by
  obtain ⟨xs, rfl, h⟩ := h
  obtain ⟨_, _, rfl, hc, _, _, rfl, ho, _, _, rfl, hz, rfl⟩ := h
  obtain ⟨c, rfl, gc⟩ := has_alg hc
  obtain ⟨o, rfl, go⟩ := has_alg ho
  obtain ⟨z, rfl, bz⟩ := allU8_arr (n := 6) (allU8_arr (n := 6) allU8_int) _ hz
  refine ⟨⟨c, o, fun i k => if i < 6 ∧ k < 6 then z (i * 6 + k) else 0⟩, ?_, ⟨gc.1, go.1, fun i k => ?_⟩, gc.2.1, gc.2.2, go.2.1, go.2.2⟩
  · refine congrArg D.agg (arr_of (by rw [List.length_append, List.length_append, List.length_append, cel_len, algL, algL, arr_len, arr_len]; rfl) fun q hq => ?_)
    unfold pairF
    have l : ∀ a : Alg, (algL a).length = 224 := fun a => arr_len ..
    by_cases c0 : q < 224
    · rw [List.getElem?_append_left (by rw [l]; exact c0), if_pos c0]
      exact arr_get c0
    rw [if_neg c0, List.getElem?_append_right (by rw [l]; omega), l]
    by_cases c1 : q < 448
    · rw [List.getElem?_append_left (by rw [l]; omega), if_pos c1]
      exact arr_get (by omega)
    rw [if_neg c1, List.getElem?_append_right (by rw [l]; omega), l, List.append_nil, cel_get (by omega)]
    have e : (if (q - 448) / 6 < 6 ∧ (q - 448) % 6 < 6 then z ((q - 448) / 6 * 6 + (q - 448) % 6) else 0) = z (q - 448) := by
      rw [if_pos (by omega), show (q - 448) / 6 * 6 + (q - 448) % 6 = q - 448 by omega]
    have e2 : q - 224 - 224 = q - 448 := by omega
    dsimp only
    rw [e, e2]
  · show 0 ≤ (if _ then _ else (0 : Int)) ∧ (if _ then _ else (0 : Int)) ≤ 255
    split
    · exact bz _
    · omega
end Go.X
