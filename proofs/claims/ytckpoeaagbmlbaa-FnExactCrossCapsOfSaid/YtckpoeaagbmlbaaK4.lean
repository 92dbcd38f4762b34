import Derived.Test.YtckpoeaagbmlbaaK3
set_option linter.all false
namespace Go.X
open Go Go.RowKit
end Go.X
namespace Go.X
open Go Go.RowKit
def FN.laws_FnExactCrossCapsOf (N : FN) : FuncId := N.f 138
def ir_laws_FnExactCrossCapsOf (N : FN) : CF := ⟨2, 104, [(.tmp 4)], (.seq (.reg false [3] [(rO 2 (.box (.t 0))), (rO 4 (.mov (.c (.bool false))))]) (.seq (.reg false [] [(rO 5 (.mov (.c (.int .i64 1048576))))]) (.seq (.reg false [19] [(rO 16 (.mov (.t 1))), (rO 17 (.mov (.t 5))), (rO 18 (.call N.laws_szVectorS [(.t 16), (.t 17)])), (rO 5 (.mov (.t 18)))]) (.seq (.seq (.reg false [] [(rO 19 (.mov (.t 5))), (rO 20 (.cmp .lss (.t 19) (.c (.int .i64 0))))]) (.cond (.t 20) (.seq (.reg false [] [(rO 4 (.mov (.c (.bool true))))]) .ret) .skip)) (.seq (.reg false [24, 26, 27] [(rO 22 (.load (some 224) (.t 2))), (rO 23 (.call N.laws_toAlgebra [(.t 22)])), (rO 24 (.mov (.t 1))), (rO 25 (.call N.laws_toVectorS [(.t 24)])), (rO 26 (.call N.spec_CrossCapsOf [(.t 23), (.t 25)])), (rO 21 (.mov (.t 26))), (rO 27 (.extract (.t 21) 0)), (rO 28 (.extract (.t 21) 1)), (rO 6 (.mov (.t 27))), (rO 7 (.mov (.t 28)))]) (.seq (.reg false [31] [(rO 29 (.mov (.t 1))), (rO 30 (.call N.laws_toVectorS [(.t 29)])), (rO 8 (.mov (.t 30)))]) (.seq (.reg false [34, 36] [(rO 32 (.load (some 224) (.t 2))), (rO 33 (.call N.laws_toAlgebra [(.t 32)])), (rO 34 (.mov (.t 8))), (rO 35 (.call N.impl_CrossCapsOf [(.t 33), (.t 34)])), (rO 31 (.mov (.t 35))), (rO 36 (.extract (.t 31) 0)), (rO 37 (.extract (.t 31) 1)), (rO 9 (.mov (.t 36))), (rO 10 (.mov (.t 37)))]) (.seq (.seq (.reg false [41] [(rO 38 (.mov (.t 9))), (rO 39 (.mov (.t 6))), (rO 40 (.call N.laws_eqVectorS [(.t 38), (.t 39)])), (rO 41 (.not (.t 40))), (rO 42 (.mov (.t 41))), ⟨(some 43), 44, (.mov (.t 10)), (some (42, false)), [], none⟩, ⟨(some 44), 45, (.mov (.t 7)), (some (42, false)), [], none⟩, ⟨(some 45), 46, (.cmp .neq (.t 43) (.t 44)), (some (42, false)), [], none⟩, (rO 46 (.pick (.t 42) (.c (.bool true)) (.t 45)))]) (.cond (.t 46) (.seq (.reg false [] [(rO 4 (.mov (.c (.bool false))))]) .ret) .skip)) (.seq (.seq (.reg false [50, 51] [(rO 47 (.mov (.t 8))), (rO 48 (.mov (.t 1))), (rO 49 (.call N.laws_toVectorS [(.t 48)])), (rO 50 (.call N.laws_eqVectorS [(.t 47), (.t 49)])), (rO 51 (.not (.t 50)))]) (.cond (.t 51) (.seq (.reg false [] [(rO 4 (.mov (.c (.bool false))))]) .ret) .skip)) (.seq (.reg false [] [(rO 11 (.mov (.c (.int .i64 1))))]) (.seq (.reg false [55] [(rO 52 (.mov (.t 8))), (rO 53 (.mov (.t 11))), (rO 54 (.callM N.laws_markVectorS (.t 52) [(.t 53)])), (rO 11 (.mov (.t 54)))]) (.seq (.seq (.reg false [61] [(rO 55 (.mov (.t 11))), (rO 56 (.cmp .lss (.t 55) (.c (.int .i64 0)))), (rO 57 (.mov (.t 56))), ⟨(some 58), 59, (.mov (.t 9)), (some (57, false)), [], none⟩, ⟨(some 59), 60, (.mov (.t 6)), (some (57, false)), [], none⟩, ⟨(some 60), 61, (.call N.laws_eqVectorS [(.t 58), (.t 59)]), (some (57, false)), [], none⟩, ⟨(some 61), 62, (.not (.t 60)), (some (57, false)), [], none⟩, (rO 62 (.pick (.t 57) (.c (.bool true)) (.t 61))), (rO 63 (.mov (.t 62))), ⟨(some 64), 65, (.mov (.t 10)), (some (63, false)), [], none⟩, ⟨(some 65), 66, (.mov (.t 7)), (some (63, false)), [], none⟩, ⟨(some 66), 67, (.cmp .neq (.t 64) (.t 65)), (some (63, false)), [], none⟩, (rO 67 (.pick (.t 63) (.c (.bool true)) (.t 66)))]) (.cond (.t 67) (.seq (.reg false [] [(rO 4 (.mov (.c (.bool false))))]) .ret) .skip)) (.seq (.reg false [] [(rO 12 (.mov (.c (.int .i64 1))))]) (.seq (.reg false [71] [(rO 68 (.mov (.t 9))), (rO 69 (.mov (.t 12))), (rO 70 (.callM N.laws_markVectorS (.t 68) [(.t 69)])), (rO 12 (.mov (.t 70)))]) (.seq (.reg false [] [(rO 13 (.mov (.c (.int .i64 1))))]) (.seq (.reg false [74] [(rO 71 (.mov (.t 9))), (rO 72 (.mov (.t 13))), (rO 73 (.call N.laws_heldVectorS [(.t 71), (.t 72)])), (rO 13 (.mov (.t 73)))]) (.seq (.seq (.reg false [] [(rO 74 (.mov (.t 13))), (rO 75 (.cmp .lss (.t 74) (.c (.int .i64 0))))]) (.cond (.t 75) (.seq (.reg false [] [(rO 4 (.mov (.c (.bool false))))]) .ret) .skip)) (.seq (.seq (.reg false [] [(rO 76 (.mov (.t 13))), (rO 77 (.mov (.t 12))), (rO 78 (.cmp .neq (.t 76) (.t 77)))]) (.cond (.t 78) (.seq (.reg false [] [(rO 4 (.mov (.c (.bool false))))]) .ret) .skip)) (.seq (.reg false [82, 84, 85] [(rO 80 (.load (some 224) (.t 2))), (rO 81 (.call N.laws_toAlgebra [(.t 80)])), (rO 82 (.mov (.t 1))), (rO 83 (.call N.laws_toVectorS [(.t 82)])), (rO 84 (.call N.impl_CrossCapsOf [(.t 81), (.t 83)])), (rO 79 (.mov (.t 84))), (rO 85 (.extract (.t 79) 0)), (rO 86 (.extract (.t 79) 1)), (rO 14 (.mov (.t 85))), (rO 15 (.mov (.t 86)))]) (.seq (.seq (.reg false [90] [(rO 87 (.mov (.t 14))), (rO 88 (.mov (.t 6))), (rO 89 (.call N.laws_eqVectorS [(.t 87), (.t 88)])), (rO 90 (.not (.t 89))), (rO 91 (.mov (.t 90))), ⟨(some 92), 93, (.mov (.t 15)), (some (91, false)), [], none⟩, ⟨(some 93), 94, (.mov (.t 7)), (some (91, false)), [], none⟩, ⟨(some 94), 95, (.cmp .neq (.t 92) (.t 93)), (some (91, false)), [], none⟩, (rO 95 (.pick (.t 91) (.c (.bool true)) (.t 94)))]) (.cond (.t 95) (.seq (.reg false [] [(rO 4 (.mov (.c (.bool false))))]) .ret) .skip)) (.seq (.reg false [] [(rO 13 (.mov (.c (.int .i64 1))))]) (.seq (.reg false [99] [(rO 96 (.mov (.t 9))), (rO 97 (.mov (.t 13))), (rO 98 (.call N.laws_heldVectorS [(.t 96), (.t 97)])), (rO 13 (.mov (.t 98)))]) (.seq (.seq (.reg false [] [(rO 99 (.mov (.t 13))), (rO 100 (.cmp .lss (.t 99) (.c (.int .i64 0))))]) (.cond (.t 100) (.seq (.reg false [] [(rO 4 (.mov (.c (.bool false))))]) .ret) .skip)) (.seq (.seq (.reg false [] [(rO 101 (.mov (.t 13))), (rO 102 (.mov (.t 12))), (rO 103 (.cmp .neq (.t 101) (.t 102)))]) (.cond (.t 103) (.seq (.reg false [] [(rO 4 (.mov (.c (.bool false))))]) .ret) .skip)) (.seq (.reg false [] [(rO 4 (.mov (.c (.bool true))))]) .ret)))))))))))))))))))))))))⟩
end Go.X
namespace Go.X
open Go Go.RowKit
def LinF (p : Int) (n : Nat) (F : (Nat → Int) → Int) : Prop := ∀ v, F v % p = sumN n (fun i => v i * F (basV i)) % p
theorem LinF.ext {p : Int} {n : Nat} {F G : (Nat → Int) → Int} (hF : LinF p n F) (hG : LinF p n G) (h : ∀ i, i < n → F (basV i) % p = G (basV i) % p) (v : Nat → Int) : F v % p = G v % p := by
  rw [hF v, hG v]
  exact sumN_mod fun i hi => cg_mul rfl (h i hi)
theorem bas_times2 {a : Alg} (ha : AlgOk a) {i j : Nat} (hi : i < a.n.toNat) (hj : j < a.n.toNat) : timesV a (basV i) (basV j) = a.T i j := funext fun k => bas_times ha (by omega) (by omega) k
end Go.X
namespace Go.X
open Go Go.RowKit
theorem VEq.rfl' {v : Nat → Int} : VEq v v := fun _ _ => rfl
theorem shape_iff {a : Alg} : ShapeP a ↔ a.p ∈ primes ∧ (1 ≤ a.n ∧ a.n ≤ 6) ∧ TabP a := by
  unfold ShapeP TabP
  constructor
  · rintro ⟨h1, h2, h3, h4⟩
    refine ⟨h1, h2, fun i j hi hj => ⟨fun k hk => ?_, fun hz k hk => ?_⟩, h3⟩
    · have := h4 i j hi hj k hk
      refine ⟨this.1, fun hn => this.2 ?_⟩
      split <;> omega
    · have := h4 i j hi hj k hk
      rw [if_pos hz] at this
      exact this.2 (by omega)
  · rintro ⟨h1, h2, h3, h4⟩
    refine ⟨h1, h2, h4, fun i j hi hj k hk => ?_⟩
    obtain ⟨g1, g2⟩ := h3 i j hi hj
    refine ⟨(g1 k hk).1, fun hn => ?_⟩
    by_cases c : a.n ≤ (i : Int) ∨ a.n ≤ (j : Int)
    · exact g2 c k hk
    · rw [if_neg c] at hn
      exact (g1 k hk).2 hn
theorem alg_iff {a : Alg} (h : AlgIn a) : IsAlgP a ↔ sAlgP a := by
  unfold IsAlgP sAlgP
  rw [shape_iff]
  constructor
  · rintro ⟨h1, h2, h3, h4, h5⟩
    exact ⟨⟨h1, h2, h3⟩, h4, (unit_same (h.ok h1 h2 h3)).1.1 h5⟩
  · rintro ⟨⟨h1, h2, h3⟩, h4, h5⟩
    exact ⟨h1, h2, h3, h4, (unit_same (h.ok h1 h2 h3)).1.2 h5⟩
theorem comm_iff {a : Alg} (ha : AlgOk a) : CommP a ↔ sCommP a := by
  have hn := ha.n
  constructor
  · intro h i hi j hj
    by_cases c : (i : Int) < a.n
    · exact h i j c hj
    · intro k hk
      rw [ha.z i j k (by omega), ha.z j i k (by omega)]
  · intro h i j hi hj
    exact h i (by omega) j hj
theorem frob_iff {a : Alg} (ha : AlgOk a) : FrobP a ↔ sFrobP a := by
  have hn := ha.n
  have := rank_eq (m := a.n.toNat) ha.p (tabL_rw ha a.n.toNat)
  unfold FrobP sFrobP
  omega
theorem dot_split {m n : Nat} {r z : Row} : dot (m + n) r z = dot m r z + sumN n fun i => r (m + i) * z (m + i) := by
  unfold dot
  induction n with
  | zero => simp [sumN]
  | succ n ih =>
    rw [← Nat.add_assoc]
    simp only [sumN]
    rw [ih]; omega
def two (n : Nat) (u v : Row) : Row := fun i => if i < n then u i else v (i - n)
theorem dot_two {n : Nat} {r u v : Row} : dot (n + n) r (two n u v) = dot n r u + dot n (fun i => r (n + i)) v := by
  rw [dot_split]
  congr 1
  · exact sumN_ext fun i hi => by unfold two; rw [if_pos hi]
  · refine sumN_ext fun i hi => ?_
    unfold two; rw [if_neg (by omega), show n + i - n = i by omega]
theorem aug_dot {a : Alg} {i : Nat} (hi : i < a.n.toNat) {u v : Row} : dot (a.n.toNat + a.n.toNat) (augR a i) (two a.n.toNat u v) = dot a.n.toNat (tabR a i) u + v i := by
  rw [dot_two]
  congr 1
  · exact sumN_ext fun j hj => by unfold augR; rw [if_pos hj]
  · unfold dot
    rw [sumN_one' (i := i) hi fun k hk hne => ?_]
    · have : augR a i (a.n.toNat + i) = 1 := by
        unfold augR
        rw [if_neg (by omega), show a.n.toNat + i - a.n.toNat = i by omega, if_pos rfl]
      show augR a i (a.n.toNat + i) * v i = v i
      rw [this, Int.one_mul]
    · have : augR a i (a.n.toNat + k) = 0 := by
        unfold augR
        rw [if_neg (by omega), show a.n.toNat + k - a.n.toNat = k by omega, if_neg hne]
      show augR a i (a.n.toNat + k) * v k = 0
      rw [this, Int.zero_mul]
theorem ker_aug {a : Alg} {u v : Row} : Ker a.p (a.n.toNat + a.n.toNat) (augL a) (two a.n.toNat u v) ↔ ∀ i, i < a.n.toNat → (dot a.n.toNat (tabR a i) u + v i) % a.p = 0 := by
  unfold Ker augL arr
  constructor
  · intro h i hi
    rw [← aug_dot hi]
    exact h _ (List.mem_map.2 ⟨i, by simpa using hi, rfl⟩)
  · intro h r hr
    obtain ⟨i, hi, rfl⟩ := List.mem_map.1 hr
    rw [aug_dot (by simpa using hi)]
    exact h i (by simpa using hi)
theorem ker_tab {a : Alg} {u : Row} : Ker a.p a.n.toNat (tabL a a.n.toNat) u ↔ ∀ i, i < a.n.toNat → dot a.n.toNat (tabR a i) u % a.p = 0 := by
  unfold Ker tabL arr
  constructor
  · intro h i hi
    exact h _ (List.mem_map.2 ⟨i, by simpa using hi, rfl⟩)
  · intro h r hr
    obtain ⟨i, hi, rfl⟩ := List.mem_map.1 hr
    exact h i (by simpa using hi)
theorem cop_rr {a : Alg} (ha : AlgOk a) (hf : sFrobP a) : (redF a.p (a.n.toNat + a.n.toNat) (augL a)).length = a.n.toNat ∧ ∀ ld, RR a.p (a.n.toNat + a.n.toNat) (redF a.p (a.n.toNat + a.n.toNat) (augL a)) ld → ∀ i, i < a.n.toNat → ld i = i := by
  have hp2 := prime_bd ha.p
  have hn := ha.n
  have hle : (redF a.p (a.n.toNat + a.n.toNat) (augL a)).length ≤ a.n.toNat := by
    have := (redN_inv (p := a.p) (rows := augL a) (by omega) (augL_rw ha) (a.n.toNat + a.n.toNat)).2.2
    have e : (augL a).length = a.n.toNat := arr_len ..
    unfold redF; omega
  have hkz := kerZ_ech (m := a.n.toNat) ha.p (tabL_rw ha a.n.toNat) (by unfold sFrobP at hf; omega)
  have key : ∀ ld, RR a.p (a.n.toNat + a.n.toNat) (redF a.p (a.n.toNat + a.n.toNat) (augL a)) ld → ∀ c, c < a.n.toNat → ∃ i, i < (redF a.p (a.n.toNat + a.n.toNat) (augL a)).length ∧ ld i = c := by
    intro ld rr c hc
    apply Classical.byContradiction
    intro hno
    have hne : ∀ i, i < (redF a.p (a.n.toNat + a.n.toNat) (augL a)).length → ld i ≠ c := fun i hi e => hno ⟨i, hi, e⟩
    have hk := (redF_ker ha.p (augL_rw ha)).1 (kv_ker rr (by omega) hne)
    have hz : ∀ j, a.n.toNat ≤ j → j < a.n.toNat + a.n.toNat → kv a.p (redF a.p (a.n.toNat + a.n.toNat) (augL a)) ld c j = 0 := fun j hj hj2 => by
      by_cases e : ∃ i, i < (redF a.p (a.n.toNat + a.n.toNat) (augL a)).length ∧ ld i = j
      · obtain ⟨i, hi, rfl⟩ := e
        rw [kv_ld rr hi (hne i hi), (rr.lead i hi).2.2 c (by omega)]; simp
      · exact kv_no (by omega) (fun i hi e' => e ⟨i, hi, e'⟩)
    have hkt : Ker a.p a.n.toNat (tabL a a.n.toNat) (kv a.p (redF a.p (a.n.toNat + a.n.toNat) (augL a)) ld c) := ker_tab.2 fun i hi => by
      have h1 := hk (augR a i) (by unfold augL arr; exact List.mem_map.2 ⟨i, by simpa using hi, rfl⟩)
      rw [dot_split, sumN_zero fun k hk => by rw [hz _ (by omega) (by omega), Int.mul_zero], Int.add_zero] at h1
      rw [← h1]
      congr 1
      exact sumN_ext fun j hj => by unfold augR; rw [if_pos hj]
    have := hkz _ (kv_rw hp2.1) hkt c hc
    rw [kv_c] at this; omega
  have fin : ∀ ld, RR a.p (a.n.toNat + a.n.toNat) (redF a.p (a.n.toNat + a.n.toNat) (augL a)) ld → (redF a.p (a.n.toNat + a.n.toNat) (augL a)).length = a.n.toNat ∧ ∀ i, i < a.n.toNat → ld i = i := by
    intro ld rr
    have kk := key ld rr
    have hge : ∀ c, c < a.n.toNat → ∃ i, i < (redF a.p (a.n.toNat + a.n.toNat) (augL a)).length ∧ ld i = c ∧ c ≤ i := by
      intro c
      induction c with
      | zero => intro hc; obtain ⟨i, hi, e⟩ := kk 0 hc; exact ⟨i, hi, e, by omega⟩
      | succ c ih =>
        intro hc
        obtain ⟨i, hi, e, hle⟩ := ih (by omega)
        obtain ⟨i', hi', e'⟩ := kk (c + 1) hc
        refine ⟨i', hi', e', ?_⟩
        rcases Nat.lt_trichotomy i i' with t | t | t
        · omega
        · subst t; omega
        · have := rr.sort i' i t hi; omega
    have hlen : (redF a.p (a.n.toNat + a.n.toNat) (augL a)).length = a.n.toNat := by
      obtain ⟨i, hi, _, hle⟩ := hge (a.n.toNat - 1) (by omega); omega
    refine ⟨hlen, fun i hi => ?_⟩
    obtain ⟨i', hi', e', hle'⟩ := hge i hi
    have h1 := rr.ld_ge i (by omega)
    rcases Nat.lt_trichotomy i i' with t | t | t
    · have := rr.sort i i' t hi'; omega
    · subst t; exact e'
    · omega
  obtain ⟨ld, rr⟩ := redF_rr (m := a.n.toNat + a.n.toNat) ha.p (augL_rw ha)
  exact ⟨(fin ld rr).1, fun ld rr => (fin ld rr).2⟩
def copB (a : Alg) (k j : Nat) : Int := (redF a.p (a.n.toNat + a.n.toNat) (augL a)).getD k Z (a.n.toNat + j)
theorem cop_dot {a : Alg} (ha : AlgOk a) (hf : sFrobP a) {k : Nat} (hk : k < a.n.toNat) {u v : Row} : dot (a.n.toNat + a.n.toNat) ((redF a.p (a.n.toNat + a.n.toNat) (augL a)).getD k Z) (two a.n.toNat u v) = u k + dot a.n.toNat (copB a k) v := by
  obtain ⟨hl, hld⟩ := cop_rr ha hf
  obtain ⟨ld, rr⟩ := redF_rr (m := a.n.toNat + a.n.toNat) ha.p (augL_rw ha)
  have hld := hld ld rr
  rw [dot_two]
  congr 1
  unfold dot
  rw [sumN_one' (i := k) hk fun i hi hne => ?_]
  · have := (rr.lead k (by omega)).2.1
    rw [hld k hk] at this
    rw [this, Int.one_mul]
  · have := rr.zero i k (by omega) (by omega) hne
    rw [hld i hi] at this
    rw [this, Int.zero_mul]
def neg1 (j : Nat) : Row := fun i => if i = j then -1 else 0
theorem dot_neg1 {n : Nat} {r : Row} {j : Nat} (hj : j < n) : dot n r (neg1 j) = -(r j) := by
  unfold dot
  rw [sumN_one' (i := j) hj fun k _ hne => by unfold neg1; rw [if_neg hne, Int.mul_zero]]
  unfold neg1; rw [if_pos rfl]; omega
theorem sAug_rw {a : Alg} (ha : AlgOk a) (j : Nat) : RwL a.p (arr a.n.toNat (sAug a j)) := fun r hr => by
  have hp2 := prime_bd ha.p
  simp only [arr, List.mem_map] at hr
  obtain ⟨i', _, rfl⟩ := hr
  intro q
  unfold sAug
  split
  · exact tabR_rw ha i' q
  · split <;> omega
theorem sol_col {a : Alg} {j : Nat} {v : Row} : Sol a.p a.n.toNat (arr a.n.toNat (sAug a j)) v ↔ ∀ i, i < a.n.toNat → (dot a.n.toNat (tabR a i) v + neg1 j i) % a.p = 0 := by
  have key : ∀ i, (dot a.n.toNat (sAug a j i) v % a.p = sAug a j i a.n.toNat % a.p ↔ (dot a.n.toNat (tabR a i) v + neg1 j i) % a.p = 0) := fun i => by
    have e1 : dot a.n.toNat (sAug a j i) v = dot a.n.toNat (tabR a i) v := sumN_ext fun q hq => by unfold sAug; rw [if_pos hq]
    have e2 : sAug a j i a.n.toNat = -(neg1 j i) := by
      unfold sAug neg1
      rw [if_neg (Nat.lt_irrefl _)]
      split <;> rfl
    rw [e1, e2, Int.emod_eq_emod_iff_emod_sub_eq_zero, Int.sub_neg]
  rw [sol_iff]
  constructor
  · intro h i hi
    exact (key i).1 (h _ (by unfold arr; exact List.mem_map.2 ⟨i, by simpa using hi, rfl⟩))
  · intro h r hr
    unfold arr at hr
    obtain ⟨i, hi, rfl⟩ := List.mem_map.1 hr
    exact (key i).2 (h i (by simpa using hi))
theorem copB_rw {a : Alg} (ha : AlgOk a) (k : Nat) : Rw a.p (copB a k) := fun j => by
  have hp2 := prime_bd ha.p
  obtain ⟨ld, rr⟩ := redF_rr (m := a.n.toNat + a.n.toNat) ha.p (augL_rw ha)
  exact rr.rw.get (by omega) k _
theorem col_eq {a : Alg} (ha : AlgOk a) (hf : sFrobP a) {j : Nat} (hj : j < a.n.toNat) : ∃ s, sCol a j = some s ∧ ∀ i, i < a.n.toNat → s i = copB a i j := by
  have hp2 := prime_bd ha.p
  have hn := ha.n
  obtain ⟨hl, _⟩ := cop_rr ha hf
  have hkz := kerZ_ech (m := a.n.toNat) ha.p (tabL_rw ha a.n.toNat) (by unfold sFrobP at hf; omega)
  have h1 : Sol a.p a.n.toNat (arr a.n.toNat (sAug a j)) (fun i => copB a i j) := sol_col.2 <| ker_aug.1 <| (redF_ker ha.p (augL_rw ha)).1 fun r hr => by
    obtain ⟨k, hk, rfl⟩ := mem_getD hr
    rw [cop_dot ha hf (by omega), dot_neg1 hj, Int.add_right_neg]; simp
  have hne : arr a.n.toNat (sAug a j) ≠ [] := fun e => by
    have := congrArg List.length e
    rw [arr_len] at this
    simp at this; omega
  refine sSolve_of ha.p (sAug_rw ha j) hne h1 (fun i => copB_rw ha i j) fun v hv hs i hi => ?_
  have h2 := sol_col.1 hs
  have h3 := sol_col.1 h1
  have hk : Ker a.p a.n.toNat (tabL a a.n.toNat) (fun i => (v i - copB a i j) % a.p) := ker_tab.2 fun i hi => by
    have e : dot a.n.toNat (tabR a i) (fun i => (v i - copB a i j) % a.p) % a.p = dot a.n.toNat (tabR a i) (fun i => v i - copB a i j) % a.p := dot_mod fun i _ => cg_mod _ _
    rw [e, dot_sub]
    have e0 : (0 : Int) % a.p = 0 := by simp
    have h2' : (dot a.n.toNat (tabR a i) v + neg1 j i) % a.p = 0 % a.p := by rw [h2 i hi, e0]
    have h3' : (dot a.n.toNat (tabR a i) (fun i => copB a i j) + neg1 j i) % a.p = 0 % a.p := by rw [h3 i hi, e0]
    have := cg_sub h2' h3'
    rw [show dot a.n.toNat (tabR a i) v - dot a.n.toNat (tabR a i) (fun i => copB a i j) = dot a.n.toNat (tabR a i) v + neg1 j i - (dot a.n.toNat (tabR a i) (fun i => copB a i j) + neg1 j i) by omega, this]
    simp
  have h4 := hkz _ (fun i => mod_bd _ (by omega)) hk i hi
  have h5 := (Int.emod_eq_emod_iff_emod_sub_eq_zero (m := v i) (n := a.p) (k := copB a i j)).2 h4
  rw [rw_mod hv, rw_mod (copB_rw ha i)] at h5
  exact h5
theorem sCol_some {a : Alg} (ha : AlgOk a) (hf : sFrobP a) : ∀ j, j < a.n.toNat → (sCol a j).isSome = true := fun j hj => by
  obtain ⟨s, hs, _⟩ := col_eq ha hf hj
  rw [hs]; rfl
theorem iCop_len2 {a : Alg} (ha : AlgOk a) (hf : sFrobP a) : (iCop a).length = a.n.toNat := by
  unfold iCop
  rw [List.length_map]
  exact (cop_rr ha hf).1
theorem cop_same {a : Alg} (ha : AlgOk a) (hf : sFrobP a) {k l : Nat} (hk : k < a.n.toNat) (hl : l < a.n.toNat) : (iCop a).getD k Z l = sCop a k l := by
  obtain ⟨s, hs, he⟩ := col_eq ha hf hl
  have hlen := (cop_rr ha hf).1
  unfold sCop
  rw [hs]
  show _ = s k
  rw [he k hk]
  unfold iCop
  rw [getD_map (by omega)]; rfl
theorem pairC_ext {p : Int} {B C : Nat → Row} {of : Nat → Nat → Nat → Int} {k : Nat} : ∀ {acc : Nat → Int} (l : Nat), (∀ j, j < l → B k j = C k j) → pairC p B of acc k l = pairC p C of acc k l
  | _, 0, _ => rfl
  | acc, l + 1, h => by
    unfold pairC
    rw [pairC_ext l (fun j hj => h j (by omega)), h l (by omega)]
theorem pairR_ext {p : Int} {B C : Nat → Row} {of : Nat → Nat → Nat → Int} {n : Nat} : ∀ k, (∀ i j, i < k → j < n → B i j = C i j) → pairR p B of n k = pairR p C of n k
  | 0, _ => rfl
  | k + 1, h => by
    unfold pairR
    rw [pairR_ext k (fun i j hi hj => h i j (by omega) hj), pairC_ext n (fun j hj => h k j (by omega) hj)]
end Go.X
