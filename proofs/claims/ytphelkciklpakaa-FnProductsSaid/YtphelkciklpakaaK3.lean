import Derived.Test.YtphelkciklpakaaK2
import Derived.Test.YtphelkciklpakaaM1
set_option linter.all false
namespace Go.X
open Go Go.RowKit
end Go.X
namespace Go.X
open Go Go.RowKit
theorem splice_whole {l m : List D} (h : m.length = l.length) : splice l 0 m = m := by
  unfold splice
  rw [List.take_zero, List.nil_append, h, Nat.zero_add, List.drop_length, List.append_nil]
theorem can_sub {P : Program} {f : FuncId} {as bs : List D} {r : Res} (h : Can P f as r) (hr : r.isPost = false) (hl : bs.length = as.length) (hs : ∀ (i : Nat) (a b : D), as[i]? = some a → bs[i]? = some b → ∀ W F v, Sees W F b v → Sees W F a v) : Can P f bs r := by
  obtain ⟨hp, hc⟩ := h.toD hr
  refine CanD.can ⟨hp, fun w F vs hF hv hsee => hc w F vs hF (by omega) fun i x v hx hv' => ?_⟩ hr
  have hi : i < bs.length := by
    have := (List.getElem?_eq_some_iff.1 hx).1; omega
  exact hs i x _ hx (List.getElem?_eq_getElem hi) w F v (hsee i _ v (List.getElem?_eq_getElem hi) hv')
theorem emp_lst {W : World} {F : Nat → Prop} {v : Value} {sz : Nat} (h : Sees W F .emp v) : Sees W F (.lst sz []) v := by
  cases h; exact .lnil _ _ _
theorem can_emp1 {P : Program} {f : FuncId} {a : D} {sz : Nat} {r : Res} (h : Can P f [a, .lst sz []] r) (hr : r.isPost = false) : Can P f [a, .emp] r :=
  can_sub h hr rfl fun i x y hx hy W F v hv => by
    match i, hx, hy with
    | 0, hx, hy => simp at hx hy; subst hx hy; exact hv
    | 1, hx, hy => simp at hx hy; subst hx hy; exact emp_lst hv
    | i + 2, hx, hy => simp at hx
end Go.X
namespace Go.X
open Go Go.RowKit
end Go.X
namespace Go.X
open Go Go.RowKit
theorem sumN_comm {f : Nat → Nat → Int} {n : Nat} : ∀ m, sumN m (fun i => sumN n fun j => f i j) = sumN n fun j => sumN m fun i => f i j
  | 0 => (sumN_zero fun _ _ => rfl).symm
  | m + 1 => by
    simp only [sumN]
    rw [sumN_comm m, ← sumN_add]
theorem times_lt {a : Alg} {v w : Nat → Int} {k : Nat} (hk : k < a.n.toNat) : timesV a v w k = tsum a v w k a.n.toNat % a.p := by
  unfold timesV; rw [if_pos (by omega)]
theorem times_ge {a : Alg} {v w : Nat → Int} {k : Nat} (hk : a.n ≤ (k : Int)) : timesV a v w k = 0 := by
  unfold timesV; rw [if_neg (by omega)]
theorem times_l {a : Alg} {v : Nat → Int} {m k : Nat} (hm : m < a.n.toNat) (hk : k < a.n.toNat) : timesV a v (basV m) k = dot a.n.toNat (fun i => a.T i m k) v % a.p := by
  rw [times_lt hk]
  unfold tsum dot
  congr 1
  refine sumN_ext fun i _ => ?_
  rw [sumN_one (i := m) hm fun j h => by simp [basV, h]]
  simp [basV, Int.mul_comm]
theorem times_r {a : Alg} {v : Nat → Int} {m k : Nat} (hm : m < a.n.toNat) (hk : k < a.n.toNat) : timesV a (basV m) v k = dot a.n.toNat (fun i => a.T m i k) v % a.p := by
  rw [times_lt hk]
  unfold tsum dot
  congr 1
  rw [sumN_one (i := m) hm fun i h => sumN_zero fun j _ => by simp [basV, h]]
  refine sumN_ext fun j _ => ?_
  simp [basV, Int.mul_comm]
def LU (a : Alg) (v : Nat → Int) : Prop := ∀ m k, m < a.n.toNat → k < a.n.toNat → timesV a v (basV m) k = basV m k
def RU (a : Alg) (v : Nat → Int) : Prop := ∀ m k, m < a.n.toNat → k < a.n.toNat → timesV a (basV m) v k = basV m k
theorem basV_mod {p : Int} (hp : 2 ≤ p) (m k : Nat) : basV m k % p = basV m k := by
  unfold basV; split
  · exact Int.emod_eq_of_lt (by omega) (by omega)
  · simp
theorem unit_eq {a : Alg} {u v : Nat → Int} (hp : 2 ≤ a.p) (hu : Rw a.p u) (hv : Rw a.p v) (hl : LU a v) (hr : RU a u) : ∀ k, k < a.n.toNat → v k = u k := by
  intro k hk
  have e1 : (sumN a.n.toNat fun i => sumN a.n.toNat fun j => v i * (u j * a.T i j k)) % a.p = v k := by
    have : (sumN a.n.toNat fun i => sumN a.n.toNat fun j => v i * (u j * a.T i j k)) % a.p = (sumN a.n.toNat fun i => v i * basV i k) % a.p := sumN_mod fun i hi => by
      rw [sumN_mul]
      have h1 := hr i k hi hk
      rw [times_r hi hk] at h1
      refine cg_mul rfl ?_
      rw [basV_mod hp, ← h1]
      unfold dot
      rw [sumN_ext (n := a.n.toNat) (f := fun j => u j * a.T i j k) (g := fun j => a.T i j k * u j) fun j _ => Int.mul_comm ..]
    rw [this, sumN_one (i := k) hk fun i h => by simp [basV, Ne.symm h]]
    simp only [basV, if_true, Int.mul_one]
    exact rw_mod hv k
  have e2 : (sumN a.n.toNat fun i => sumN a.n.toNat fun j => v i * (u j * a.T i j k)) % a.p = u k := by
    rw [sumN_comm]
    have : (sumN a.n.toNat fun j => sumN a.n.toNat fun i => v i * (u j * a.T i j k)) % a.p = (sumN a.n.toNat fun j => u j * basV j k) % a.p := sumN_mod fun j hj => by
      have h1 := hl j k hj hk
      rw [times_l hj hk] at h1
      rw [sumN_ext (n := a.n.toNat) (f := fun i => v i * (u j * a.T i j k)) (g := fun i => u j * (a.T i j k * v i)) fun i _ => by rw [Int.mul_comm (v i), Int.mul_assoc], sumN_mul]
      refine cg_mul rfl ?_
      rw [basV_mod hp, ← h1]; rfl
    rw [this, sumN_one (i := k) hk fun i h => by simp [basV, Ne.symm h]]
    simp only [basV, if_true, Int.mul_one]
    exact rw_mod hu k
  rw [← e1, e2]
theorem LU.ext {a : Alg} {u v : Nat → Int} (h : LU a u) (e : ∀ i, i < a.n.toNat → v i = u i) : LU a v := fun m k hm hk => by
  rw [times_l hm hk, ← h m k hm hk, times_l hm hk]
  unfold dot
  rw [sumN_ext fun i hi => by rw [e i hi]]
theorem RU.ext {a : Alg} {u v : Nat → Int} (h : RU a u) (e : ∀ i, i < a.n.toNat → v i = u i) : RU a v := fun m k hm hk => by
  rw [times_r hm hk, ← h m k hm hk, times_r hm hk]
  unfold dot
  rw [sumN_ext fun i hi => by rw [e i hi]]
theorem mem_findIn {a : Alg} {i : Nat} {r : Row} : ∀ {k}, r ∈ findIn a i k ↔ ∃ k', k' < k ∧ r = findR a i k'
  | 0 => ⟨(fun h => by cases h), (fun ⟨_, h, _⟩ => by omega)⟩
  | k + 1 => by
    unfold findIn
    rw [List.mem_append, mem_findIn, List.mem_singleton]
    constructor
    · rintro (⟨k', h, e⟩ | e)
      · exact ⟨k', by omega, e⟩
      · exact ⟨k, by omega, e⟩
    · rintro ⟨k', h, e⟩
      by_cases c : k' = k
      · subst c; exact .inr e
      · exact .inl ⟨k', by omega, e⟩
theorem mem_findOut {a : Alg} {r : Row} : ∀ {m}, r ∈ findOut a m ↔ ∃ i k, i < m ∧ k < a.n.toNat ∧ r = findR a i k
  | 0 => ⟨(fun h => by cases h), (fun ⟨_, _, h, _⟩ => by omega)⟩
  | m + 1 => by
    unfold findOut
    rw [List.mem_append, mem_findOut, mem_findIn]
    constructor
    · rintro (⟨i, k, h, h2, e⟩ | ⟨k, h, e⟩)
      · exact ⟨i, k, by omega, h2, e⟩
      · exact ⟨m, k, by omega, h, e⟩
    · rintro ⟨i, k, h, h2, e⟩
      by_cases c : i = m
      · subst c; exact .inr ⟨k, h2, e⟩
      · exact .inl ⟨i, k, by omega, h2, e⟩
theorem sol_find {a : Alg} (hp : 2 ≤ a.p) {v : Row} : Sol a.p a.n.toNat (findOut a a.n.toNat) v ↔ LU a v := by
  have key : ∀ i k, i < a.n.toNat → k < a.n.toNat → (dot a.n.toNat (findR a i k) v % a.p = findR a i k a.n.toNat % a.p ↔ timesV a v (basV i) k = basV i k) := fun i k hi hk => by
    rw [times_l hi hk]
    have e1 : dot a.n.toNat (findR a i k) v = dot a.n.toNat (fun j => a.T j i k) v := sumN_ext fun j hj => by unfold findR; rw [if_pos hj]
    have e2 : findR a i k a.n.toNat % a.p = basV i k := by
      unfold findR
      rw [if_neg (by omega), ← basV_mod hp i k]
      congr 1
      unfold basV
      by_cases c : i = k
      · rw [if_pos c, if_pos c.symm]
      · rw [if_neg c, if_neg (fun e => c e.symm)]
    rw [e1, e2]
  rw [sol_iff]
  constructor
  · intro h m k hm hk
    exact (key m k hm hk).1 (h _ (mem_findOut.2 ⟨m, k, hm, hk, rfl⟩))
  · intro h r hr
    obtain ⟨i, k, hi, hk, rfl⟩ := mem_findOut.1 hr
    exact (key i k hi hk).2 (h i k hi hk)
def iRows (a : Alg) : List Row := arr (2 * a.n.toNat * a.n.toNat) (fullR (uM a) uT a.n.toNat)
theorem iRows_rw {a : Alg} (ha : AlgOk a) : RwL a.p (iRows a) := by
  have hp2 := prime_bd ha.p
  exact fullR_rw (fun q i k => uM_rw (by omega) q i k) (fun q k => uT_rw hp2.1 q k)
theorem iFind_eq (a : Alg) : iFindF a = (iSolveF a.p a.n.toNat (iRows a)).map (vecR a.n.toNat) := rfl
theorem sol_ifind {a : Alg} (ha : AlgOk a) {v : Row} : Sol a.p a.n.toNat (iRows a) v ↔ LU a v ∧ RU a v := by
  have hp2 := prime_bd ha.p
  have hn := ha.n
  have key : ∀ q k, q < 2 * a.n.toNat → k < a.n.toNat → fullR (uM a) uT a.n.toNat (q * a.n.toNat + k) = fun i => if i < a.n.toNat then uM a q i k else uT q k := fun q k hq hk => by
    funext i
    unfold fullR
    have hdiv : (q * a.n.toNat + k) / a.n.toNat = q := by rw [Nat.mul_comm, Nat.mul_add_div (by omega), Nat.div_eq_of_lt hk, Nat.add_zero]
    have hmod : (q * a.n.toNat + k) % a.n.toNat = k := by rw [Nat.mul_comm, Nat.mul_add_mod, Nat.mod_eq_of_lt hk]
    rw [hdiv, hmod]
  have k0 : ∀ m k, m < a.n.toNat → k < a.n.toNat → (dot a.n.toNat (fullR (uM a) uT a.n.toNat (2 * m * a.n.toNat + k)) v % a.p = fullR (uM a) uT a.n.toNat (2 * m * a.n.toNat + k) a.n.toNat % a.p ↔ timesV a v (basV m) k = basV m k) := fun m k hm hk => by
    rw [key (2 * m) k (by omega) hk, times_l hm hk]
    dsimp only
    rw [if_neg (Nat.lt_irrefl _)]
    have e1 : dot a.n.toNat (fun i => if i < a.n.toNat then uM a (2 * m) i k else uT (2 * m) k) v = dot a.n.toNat (fun j => a.T j m k) v := sumN_ext fun j hj => by
      dsimp only
      rw [if_pos hj]
      unfold uM
      rw [if_pos (by omega), show 2 * m / 2 = m by omega, bas_times ha (by omega) (by omega)]
    rw [e1]
    unfold uT
    rw [show 2 * m / 2 = m by omega, basV_mod hp2.1]
  have k1 : ∀ m k, m < a.n.toNat → k < a.n.toNat → (dot a.n.toNat (fullR (uM a) uT a.n.toNat ((2 * m + 1) * a.n.toNat + k)) v % a.p = fullR (uM a) uT a.n.toNat ((2 * m + 1) * a.n.toNat + k) a.n.toNat % a.p ↔ timesV a (basV m) v k = basV m k) := fun m k hm hk => by
    rw [key (2 * m + 1) k (by omega) hk, times_r hm hk]
    dsimp only
    rw [if_neg (Nat.lt_irrefl _)]
    have e1 : dot a.n.toNat (fun i => if i < a.n.toNat then uM a (2 * m + 1) i k else uT (2 * m + 1) k) v = dot a.n.toNat (fun j => a.T m j k) v := sumN_ext fun j hj => by
      dsimp only
      rw [if_pos hj]
      unfold uM
      rw [if_neg (by omega), show (2 * m + 1) / 2 = m by omega, bas_times ha (by omega) (by omega)]
    rw [e1]
    unfold uT
    rw [show (2 * m + 1) / 2 = m by omega, basV_mod hp2.1]
  have mem : ∀ q k, q < 2 * a.n.toNat → k < a.n.toNat → fullR (uM a) uT a.n.toNat (q * a.n.toNat + k) ∈ iRows a := fun q k hq hk => by
    unfold iRows arr
    refine List.mem_map.2 ⟨q * a.n.toNat + k, ?_, rfl⟩
    rw [List.mem_range]
    have h1 : (q + 1) * a.n.toNat ≤ 2 * a.n.toNat * a.n.toNat := Nat.mul_le_mul_right _ (by omega)
    rw [Nat.add_mul, Nat.one_mul] at h1
    omega
  rw [sol_iff]
  constructor
  · intro h
    exact ⟨fun m k hm hk => (k0 m k hm hk).1 (h _ (mem (2 * m) k (by omega) hk)), fun m k hm hk => (k1 m k hm hk).1 (h _ (mem (2 * m + 1) k (by omega) hk))⟩
  · rintro ⟨h0, h1⟩ r hr
    unfold iRows arr at hr
    obtain ⟨y, hy, rfl⟩ := List.mem_map.1 hr
    rw [List.mem_range] at hy
    have hk : y % a.n.toNat < a.n.toNat := Nat.mod_lt _ (by omega)
    have hq : y / a.n.toNat < 2 * a.n.toNat := Nat.div_lt_of_lt_mul (by rw [Nat.mul_comm]; exact hy)
    have e : y = y / a.n.toNat * a.n.toNat + y % a.n.toNat := by rw [Nat.mul_comm]; exact (Nat.div_add_mod ..).symm
    generalize y / a.n.toNat = q at *
    generalize y % a.n.toNat = k at *
    subst e
    rcases Nat.mod_two_eq_zero_or_one q with c | c
    · obtain ⟨m, rfl⟩ : ∃ m, q = 2 * m := ⟨q / 2, by omega⟩
      exact (k0 m k (by omega) hk).2 (h0 m k (by omega) hk)
    · obtain ⟨m, rfl⟩ : ∃ m, q = 2 * m + 1 := ⟨q / 2, by omega⟩
      exact (k1 m k (by omega) hk).2 (h1 m k (by omega) hk)
theorem vecR_lt {n : Nat} {r : Row} {i : Nat} (h : i < n) : vecR n r i = r i := by unfold vecR; rw [if_pos h]
theorem iFind_two {a : Alg} (ha : AlgOk a) {u : Nat → Int} (h : iFindF a = some u) : LU a u ∧ RU a u ∧ Rw a.p u ∧ ∀ i, a.n.toNat ≤ i → u i = 0 := by
  have hp2 := prime_bd ha.p
  rw [iFind_eq] at h
  cases hs : iSolveF a.p a.n.toNat (iRows a) with
  | none => rw [hs] at h; cases h
  | some r =>
    rw [hs] at h
    simp only [Option.map_some, Option.some.injEq] at h
    subst h
    obtain ⟨h1, h2⟩ := (sol_ifind ha).1 (iSolve_some ha.p (iRows_rw ha) hs)
    exact ⟨h1.ext fun i hi => vecR_lt hi, h2.ext fun i hi => vecR_lt hi, vecR_rw (by omega) (iSolve_rw ha.p (iRows_rw ha) hs), fun i hi => by unfold vecR; rw [if_neg (by omega)]⟩
theorem iFind_of {a : Alg} (ha : AlgOk a) {u : Nat → Int} (h1 : LU a u) (h2 : RU a u) : (iFindF a).isSome = true := by
  have := iSolve_none ha.p (iRows_rw ha) ((sol_ifind ha).2 ⟨h1, h2⟩)
  rw [iFind_eq]
  cases hs : iSolveF a.p a.n.toNat (iRows a) with
  | none => rw [hs] at this; cases this
  | some r => rfl
theorem find_two {a : Alg} (ha : AlgOk a) {u : Nat → Int} (h : findF a = some u) : LU a u ∧ RU a u := by
  have hp2 := prime_bd ha.p
  have hn := ha.n
  unfold findF at h
  cases hs : sSolveF a.p a.n.toNat (findOut a a.n.toNat) with
  | none => rw [hs] at h; cases h
  | some r =>
    rw [hs] at h
    dsimp only at h
    split at h
    · rename_i hc
      simp only [Option.some.injEq] at h
      subst h
      have h1 := (sol_find hp2.1).1 (sSolve_some ha.p (m_findOut_rw ha _) hs)
      exact ⟨h1.ext fun i hi => vecR_lt hi, fun m k hm hk => hc m hm k (by omega)⟩
    · cases h
theorem find_of {a : Alg} (ha : AlgOk a) {u : Nat → Int} (h1 : LU a u) (h2 : RU a u) (hu : Rw a.p u) : ∃ s, findF a = some s ∧ (∀ i, i < a.n.toNat → s i = u i) ∧ ∀ i, a.n.toNat ≤ i → s i = 0 := by
  have hp2 := prime_bd ha.p
  have hn := ha.n
  have hne : findOut a a.n.toNat ≠ [] := fun e => by
    have : findR a 0 0 ∈ findOut a a.n.toNat := mem_findOut.2 ⟨0, 0, by omega, by omega, rfl⟩
    rw [e] at this; cases this
  obtain ⟨s, hs, he⟩ := sSolve_of ha.p (m_findOut_rw ha _) hne ((sol_find hp2.1).2 h1) hu fun v hv hsv => unit_eq hp2.1 hu hv ((sol_find hp2.1).1 hsv) h2
  refine ⟨vecR a.n.toNat s, ?_, fun i hi => by rw [vecR_lt hi]; exact he i hi, fun i hi => by unfold vecR; rw [if_neg (by omega)]⟩
  unfold findF
  rw [hs]
  dsimp only
  rw [if_pos]
  intro i hi k hk
  rcases Nat.lt_or_ge k a.n.toNat with c | c
  · exact (h2.ext (v := vecR a.n.toNat s) fun i hi => by rw [vecR_lt hi]; exact he i hi) i k hi c
  · rw [times_ge (by omega)]
    unfold basV; rw [if_neg (by omega)]
theorem unit_same {a : Alg} (ha : AlgOk a) : ((iFindF a).isSome = true ↔ (findF a).isSome = true) ∧ iUnit a = sUnit a := by
  unfold iUnit sUnit
  cases hi : iFindF a with
  | some u =>
    obtain ⟨h1, h2, h3, h4⟩ := iFind_two ha hi
    obtain ⟨s, hs, e1, e2⟩ := find_of ha h1 h2 h3
    rw [hs]
    refine ⟨⟨fun _ => rfl, fun _ => rfl⟩, funext fun i => ?_⟩
    show u i = s i
    rcases Nat.lt_or_ge i a.n.toNat with c | c
    · exact (e1 i c).symm
    · rw [h4 i c, e2 i c]
  | none =>
    cases hs : findF a with
    | none => exact ⟨Iff.rfl, rfl⟩
    | some s =>
      obtain ⟨h1, h2⟩ := find_two ha hs
      have := iFind_of ha h1 h2
      rw [hi] at this; cases this
end Go.X
