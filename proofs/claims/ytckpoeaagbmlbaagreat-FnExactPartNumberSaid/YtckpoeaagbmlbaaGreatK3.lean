import Derived.Test.YtckpoeaagbmlbaaGreatM2
import Derived.Test.YtckpoeaagbmlbaaGreatK2
set_option linter.all false
namespace Go.X
open Go Go.RowKit
theorem Z_rw {p : Int} (hp : 1 ≤ p) : Rw p Z := fun j => by show (0 : Int) ≤ 0 ∧ (0 : Int) < p; omega
theorem splice_whole {l m : List D} (h : m.length = l.length) : splice l 0 m = m := by
  unfold splice
  rw [List.take_zero, List.nil_append, h, Nat.zero_add, List.drop_length, List.append_nil]
theorem can_sub {P : Program} {f : FuncId} {as bs : List D} {r : Res} (h : Can P f as r) (hr : r.isPost = false) (hl : bs.length = as.length) (hs : ∀ (i : Nat) (a b : D), as[i]? = some a → bs[i]? = some b → ∀ W F v, Sees W F b v → Sees W F a v) : Can P f bs r := by
  obtain ⟨hp, hc⟩ := h.toD hr
  refine CanD.can ⟨hp, fun w F vs hF hv hsee => hc w F vs hF (by omega) fun i x v hx hv' => ?_⟩ hr
  have hi : i < bs.length := by
    have := (List.getElem?_eq_some_iff.1 hx).1; omega
  exact hs i x _ hx (List.getElem?_eq_getElem hi) w F v (hsee i _ v (List.getElem?_eq_getElem hi) hv')
theorem emp_lst {W : World} {F : Nat → Prop} {v : Value} {sz : Nat} (h : Sees W F .emp v) : Sees W F (.lst sz []) v := by
  cases h; exact .lnil _ _ _
theorem can_emp1 {P : Program} {f : FuncId} {a : D} {sz : Nat} {r : Res} (h : Can P f [a, .lst sz []] r) (hr : r.isPost = false) : Can P f [a, .emp] r :=
  can_sub h hr rfl fun i x y hx hy W F v hv => by
    match i, hx, hy with
    | 0, hx, hy => simp at hx hy; subst hx hy; exact hv
    | 1, hx, hy => simp at hx hy; subst hx hy; exact emp_lst hv
    | i + 2, hx, hy => simp at hx
theorem rd_st6 {v : Nat → Int} : sub2 (([[.int .u8 0, .int .u8 0, .int .u8 0, .int .u8 0, .int .u8 0, .int .u8 0]] : List (List D)).set 0 (splice [.int .u8 0, .int .u8 0, .int .u8 0, .int .u8 0, .int .u8 0, .int .u8 0] 0 (vecL v))) 0 0 6 = some (vecL v) := rd_stall rfl
end Go.X
namespace Go.X
open Go Go.RowKit
end Go.X
namespace Go.X
open Go Go.RowKit
theorem kv_far {p : Int} {m : Nat} {L : List Row} {ld : Nat → Nat} (h : RR p m L ld) {c : Nat} (hne : ∀ i, i < L.length → ld i ≠ c) {j : Nat} (hj : c < j) : kv p L ld c j = 0 := by
  by_cases e : ∃ i, i < L.length ∧ ld i = j
  · obtain ⟨i, hi, rfl⟩ := e
    rw [kv_ld h hi (hne i hi), (h.lead i hi).2.2 c hj]; simp
  · exact kv_no (by omega) fun i hi e' => e ⟨i, hi, e'⟩
theorem rr_lead {p : Int} {m : Nat} {L : List Row} {ld : Nat → Nat} (h : RR p m L ld) (hp : 2 ≤ p) {c : Nat} (hc : c < m) :
    (∃ i, i < L.length ∧ ld i = c) ↔ ∀ z, Rw p z → Ker p m L z → (∀ j, c < j → j < m → z j = 0) → z c = 0 := by
  constructor
  · rintro ⟨i, hi, rfl⟩ z hz hk hf
    have h1 := hk _ (getD_mem hi)
    obtain ⟨a1, a2, a3⟩ := h.lead i hi
    unfold dot at h1
    rw [sumN_one' (i := ld i) hc fun k hkm hne => by
      rcases Nat.lt_or_ge k (ld i) with g | g
      · rw [a3 k g, Int.zero_mul]
      · rw [hf k (by omega) hkm, Int.mul_zero], a2, Int.one_mul] at h1
    rwa [rw_mod hz] at h1
  · intro g
    apply Classical.byContradiction
    intro hno
    have hne : ∀ i, i < L.length → ld i ≠ c := fun i hi e => hno ⟨i, hi, e⟩
    have := g _ (kv_rw hp) (kv_ker h hc hne) fun j hj _ => kv_far h hne hj
    rw [kv_c] at this; omega
theorem rr_seq {m : Nat} {A B : Nat} {f g : Nat → Nat} (hf : ∀ i j, i < j → j < A → f i < f j) (hg : ∀ i j, i < j → j < B → g i < g j) (h : ∀ i, i < A → ∃ j, j < B ∧ g j = f i) (h' : ∀ j, j < B → ∃ i, i < A ∧ f i = g j) :
    ∀ i, (i < A → i < B ∧ f i = g i) ∧ (i < B → i < A) := by
  intro i
  induction i using Nat.strongRecOn with
  | _ i ih =>
    have le1 : i < A → i < B ∧ g i ≤ f i := fun hi => by
      obtain ⟨j, hj, e⟩ := h i hi
      have : i ≤ j := by
        rcases Nat.lt_or_ge j i with c | c
        · have h1 := (ih j c).1 ((ih j c).2 hj)
          have := hf j i c hi
          omega
        · exact c
      refine ⟨by omega, ?_⟩
      rcases Nat.eq_or_lt_of_le this with c | c
      · subst c; omega
      · have := hg i j c hj; omega
    have le2 : i < B → i < A ∧ f i ≤ g i := fun hi => by
      obtain ⟨j, hj, e⟩ := h' i hi
      have : i ≤ j := by
        rcases Nat.lt_or_ge j i with c | c
        · have h1 := (ih j c).1 hj
          have := hg j i c hi
          omega
        · exact c
      refine ⟨by omega, ?_⟩
      rcases Nat.eq_or_lt_of_le this with c | c
      · subst c; omega
      · have := hf i j c hj; omega
    exact ⟨fun hi => ⟨(le1 hi).1, by have := (le1 hi).2; have := (le2 (le1 hi).1).2; omega⟩, fun hi => (le2 hi).1⟩
theorem rr_unique {p : Int} {m : Nat} {L M : List Row} {ld ld' : Nat → Nat} (hp : 2 ≤ p) (h : RR p m L ld) (h' : RR p m M ld') (hk : ∀ z, Ker p m L z ↔ Ker p m M z) :
    L.length = M.length ∧ ∀ i, i < L.length → ∀ j, j < m → L.getD i Z j = M.getD i Z j := by
  have hs : ∀ c, c < m → ((∃ i, i < L.length ∧ ld i = c) ↔ ∃ i, i < M.length ∧ ld' i = c) := fun c hc => by
    rw [rr_lead h hp hc, rr_lead h' hp hc]
    exact forall_congr' fun z => forall_congr' fun _ => by rw [hk z]
  have hseq := rr_seq (m := m) (f := ld) (g := ld') h.sort h'.sort (fun i hi => (hs _ (h.lead i hi).1).1 ⟨i, hi, rfl⟩) (fun j hj => (hs _ (h'.lead j hj).1).2 ⟨j, hj, rfl⟩)
  have hlen : L.length = M.length := by
    rcases Nat.lt_trichotomy L.length M.length with c | c | c
    · have := (hseq L.length).2 c; omega
    · exact c
    · have := ((hseq M.length).1 c).1; omega
  refine ⟨hlen, fun i hi j hj => ?_⟩
  have hld : ∀ q, q < L.length → ld q = ld' q := fun q hq => ((hseq q).1 hq).2
  by_cases e : ∃ q, q < L.length ∧ ld q = j
  · obtain ⟨q, hq, rfl⟩ := e
    by_cases c : q = i
    · subst c
      rw [(h.lead q hq).2.1, hld q hq, (h'.lead q (by omega)).2.1]
    · rw [h.zero q i hq hi c, hld q hq, h'.zero q i (by omega) (by omega) c]
  · have hne : ∀ q, q < L.length → ld q ≠ j := fun q hq c => e ⟨q, hq, c⟩
    have h1 := (hk _).1 (kv_ker h hj hne) _ (getD_mem (show i < M.length by omega))
    have hl : ld i < m := (h.lead i hi).1
    unfold dot at h1
    rw [sumN_two (i := ld i) (j := j) hl hj (hne i hi) fun k hk1 hk2 hk3 => by
      by_cases g : ∃ q, q < L.length ∧ ld q = k
      · obtain ⟨q, hq, rfl⟩ := g
        have : q ≠ i := fun c => hk2 (by rw [c])
        rw [hld q hq, h'.zero q i (by omega) (by omega) this, Int.zero_mul]
      · rw [kv_no hk3 fun q hq c => g ⟨q, hq, c⟩, Int.mul_zero]] at h1
    have e1 : M.getD i Z (ld i) = 1 := by rw [hld i hi]; exact (h'.lead i (by omega)).2.1
    rw [e1, Int.one_mul, kv_c, Int.mul_one, kv_ld h hi (hne i hi)] at h1
    have h2 : (-(L.getD i Z j) + M.getD i Z j) % p = 0 := by
      rw [← h1]; exact (cg_add (cg_mod p _) rfl).symm
    have r1 := h.rw _ (getD_mem hi) j
    have r2 := h'.rw _ (getD_mem (show i < M.length by omega)) j
    have h3 : (M.getD i Z j - L.getD i Z j) % p = 0 := by rw [← h2]; congr 1; omega
    have h4 := (Int.emod_eq_emod_iff_emod_sub_eq_zero (m := M.getD i Z j) (n := p) (k := L.getD i Z j)).2 h3
    rw [Int.emod_eq_of_lt r2.1 r2.2, Int.emod_eq_of_lt r1.1 r1.2] at h4
    exact h4.symm
theorem red_ech {p : Int} {m : Nat} {L M : List Row} (hp : p ∈ primes) (hL : RwL p L) (hM : RwL p M) (hk : ∀ z, Ker p m L z ↔ Ker p m M z) : rowsL m (redF p m L) = rowsL m (echF p m M) := by
  obtain ⟨ld, r1⟩ := redF_rr (m := m) hp hL
  obtain ⟨ld', r2⟩ := echF_rr (m := m) hp hM
  obtain ⟨h1, h2⟩ := rr_unique (prime_bd hp).1 r1 r2 fun z => (redF_ker hp hL).trans ((hk z).trans (echF_ker hp hM).symm)
  exact rowsL_ext h1 h2
end Go.X
namespace Go.X
open Go Go.RowKit
theorem sumN_comm {f : Nat → Nat → Int} {n : Nat} : ∀ m, sumN m (fun i => sumN n fun j => f i j) = sumN n fun j => sumN m fun i => f i j
  | 0 => (sumN_zero fun _ _ => rfl).symm
  | m + 1 => by
    simp only [sumN]
    rw [sumN_comm m, ← sumN_add]
theorem times_lt {a : Alg} {v w : Nat → Int} {k : Nat} (hk : k < a.n.toNat) : timesV a v w k = tsum a v w k a.n.toNat % a.p := by
  unfold timesV; rw [if_pos (by omega)]
theorem times_ge {a : Alg} {v w : Nat → Int} {k : Nat} (hk : a.n ≤ (k : Int)) : timesV a v w k = 0 := by
  unfold timesV; rw [if_neg (by omega)]
theorem times_l {a : Alg} {v : Nat → Int} {m k : Nat} (hm : m < a.n.toNat) (hk : k < a.n.toNat) : timesV a v (basV m) k = dot a.n.toNat (fun i => a.T i m k) v % a.p := by
  rw [times_lt hk]
  unfold tsum dot
  congr 1
  refine sumN_ext fun i _ => ?_
  rw [sumN_one (i := m) hm fun j h => by simp [basV, h]]
  simp [basV, Int.mul_comm]
theorem times_r {a : Alg} {v : Nat → Int} {m k : Nat} (hm : m < a.n.toNat) (hk : k < a.n.toNat) : timesV a (basV m) v k = dot a.n.toNat (fun i => a.T m i k) v % a.p := by
  rw [times_lt hk]
  unfold tsum dot
  congr 1
  rw [sumN_one (i := m) hm fun i h => sumN_zero fun j _ => by simp [basV, h]]
  refine sumN_ext fun j _ => ?_
  simp [basV, Int.mul_comm]
def LU (a : Alg) (v : Nat → Int) : Prop := ∀ m k, m < a.n.toNat → k < a.n.toNat → timesV a v (basV m) k = basV m k
def RU (a : Alg) (v : Nat → Int) : Prop := ∀ m k, m < a.n.toNat → k < a.n.toNat → timesV a (basV m) v k = basV m k
theorem basV_mod {p : Int} (hp : 2 ≤ p) (m k : Nat) : basV m k % p = basV m k := by
  unfold basV; split
  · exact Int.emod_eq_of_lt (by omega) (by omega)
  · simp
theorem unit_eq {a : Alg} {u v : Nat → Int} (hp : 2 ≤ a.p) (hu : Rw a.p u) (hv : Rw a.p v) (hl : LU a v) (hr : RU a u) : ∀ k, k < a.n.toNat → v k = u k := by
  intro k hk
  have e1 : (sumN a.n.toNat fun i => sumN a.n.toNat fun j => v i * (u j * a.T i j k)) % a.p = v k := by
    have : (sumN a.n.toNat fun i => sumN a.n.toNat fun j => v i * (u j * a.T i j k)) % a.p = (sumN a.n.toNat fun i => v i * basV i k) % a.p := sumN_mod fun i hi => by
      rw [sumN_mul]
      have h1 := hr i k hi hk
      rw [times_r hi hk] at h1
      refine cg_mul rfl ?_
      rw [basV_mod hp, ← h1]
      unfold dot
      rw [sumN_ext (n := a.n.toNat) (f := fun j => u j * a.T i j k) (g := fun j => a.T i j k * u j) fun j _ => Int.mul_comm ..]
    rw [this, sumN_one (i := k) hk fun i h => by simp [basV, Ne.symm h]]
    simp only [basV, if_true, Int.mul_one]
    exact rw_mod hv k
  have e2 : (sumN a.n.toNat fun i => sumN a.n.toNat fun j => v i * (u j * a.T i j k)) % a.p = u k := by
    rw [sumN_comm]
    have : (sumN a.n.toNat fun j => sumN a.n.toNat fun i => v i * (u j * a.T i j k)) % a.p = (sumN a.n.toNat fun j => u j * basV j k) % a.p := sumN_mod fun j hj => by
      have h1 := hl j k hj hk
      rw [times_l hj hk] at h1
      rw [sumN_ext (n := a.n.toNat) (f := fun i => v i * (u j * a.T i j k)) (g := fun i => u j * (a.T i j k * v i)) fun i _ => by rw [Int.mul_comm (v i), Int.mul_assoc], sumN_mul]
      refine cg_mul rfl ?_
      rw [basV_mod hp, ← h1]; rfl
    rw [this, sumN_one (i := k) hk fun i h => by simp [basV, Ne.symm h]]
    simp only [basV, if_true, Int.mul_one]
    exact rw_mod hu k
  rw [← e1, e2]
theorem LU.ext {a : Alg} {u v : Nat → Int} (h : LU a u) (e : ∀ i, i < a.n.toNat → v i = u i) : LU a v := fun m k hm hk => by
  rw [times_l hm hk, ← h m k hm hk, times_l hm hk]
  unfold dot
  rw [sumN_ext fun i hi => by rw [e i hi]]
theorem RU.ext {a : Alg} {u v : Nat → Int} (h : RU a u) (e : ∀ i, i < a.n.toNat → v i = u i) : RU a v := fun m k hm hk => by
  rw [times_r hm hk, ← h m k hm hk, times_r hm hk]
  unfold dot
  rw [sumN_ext fun i hi => by rw [e i hi]]
theorem mem_findIn {a : Alg} {i : Nat} {r : Row} : ∀ {k}, r ∈ findIn a i k ↔ ∃ k', k' < k ∧ r = findR a i k'
  | 0 => ⟨(fun h => by cases h), (fun ⟨_, h, _⟩ => by omega)⟩
  | k + 1 => by
    unfold findIn
    rw [List.mem_append, mem_findIn, List.mem_singleton]
    constructor
    · rintro (⟨k', h, e⟩ | e)
      · exact ⟨k', by omega, e⟩
      · exact ⟨k, by omega, e⟩
    · rintro ⟨k', h, e⟩
      by_cases c : k' = k
      · subst c; exact .inr e
      · exact .inl ⟨k', by omega, e⟩
theorem mem_findOut {a : Alg} {r : Row} : ∀ {m}, r ∈ findOut a m ↔ ∃ i k, i < m ∧ k < a.n.toNat ∧ r = findR a i k
  | 0 => ⟨(fun h => by cases h), (fun ⟨_, _, h, _⟩ => by omega)⟩
  | m + 1 => by
    unfold findOut
    rw [List.mem_append, mem_findOut, mem_findIn]
    constructor
    · rintro (⟨i, k, h, h2, e⟩ | ⟨k, h, e⟩)
      · exact ⟨i, k, by omega, h2, e⟩
      · exact ⟨m, k, by omega, h, e⟩
    · rintro ⟨i, k, h, h2, e⟩
      by_cases c : i = m
      · subst c; exact .inr ⟨k, h2, e⟩
      · exact .inl ⟨i, k, by omega, h2, e⟩
theorem sol_find {a : Alg} (hp : 2 ≤ a.p) {v : Row} : Sol a.p a.n.toNat (findOut a a.n.toNat) v ↔ LU a v := by
  have key : ∀ i k, i < a.n.toNat → k < a.n.toNat → (dot a.n.toNat (findR a i k) v % a.p = findR a i k a.n.toNat % a.p ↔ timesV a v (basV i) k = basV i k) := fun i k hi hk => by
    rw [times_l hi hk]
    have e1 : dot a.n.toNat (findR a i k) v = dot a.n.toNat (fun j => a.T j i k) v := sumN_ext fun j hj => by unfold findR; rw [if_pos hj]
    have e2 : findR a i k a.n.toNat % a.p = basV i k := by
      unfold findR
      rw [if_neg (by omega), ← basV_mod hp i k]
      congr 1
      unfold basV
      by_cases c : i = k
      · rw [if_pos c, if_pos c.symm]
      · rw [if_neg c, if_neg (fun e => c e.symm)]
    rw [e1, e2]
  rw [sol_iff]
  constructor
  · intro h m k hm hk
    exact (key m k hm hk).1 (h _ (mem_findOut.2 ⟨m, k, hm, hk, rfl⟩))
  · intro h r hr
    obtain ⟨i, k, hi, hk, rfl⟩ := mem_findOut.1 hr
    exact (key i k hi hk).2 (h i k hi hk)
def iRows (a : Alg) : List Row := arr (2 * a.n.toNat * a.n.toNat) (fullR (uM a) uT a.n.toNat)
theorem iRows_rw {a : Alg} (ha : AlgOk a) : RwL a.p (iRows a) := by
  have hp2 := prime_bd ha.p
  exact fullR_rw (fun q i k => uM_rw (by omega) q i k) (fun q k => uT_rw hp2.1 q k)
theorem iFind_eq (a : Alg) : iFindF a = (iSolveF a.p a.n.toNat (iRows a)).map (vecR a.n.toNat) := rfl
theorem sol_ifind {a : Alg} (ha : AlgOk a) {v : Row} : Sol a.p a.n.toNat (iRows a) v ↔ LU a v ∧ RU a v := by
  have hp2 := prime_bd ha.p
  have hn := ha.n
  have key : ∀ q k, q < 2 * a.n.toNat → k < a.n.toNat → fullR (uM a) uT a.n.toNat (q * a.n.toNat + k) = fun i => if i < a.n.toNat then uM a q i k else uT q k := fun q k hq hk => by
    funext i
    unfold fullR
    have hdiv : (q * a.n.toNat + k) / a.n.toNat = q := by rw [Nat.mul_comm, Nat.mul_add_div (by omega), Nat.div_eq_of_lt hk, Nat.add_zero]
    have hmod : (q * a.n.toNat + k) % a.n.toNat = k := by rw [Nat.mul_comm, Nat.mul_add_mod, Nat.mod_eq_of_lt hk]
    rw [hdiv, hmod]
  have k0 : ∀ m k, m < a.n.toNat → k < a.n.toNat → (dot a.n.toNat (fullR (uM a) uT a.n.toNat (2 * m * a.n.toNat + k)) v % a.p = fullR (uM a) uT a.n.toNat (2 * m * a.n.toNat + k) a.n.toNat % a.p ↔ timesV a v (basV m) k = basV m k) := fun m k hm hk => by
    rw [key (2 * m) k (by omega) hk, times_l hm hk]
    dsimp only
    rw [if_neg (Nat.lt_irrefl _)]
    have e1 : dot a.n.toNat (fun i => if i < a.n.toNat then uM a (2 * m) i k else uT (2 * m) k) v = dot a.n.toNat (fun j => a.T j m k) v := sumN_ext fun j hj => by
      dsimp only
      rw [if_pos hj]
      unfold uM
      rw [if_pos (by omega), show 2 * m / 2 = m by omega, bas_times ha (by omega) (by omega)]
    rw [e1]
    unfold uT
    rw [show 2 * m / 2 = m by omega, basV_mod hp2.1]
  have k1 : ∀ m k, m < a.n.toNat → k < a.n.toNat → (dot a.n.toNat (fullR (uM a) uT a.n.toNat ((2 * m + 1) * a.n.toNat + k)) v % a.p = fullR (uM a) uT a.n.toNat ((2 * m + 1) * a.n.toNat + k) a.n.toNat % a.p ↔ timesV a (basV m) v k = basV m k) := fun m k hm hk => by
    rw [key (2 * m + 1) k (by omega) hk, times_r hm hk]
    dsimp only
    rw [if_neg (Nat.lt_irrefl _)]
    have e1 : dot a.n.toNat (fun i => if i < a.n.toNat then uM a (2 * m + 1) i k else uT (2 * m + 1) k) v = dot a.n.toNat (fun j => a.T m j k) v := sumN_ext fun j hj => by
      dsimp only
      rw [if_pos hj]
      unfold uM
      rw [if_neg (by omega), show (2 * m + 1) / 2 = m by omega, bas_times ha (by omega) (by omega)]
    rw [e1]
    unfold uT
    rw [show (2 * m + 1) / 2 = m by omega, basV_mod hp2.1]
  have mem : ∀ q k, q < 2 * a.n.toNat → k < a.n.toNat → fullR (uM a) uT a.n.toNat (q * a.n.toNat + k) ∈ iRows a := fun q k hq hk => by
    unfold iRows arr
    refine List.mem_map.2 ⟨q * a.n.toNat + k, ?_, rfl⟩
    rw [List.mem_range]
    have h1 : (q + 1) * a.n.toNat ≤ 2 * a.n.toNat * a.n.toNat := Nat.mul_le_mul_right _ (by omega)
    rw [Nat.add_mul, Nat.one_mul] at h1
    omega
  rw [sol_iff]
  constructor
  · intro h
    exact ⟨fun m k hm hk => (k0 m k hm hk).1 (h _ (mem (2 * m) k (by omega) hk)), fun m k hm hk => (k1 m k hm hk).1 (h _ (mem (2 * m + 1) k (by omega) hk))⟩
  · rintro ⟨h0, h1⟩ r hr
    unfold iRows arr at hr
    obtain ⟨y, hy, rfl⟩ := List.mem_map.1 hr
    rw [List.mem_range] at hy
    have hk : y % a.n.toNat < a.n.toNat := Nat.mod_lt _ (by omega)
    have hq : y / a.n.toNat < 2 * a.n.toNat := Nat.div_lt_of_lt_mul (by rw [Nat.mul_comm]; exact hy)
    have e : y = y / a.n.toNat * a.n.toNat + y % a.n.toNat := by rw [Nat.mul_comm]; exact (Nat.div_add_mod ..).symm
    generalize y / a.n.toNat = q at *
    generalize y % a.n.toNat = k at *
    subst e
    rcases Nat.mod_two_eq_zero_or_one q with c | c
    · obtain ⟨m, rfl⟩ : ∃ m, q = 2 * m := ⟨q / 2, by omega⟩
      exact (k0 m k (by omega) hk).2 (h0 m k (by omega) hk)
    · obtain ⟨m, rfl⟩ : ∃ m, q = 2 * m + 1 := ⟨q / 2, by omega⟩
      exact (k1 m k (by omega) hk).2 (h1 m k (by omega) hk)
theorem vecR_lt {n : Nat} {r : Row} {i : Nat} (h : i < n) : vecR n r i = r i := by unfold vecR; rw [if_pos h]
theorem iFind_two {a : Alg} (ha : AlgOk a) {u : Nat → Int} (h : iFindF a = some u) : LU a u ∧ RU a u ∧ Rw a.p u ∧ ∀ i, a.n.toNat ≤ i → u i = 0 := by
  have hp2 := prime_bd ha.p
  rw [iFind_eq] at h
  cases hs : iSolveF a.p a.n.toNat (iRows a) with
  | none => rw [hs] at h; cases h
  | some r =>
    rw [hs] at h
    simp only [Option.map_some, Option.some.injEq] at h
    subst h
    obtain ⟨h1, h2⟩ := (sol_ifind ha).1 (iSolve_some ha.p (iRows_rw ha) hs)
    exact ⟨h1.ext fun i hi => vecR_lt hi, h2.ext fun i hi => vecR_lt hi, vecR_rw (by omega) (iSolve_rw ha.p (iRows_rw ha) hs), fun i hi => by unfold vecR; rw [if_neg (by omega)]⟩
theorem iFind_of {a : Alg} (ha : AlgOk a) {u : Nat → Int} (h1 : LU a u) (h2 : RU a u) : (iFindF a).isSome = true := by
  have := iSolve_none ha.p (iRows_rw ha) ((sol_ifind ha).2 ⟨h1, h2⟩)
  rw [iFind_eq]
  cases hs : iSolveF a.p a.n.toNat (iRows a) with
  | none => rw [hs] at this; cases this
  | some r => rfl
theorem find_two {a : Alg} (ha : AlgOk a) {u : Nat → Int} (h : findF a = some u) : LU a u ∧ RU a u := by
  have hp2 := prime_bd ha.p
  have hn := ha.n
  unfold findF at h
  cases hs : sSolveF a.p a.n.toNat (findOut a a.n.toNat) with
  | none => rw [hs] at h; cases h
  | some r =>
    rw [hs] at h
    dsimp only at h
    split at h
    · rename_i hc
      simp only [Option.some.injEq] at h
      subst h
      have h1 := (sol_find hp2.1).1 (sSolve_some ha.p (m_findOut_rw ha _) hs)
      exact ⟨h1.ext fun i hi => vecR_lt hi, fun m k hm hk => hc m hm k (by omega)⟩
    · cases h
theorem find_of {a : Alg} (ha : AlgOk a) {u : Nat → Int} (h1 : LU a u) (h2 : RU a u) (hu : Rw a.p u) : ∃ s, findF a = some s ∧ (∀ i, i < a.n.toNat → s i = u i) ∧ ∀ i, a.n.toNat ≤ i → s i = 0 := by
  have hp2 := prime_bd ha.p
  have hn := ha.n
  have hne : findOut a a.n.toNat ≠ [] := fun e => by
    have : findR a 0 0 ∈ findOut a a.n.toNat := mem_findOut.2 ⟨0, 0, by omega, by omega, rfl⟩
    rw [e] at this; cases this
  obtain ⟨s, hs, he⟩ := sSolve_of ha.p (m_findOut_rw ha _) hne ((sol_find hp2.1).2 h1) hu fun v hv hsv => unit_eq hp2.1 hu hv ((sol_find hp2.1).1 hsv) h2
  refine ⟨vecR a.n.toNat s, ?_, fun i hi => by rw [vecR_lt hi]; exact he i hi, fun i hi => by unfold vecR; rw [if_neg (by omega)]⟩
  unfold findF
  rw [hs]
  dsimp only
  rw [if_pos]
  intro i hi k hk
  rcases Nat.lt_or_ge k a.n.toNat with c | c
  · exact (h2.ext (v := vecR a.n.toNat s) fun i hi => by rw [vecR_lt hi]; exact he i hi) i k hi c
  · rw [times_ge (by omega)]
    unfold basV; rw [if_neg (by omega)]
theorem unit_same {a : Alg} (ha : AlgOk a) : ((iFindF a).isSome = true ↔ (findF a).isSome = true) ∧ iUnit a = sUnit a := by
  unfold iUnit sUnit
  cases hi : iFindF a with
  | some u =>
    obtain ⟨h1, h2, h3, h4⟩ := iFind_two ha hi
    obtain ⟨s, hs, e1, e2⟩ := find_of ha h1 h2 h3
    rw [hs]
    refine ⟨⟨fun _ => rfl, fun _ => rfl⟩, funext fun i => ?_⟩
    show u i = s i
    rcases Nat.lt_or_ge i a.n.toNat with c | c
    · exact (e1 i c).symm
    · rw [h4 i c, e2 i c]
  | none =>
    cases hs : findF a with
    | none => exact ⟨Iff.rfl, rfl⟩
    | some s =>
      obtain ⟨h1, h2⟩ := find_two ha hs
      have := iFind_of ha h1 h2
      rw [hi] at this; cases this
end Go.X
