import Derived.Test.YtehopmcogekcoaaM3
import Derived.Test.YtehopmcogekcoaaX5
set_option linter.all false
namespace Go.X
open Go Go.RowKit
theorem dot_sub (m : Nat) (r z y : Row) : dot m r (fun i => z i - y i) = dot m r z - dot m r y := by
  unfold dot
  rw [Int.sub_eq_add_neg, show -(sumN m fun i => r i * y i) = -1 * sumN m fun i => r i * y i from by omega, ← sumN_mul, ← sumN_add]
  refine sumN_ext fun i _ => ?_
  rw [Int.mul_sub]; omega
theorem dot_mod {p : Int} {m : Nat} {r z y : Row} (h : ∀ i, i < m → z i % p = y i % p) : dot m r z % p = dot m r y % p := sumN_mod fun i hi => cg_mul rfl (h i hi)
theorem sumN_two {f : Nat → Int} {i j : Nat} {n : Nat} (hi : i < n) (hj : j < n) (hij : i ≠ j) (h : ∀ k, k < n → k ≠ i → k ≠ j → f k = 0) : sumN n f = f i + f j := by
  have e : sumN n f = sumN n (fun k => (if k = i then f k else 0) + (if k = j then f k else 0)) := sumN_ext fun k hk => by
    by_cases h1 : k = i
    · subst h1; rw [if_pos rfl, if_neg hij]; omega
    · by_cases h2 : k = j
      · subst h2; rw [if_neg h1, if_pos rfl]; omega
      · rw [if_neg h1, if_neg h2, h k hk h1 h2]; rfl
  rw [e, sumN_add, sumN_one (i := i) hi (fun k hk => by rw [if_neg hk]), sumN_one (i := j) hj (fun k hk => by rw [if_neg hk]), if_pos rfl, if_pos rfl]
theorem sumN_one' {f : Nat → Int} {i n : Nat} (hi : i < n) (h : ∀ k, k < n → k ≠ i → f k = 0) : sumN n f = f i := by
  have e : sumN n f = sumN n (fun k => if k = i then f k else 0) := sumN_ext fun k hk => by
    by_cases h1 : k = i
    · rw [if_pos h1]
    · rw [if_neg h1, h k hk h1]
  rw [e, sumN_one (i := i) hi (fun k hk => by rw [if_neg hk]), if_pos rfl]
theorem RR.ld_ne {p : Int} {m : Nat} {L : List Row} {ld : Nat → Nat} (h : RR p m L ld) {i j : Nat} (hi : i < L.length) (hj : j < L.length) (hij : i ≠ j) : ld i ≠ ld j := by
  rcases Nat.lt_or_gt_of_ne hij with c | c
  · have := h.sort i j c hj; omega
  · have := h.sort j i c hi; omega
theorem RR.ld_ge {p : Int} {m : Nat} {L : List Row} {ld : Nat → Nat} (h : RR p m L ld) : ∀ i, i < L.length → i ≤ ld i
  | 0, _ => Nat.zero_le _
  | i + 1, hi => by have := h.ld_ge i (by omega); have := h.sort i (i + 1) (by omega) hi; omega
theorem RR.len_le {p : Int} {m : Nat} {L : List Row} {ld : Nat → Nat} (h : RR p m L ld) : L.length ≤ m := by
  rcases Nat.lt_or_ge m L.length with c | c
  · have := h.ld_ge m c; have := (h.lead m c).1; omega
  · exact c
def kv (p : Int) (L : List Row) (ld : Nat → Nat) (c : Nat) : Row := fun j => if j = c then 1 else match (List.range L.length).find? (fun i => ld i == j) with
  | some i => -(L.getD i Z c) % p
  | none => 0
theorem kv_c {p : Int} {L : List Row} {ld : Nat → Nat} {c : Nat} : kv p L ld c c = 1 := by unfold kv; rw [if_pos rfl]
theorem kv_no {p : Int} {L : List Row} {ld : Nat → Nat} {c j : Nat} (hj : j ≠ c) (h : ∀ i, i < L.length → ld i ≠ j) : kv p L ld c j = 0 := by
  unfold kv
  rw [if_neg hj]
  have : (List.range L.length).find? (fun i => ld i == j) = none := by
    rw [List.find?_eq_none]
    intro i hi
    have := h i (by simpa using hi)
    simpa using this
  rw [this]
theorem kv_ld {p : Int} {m : Nat} {L : List Row} {ld : Nat → Nat} (hr : RR p m L ld) {c i : Nat} (hi : i < L.length) (hc : ld i ≠ c) : kv p L ld c (ld i) = -(L.getD i Z c) % p := by
  unfold kv
  rw [if_neg hc]
  have : (List.range L.length).find? (fun k => ld k == ld i) = some i := by
    rw [List.find?_eq_some_iff_getElem]
    refine ⟨by simp, i, by simpa using hi, by simp, fun k hk => ?_⟩
    have := hr.ld_ne (i := k) (j := i) (by omega) hi (by omega)
    simpa using this
  rw [this]
theorem kv_rw {p : Int} {L : List Row} {ld : Nat → Nat} {c : Nat} (hp : 2 ≤ p) : Rw p (kv p L ld c) := fun j => by
  unfold kv
  split
  · omega
  · split
    · exact mod_bd _ (by omega)
    · omega
theorem kv_ker {p : Int} {m : Nat} {L : List Row} {ld : Nat → Nat} (hr : RR p m L ld) {c : Nat} (hc : c < m) (h : ∀ i, i < L.length → ld i ≠ c) : Ker p m L (kv p L ld c) := fun r hrm => by
  obtain ⟨i, hi, rfl⟩ := mem_getD hrm
  obtain ⟨l1, l2, l3⟩ := hr.lead i hi
  unfold dot
  rw [sumN_two (i := ld i) (j := c) l1 hc (h i hi) fun k hk h1 h2 => ?_]
  · rw [l2, kv_c, kv_ld hr hi (h i hi), Int.one_mul, Int.mul_one]
    have : (-(L.getD i Z c) % p + L.getD i Z c) % p = (-(L.getD i Z c) + L.getD i Z c) % p := cg_add (cg_mod p _) rfl
    rw [this, Int.add_left_neg]; simp
  · by_cases e : ∃ i', i' < L.length ∧ ld i' = k
    · obtain ⟨i', hi', rfl⟩ := e
      have : i' ≠ i := fun e => h1 (by rw [e])
      rw [hr.zero i' i hi' hi this, Int.zero_mul]
    · rw [kv_no h2 (fun i' hi' e' => e ⟨i', hi', e'⟩), Int.mul_zero]
def KerZ (p : Int) (m : Nat) (L : List Row) : Prop := ∀ z, Rw p z → Ker p m L z → ∀ i, i < m → z i = 0
theorem RR.full {p : Int} {m : Nat} {L : List Row} {ld : Nat → Nat} (h : RR p m L ld) {n : Nat} (hl : L.length = n) (hb : ∀ i, i < n → ld i < n) : ∀ i, i < n → ld i = i := by
  intro i hi
  have h1 := h.ld_ge i (by omega)
  have key : ∀ d, ∀ i, i + d = n - 1 → ld i ≤ i ∨ n ≤ i := by
    intro d
    induction d with
    | zero => intro i hi; have := hb i; omega
    | succ d ih =>
      intro i hi
      have := ih (i + 1) (by omega)
      have := h.sort i (i + 1) (by omega)
      omega
  have := key (n - 1 - i) i (by omega)
  omega
theorem kerZ_len {p : Int} {m : Nat} {L : List Row} {ld : Nat → Nat} (hp : 2 ≤ p) (h : RR p m L ld) : L.length = m ↔ KerZ p m L := by
  constructor
  · intro hl z hz hk i hi
    have hf := h.full hl (fun i hi => (h.lead i (by omega)).1)
    have h1 := hk _ (getD_mem (L := L) (i := i) (by omega))
    unfold dot at h1
    rw [sumN_one' (i := i) hi fun k hk hne => ?_] at h1
    · have := (h.lead i (by omega)).2.1
      rw [hf i hi] at this
      rw [this, Int.one_mul, rw_mod hz] at h1
      exact h1
    · have := h.zero k i (by omega) (by omega) hne
      rw [hf k (by omega)] at this
      rw [this, Int.zero_mul]
  · intro hz
    have h1 := h.len_le
    rcases Nat.lt_or_ge L.length m with c | c
    · exfalso
      have : ∃ c, c < m ∧ ∀ i, i < L.length → ld i ≠ c := by
        apply Classical.byContradiction
        intro hn
        have hall : ∀ c, c < m → ∃ i, i < L.length ∧ ld i = c := fun c hc => Classical.byContradiction fun h' => hn ⟨c, hc, fun i hi e => h' ⟨i, hi, e⟩⟩
        have key : ∀ c, c < m → ∃ i, i < L.length ∧ ld i = c ∧ c ≤ i := by
          intro c
          induction c with
          | zero => intro hc; obtain ⟨i, hi, e⟩ := hall 0 hc; exact ⟨i, hi, e, by omega⟩
          | succ c ih =>
            intro hc
            obtain ⟨i, hi, e, hle⟩ := ih (by omega)
            obtain ⟨i', hi', e'⟩ := hall (c + 1) hc
            refine ⟨i', hi', e', ?_⟩
            rcases Nat.lt_trichotomy i i' with t | t | t
            · omega
            · subst t; omega
            · have := h.sort i' i t hi; omega
        obtain ⟨i, hi, _, hle⟩ := key (m - 1) (by omega)
        omega
      obtain ⟨c, hc, hne⟩ := this
      have := hz _ (kv_rw hp) (kv_ker h hc hne) c hc
      rw [kv_c] at this
      omega
    · omega
theorem rank_eq {p : Int} {m : Nat} {L : List Row} (hp : p ∈ primes) (hR : RwL p L) : (redF p m L).length = m ↔ (echF p m L).length = m := by
  have hp2 := prime_bd hp
  obtain ⟨l1, r1⟩ := redF_rr (m := m) hp hR
  obtain ⟨l2, r2⟩ := echF_rr (m := m) hp hR
  rw [kerZ_len hp2.1 r1, kerZ_len hp2.1 r2]
  unfold KerZ
  constructor <;> intro h z hz hk
  · exact h z hz ((redF_ker hp hR).2 ((echF_ker hp hR).1 hk))
  · exact h z hz ((echF_ker hp hR).2 ((redF_ker hp hR).1 hk))
theorem kerZ_ech {p : Int} {m : Nat} {L : List Row} (hp : p ∈ primes) (hR : RwL p L) (h : (echF p m L).length = m) : KerZ p m L := by
  have hp2 := prime_bd hp
  obtain ⟨l2, r2⟩ := echF_rr (m := m) hp hR
  exact fun z hz hk => (kerZ_len hp2.1 r2).1 h z hz ((echF_ker hp hR).2 hk)
def ext1 (n : Nat) (r : Row) : Row := fun i => if i < n then r i else -1
def Sol (p : Int) (n : Nat) (L : List Row) (r : Row) : Prop := Ker p (n + 1) L (ext1 n r)
theorem dot_ext1 (n : Nat) (r v : Row) : dot (n + 1) r (ext1 n v) = dot n r v - r n := by
  unfold dot
  rw [sumN]
  have : sumN n (fun i => r i * ext1 n v i) = sumN n fun i => r i * v i := sumN_ext fun i hi => by unfold ext1; rw [if_pos hi]
  rw [this]
  unfold ext1
  rw [if_neg (by omega), Int.mul_neg, Int.mul_one]; omega
theorem sol_iff {p : Int} {n : Nat} {L : List Row} {v : Row} : Sol p n L v ↔ ∀ r ∈ L, dot n r v % p = r n % p := by
  unfold Sol Ker
  constructor
  · intro h r hr
    have := h r hr
    rw [dot_ext1] at this
    exact Int.emod_eq_emod_iff_emod_sub_eq_zero.2 this
  · intro h r hr
    rw [dot_ext1]
    exact Int.emod_eq_emod_iff_emod_sub_eq_zero.1 (h r hr)
theorem sol_red {p : Int} {n : Nat} {L : List Row} {v : Row} (hp : p ∈ primes) (hR : RwL p L) : Sol p n (redF p (n + 1) L) v ↔ Sol p n L v := redF_ker hp hR
theorem sol_ech {p : Int} {n : Nat} {L : List Row} {v : Row} (hp : p ∈ primes) (hR : RwL p L) : Sol p n (echF p (n + 1) L) v ↔ Sol p n L v := echF_ker hp hR
theorem no_sol {p : Int} {n : Nat} {L : List Row} {ld : Nat → Nat} {v : Row} (hp : 2 ≤ p) (h : RR p (n + 1) L ld) (hs : Sol p n L v) {i : Nat} (hi : i < L.length) : ld i < n := by
  obtain ⟨l1, l2, l3⟩ := h.lead i hi
  rcases Nat.lt_or_ge (ld i) n with c | c
  · exact c
  · exfalso
    have e : ld i = n := by omega
    have := sol_iff.1 hs _ (getD_mem hi)
    rw [e] at l2 l3
    unfold dot at this
    rw [sumN_zero fun k hk => by rw [l3 k hk, Int.zero_mul], l2, Int.emod_eq_of_lt (by omega) (by omega), Int.emod_eq_of_lt (by omega) (by omega)] at this
    omega
theorem sol_of {p : Int} {n : Nat} {L : List Row} {ld : Nat → Nat} {v : Row} (h : RR p (n + 1) L ld) (hl : ∀ i, i < L.length → ld i < n) (h1 : ∀ i, i < L.length → v (ld i) = L.getD i Z n) (h2 : ∀ j, j < n → (∀ i, i < L.length → ld i ≠ j) → v j = 0) : Sol p n L v := sol_iff.2 fun r hr => by
  obtain ⟨i, hi, rfl⟩ := mem_getD hr
  obtain ⟨l1, l2, l3⟩ := h.lead i hi
  unfold dot
  rw [sumN_one' (i := ld i) (hl i hi) fun k hk hne => ?_]
  · rw [l2, Int.one_mul, h1 i hi]
  · by_cases e : ∃ i', i' < L.length ∧ ld i' = k
    · obtain ⟨i', hi', rfl⟩ := e
      have : i' ≠ i := fun e => hne (by rw [e])
      rw [h.zero i' i hi' hi this, Int.zero_mul]
    · rw [h2 k hk (fun i' hi' e' => e ⟨i', hi', e'⟩), Int.mul_zero]
theorem solN_ok {p : Int} {n : Nat} {L : List Row} {ld : Nat → Nat} (h : RR p (n + 1) L ld) (hl : ∀ i, i < L.length → ld i < n) : ∀ k, k ≤ L.length → ∃ o, solN n L k = some o ∧ (∀ i, i < k → o (ld i) = L.getD i Z n) ∧ ∀ j, (∀ i, i < k → ld i ≠ j) → o j = 0
  | 0, _ => ⟨Z, rfl, fun i hi => by omega, fun j _ => rfl⟩
  | k + 1, hk => by
    obtain ⟨o, e, h1, h2⟩ := solN_ok h hl k (by omega)
    have hld := (h.lead k (by omega)).leadF
    have := hl k (by omega)
    refine ⟨upd o (ld k) (L.getD k Z n), ?_, fun i hi => ?_, fun j hj => ?_⟩
    · unfold solN
      rw [e]
      dsimp only
      rw [hld, if_neg (by omega)]; rfl
    · by_cases c : i = k
      · subst c; exact upd_same ..
      · rw [upd_ne _ _ (h.ld_ne (by omega) (by omega) c)]; exact h1 i (by omega)
    · rw [upd_ne _ _ (fun e => hj k (by omega) e.symm)]; exact h2 j (fun i hi => hj i (by omega))
theorem solN_no {p : Int} {n : Nat} {L : List Row} {ld : Nat → Nat} (h : RR p (n + 1) L ld) : ∀ k, k ≤ L.length → ∀ o, solN n L k = some o → ∀ i, i < k → ld i < n
  | 0, _, _, _, i, hi => by omega
  | k + 1, hk, o, e, i, hi => by
    have hld := (h.lead k (by omega)).leadF
    have hb := (h.lead k (by omega)).1
    unfold solN at e
    split at e
    · cases e
    · rename_i o' e'
      split at e
      · cases e
      · rename_i hne
        rw [hld] at hne
        by_cases c : i = k
        · subst c; omega
        · exact solN_no h k (by omega) o' e' i (by omega)
theorem iSolve_some {p : Int} {n : Nat} {L : List Row} {r : Row} (hp : p ∈ primes) (hR : RwL p L) (h : iSolveF p n L = some r) : Sol p n L r := by
  obtain ⟨ld, rr⟩ := redF_rr (m := n + 1) hp hR
  unfold iSolveF at h
  have hl := solN_no rr _ (Nat.le_refl _) _ h
  obtain ⟨o, e, h1, h2⟩ := solN_ok rr hl _ (Nat.le_refl _)
  rw [e] at h
  simp only [Option.some.injEq] at h
  subst h
  exact (sol_red hp hR).1 (sol_of rr hl h1 fun j _ hj => h2 j hj)
theorem iSolve_none {p : Int} {n : Nat} {L : List Row} {r : Row} (hp : p ∈ primes) (hR : RwL p L) (hs : Sol p n L r) : (iSolveF p n L).isSome = true := by
  have hp2 := prime_bd hp
  obtain ⟨ld, rr⟩ := redF_rr (m := n + 1) hp hR
  have hs' := (sol_red hp hR).2 hs
  obtain ⟨o, e, _⟩ := solN_ok rr (fun i hi => no_sol hp2.1 rr hs' hi) _ (Nat.le_refl _)
  unfold iSolveF
  rw [e]; rfl
theorem sSolve_some {p : Int} {n : Nat} {L : List Row} {r : Row} (hp : p ∈ primes) (hR : RwL p L) (h : sSolveF p n L = some r) : Sol p n L r := by
  obtain ⟨ld, rr⟩ := echF_rr (m := n + 1) hp hR
  unfold sSolveF at h
  split at h
  · rename_i g
    obtain ⟨_, g2, g3⟩ := g
    simp only [Option.some.injEq] at h
    have hld : ∀ i, i < n → ld i = i := fun i hi => by
      have := (rr.lead i (by omega)).leadF
      rw [g3 i hi] at this; omega
    refine (sol_ech hp hR).1 (sol_of rr (fun i hi => by rw [hld i (by omega)]; omega) (fun i hi => ?_) fun j hj hn => absurd (hld j hj) (hn j (by omega)))
    rw [hld i (by omega), ← h]
  · cases h
theorem sSolve_of {p : Int} {n : Nat} {L : List Row} {r : Row} (hp : p ∈ primes) (hR : RwL p L) (hne : L ≠ []) (hs : Sol p n L r) (hr : Rw p r) (hu : ∀ v, Rw p v → Sol p n L v → ∀ i, i < n → v i = r i) : ∃ s, sSolveF p n L = some s ∧ ∀ i, i < n → s i = r i := by
  have hp2 := prime_bd hp
  obtain ⟨ld, rr⟩ := echF_rr (m := n + 1) hp hR
  have hs' := (sol_ech hp hR).2 hs
  have hl : ∀ i, i < (echF p (n + 1) L).length → ld i < n := fun i hi => no_sol hp2.1 rr hs' hi
  have hall : ∀ c, c < n → ∃ i, i < (echF p (n + 1) L).length ∧ ld i = c := fun c hc => by
    apply Classical.byContradiction
    intro hn
    have hk := kv_ker rr (c := c) (by omega) (fun i hi e => hn ⟨i, hi, e⟩)
    have hk' := (echF_ker hp hR).1 hk
    have hz : kv p (echF p (n + 1) L) ld c n = 0 := kv_no (by omega) (fun i hi e => by have := hl i hi; omega)
    have hsol : Sol p n L (fun i => (r i + kv p (echF p (n + 1) L) ld c i) % p) := sol_iff.2 fun x hx => by
      have h1 := sol_iff.1 hs x hx
      have h2 := hk' x hx
      unfold dot at h2
      rw [sumN, hz, Int.mul_zero, Int.add_zero] at h2
      have e : dot n x (fun i => (r i + kv p (echF p (n + 1) L) ld c i) % p) % p = dot n x (fun i => r i + kv p (echF p (n + 1) L) ld c i) % p := dot_mod fun i _ => cg_mod p _
      have e2 : dot n x (fun i => r i + kv p (echF p (n + 1) L) ld c i) = dot n x r + sumN n fun i => x i * kv p (echF p (n + 1) L) ld c i := by
        unfold dot
        rw [← sumN_add]
        exact sumN_ext fun i _ => Int.mul_add ..
      rw [e, e2, ← h1]
      have := cg_add (p := p) (a := dot n x r) rfl (show (sumN n fun i => x i * kv p (echF p (n + 1) L) ld c i) % p = 0 % p by rw [h2]; simp)
      rw [this, Int.add_zero]
    have := hu _ (fun i => mod_bd _ (by omega)) hsol c hc
    rw [kv_c] at this
    have h3 := hr c
    rcases Int.lt_or_le (r c + 1) p with t | t
    · rw [Int.emod_eq_of_lt (by omega) t] at this; omega
    · rw [show r c + 1 = p by omega, Int.emod_self] at this; omega
  have hge : ∀ c, c < n → ∃ i, i < (echF p (n + 1) L).length ∧ ld i = c ∧ c ≤ i := by
    intro c
    induction c with
    | zero => intro hc; obtain ⟨i, hi, e⟩ := hall 0 hc; exact ⟨i, hi, e, by omega⟩
    | succ c ih =>
      intro hc
      obtain ⟨i, hi, e, hle⟩ := ih (by omega)
      obtain ⟨i', hi', e'⟩ := hall (c + 1) hc
      refine ⟨i', hi', e', ?_⟩
      rcases Nat.lt_trichotomy i i' with t | t | t
      · omega
      · subst t; omega
      · have := rr.sort i' i t hi; omega
  have hlen : (echF p (n + 1) L).length = n := by
    have h1 : n ≤ (echF p (n + 1) L).length := by
      rcases Nat.eq_zero_or_pos n with c | c
      · omega
      · obtain ⟨i, hi, _, hle⟩ := hge (n - 1) (by omega); omega
    rcases Nat.lt_or_ge n (echF p (n + 1) L).length with c | c
    · have := rr.ld_ge n c; have := hl n c; omega
    · omega
  have hld := rr.full hlen (fun i hi => hl i (by omega))
  have e : sSolveF p n L = some fun i => (echF p (n + 1) L).getD i Z n := by
    unfold sSolveF
    rw [if_pos ⟨hne, hlen, fun i hi => by rw [(rr.lead i (by omega)).leadF, hld i hi]⟩]
  refine ⟨_, e, ?_⟩
  have hsol := sSolve_some hp hR e
  exact fun i hi => hu _ (fun i => rr.rw.get (by omega) i n) hsol i hi
end Go.X
namespace Go.X
open Go Go.RowKit
theorem sumN_comm {f : Nat → Nat → Int} {n : Nat} : ∀ m, sumN m (fun i => sumN n fun j => f i j) = sumN n fun j => sumN m fun i => f i j
  | 0 => (sumN_zero fun _ _ => rfl).symm
  | m + 1 => by
    simp only [sumN]
    rw [sumN_comm m, ← sumN_add]
theorem times_lt {a : Alg} {v w : Nat → Int} {k : Nat} (hk : k < a.n.toNat) : timesV a v w k = tsum a v w k a.n.toNat % a.p := by
  unfold timesV; rw [if_pos (by omega)]
theorem times_ge {a : Alg} {v w : Nat → Int} {k : Nat} (hk : a.n ≤ (k : Int)) : timesV a v w k = 0 := by
  unfold timesV; rw [if_neg (by omega)]
theorem times_l {a : Alg} {v : Nat → Int} {m k : Nat} (hm : m < a.n.toNat) (hk : k < a.n.toNat) : timesV a v (basV m) k = dot a.n.toNat (fun i => a.T i m k) v % a.p := by
  rw [times_lt hk]
  unfold tsum dot
  congr 1
  refine sumN_ext fun i _ => ?_
  rw [sumN_one (i := m) hm fun j h => by simp [basV, h]]
  simp [basV, Int.mul_comm]
theorem times_r {a : Alg} {v : Nat → Int} {m k : Nat} (hm : m < a.n.toNat) (hk : k < a.n.toNat) : timesV a (basV m) v k = dot a.n.toNat (fun i => a.T m i k) v % a.p := by
  rw [times_lt hk]
  unfold tsum dot
  congr 1
  rw [sumN_one (i := m) hm fun i h => sumN_zero fun j _ => by simp [basV, h]]
  refine sumN_ext fun j _ => ?_
  simp [basV, Int.mul_comm]
def LU (a : Alg) (v : Nat → Int) : Prop := ∀ m k, m < a.n.toNat → k < a.n.toNat → timesV a v (basV m) k = basV m k
def RU (a : Alg) (v : Nat → Int) : Prop := ∀ m k, m < a.n.toNat → k < a.n.toNat → timesV a (basV m) v k = basV m k
theorem basV_mod {p : Int} (hp : 2 ≤ p) (m k : Nat) : basV m k % p = basV m k := by
  unfold basV; split
  · exact Int.emod_eq_of_lt (by omega) (by omega)
  · simp
theorem unit_eq {a : Alg} {u v : Nat → Int} (hp : 2 ≤ a.p) (hu : Rw a.p u) (hv : Rw a.p v) (hl : LU a v) (hr : RU a u) : ∀ k, k < a.n.toNat → v k = u k := by
  intro k hk
  have e1 : (sumN a.n.toNat fun i => sumN a.n.toNat fun j => v i * (u j * a.T i j k)) % a.p = v k := by
    have : (sumN a.n.toNat fun i => sumN a.n.toNat fun j => v i * (u j * a.T i j k)) % a.p = (sumN a.n.toNat fun i => v i * basV i k) % a.p := sumN_mod fun i hi => by
      rw [sumN_mul]
      have h1 := hr i k hi hk
      rw [times_r hi hk] at h1
      refine cg_mul rfl ?_
      rw [basV_mod hp, ← h1]
      unfold dot
      rw [sumN_ext (n := a.n.toNat) (f := fun j => u j * a.T i j k) (g := fun j => a.T i j k * u j) fun j _ => Int.mul_comm ..]
    rw [this, sumN_one (i := k) hk fun i h => by simp [basV, Ne.symm h]]
    simp only [basV, if_true, Int.mul_one]
    exact rw_mod hv k
  have e2 : (sumN a.n.toNat fun i => sumN a.n.toNat fun j => v i * (u j * a.T i j k)) % a.p = u k := by
    rw [sumN_comm]
    have : (sumN a.n.toNat fun j => sumN a.n.toNat fun i => v i * (u j * a.T i j k)) % a.p = (sumN a.n.toNat fun j => u j * basV j k) % a.p := sumN_mod fun j hj => by
      have h1 := hl j k hj hk
      rw [times_l hj hk] at h1
      rw [sumN_ext (n := a.n.toNat) (f := fun i => v i * (u j * a.T i j k)) (g := fun i => u j * (a.T i j k * v i)) fun i _ => by rw [Int.mul_comm (v i), Int.mul_assoc], sumN_mul]
      refine cg_mul rfl ?_
      rw [basV_mod hp, ← h1]; rfl
    rw [this, sumN_one (i := k) hk fun i h => by simp [basV, Ne.symm h]]
    simp only [basV, if_true, Int.mul_one]
    exact rw_mod hu k
  rw [← e1, e2]
theorem LU.ext {a : Alg} {u v : Nat → Int} (h : LU a u) (e : ∀ i, i < a.n.toNat → v i = u i) : LU a v := fun m k hm hk => by
  rw [times_l hm hk, ← h m k hm hk, times_l hm hk]
  unfold dot
  rw [sumN_ext fun i hi => by rw [e i hi]]
theorem RU.ext {a : Alg} {u v : Nat → Int} (h : RU a u) (e : ∀ i, i < a.n.toNat → v i = u i) : RU a v := fun m k hm hk => by
  rw [times_r hm hk, ← h m k hm hk, times_r hm hk]
  unfold dot
  rw [sumN_ext fun i hi => by rw [e i hi]]
theorem mem_findIn {a : Alg} {i : Nat} {r : Row} : ∀ {k}, r ∈ findIn a i k ↔ ∃ k', k' < k ∧ r = findR a i k'
  | 0 => ⟨(fun h => by cases h), (fun ⟨_, h, _⟩ => by omega)⟩
  | k + 1 => by
    unfold findIn
    rw [List.mem_append, mem_findIn, List.mem_singleton]
    constructor
    · rintro (⟨k', h, e⟩ | e)
      · exact ⟨k', by omega, e⟩
      · exact ⟨k, by omega, e⟩
    · rintro ⟨k', h, e⟩
      by_cases c : k' = k
      · subst c; exact .inr e
      · exact .inl ⟨k', by omega, e⟩
theorem mem_findOut {a : Alg} {r : Row} : ∀ {m}, r ∈ findOut a m ↔ ∃ i k, i < m ∧ k < a.n.toNat ∧ r = findR a i k
  | 0 => ⟨(fun h => by cases h), (fun ⟨_, _, h, _⟩ => by omega)⟩
  | m + 1 => by
    unfold findOut
    rw [List.mem_append, mem_findOut, mem_findIn]
    constructor
    · rintro (⟨i, k, h, h2, e⟩ | ⟨k, h, e⟩)
      · exact ⟨i, k, by omega, h2, e⟩
      · exact ⟨m, k, by omega, h, e⟩
    · rintro ⟨i, k, h, h2, e⟩
      by_cases c : i = m
      · subst c; exact .inr ⟨k, h2, e⟩
      · exact .inl ⟨i, k, by omega, h2, e⟩
theorem sol_find {a : Alg} (hp : 2 ≤ a.p) {v : Row} : Sol a.p a.n.toNat (findOut a a.n.toNat) v ↔ LU a v := by
  have key : ∀ i k, i < a.n.toNat → k < a.n.toNat → (dot a.n.toNat (findR a i k) v % a.p = findR a i k a.n.toNat % a.p ↔ timesV a v (basV i) k = basV i k) := fun i k hi hk => by
    rw [times_l hi hk]
    have e1 : dot a.n.toNat (findR a i k) v = dot a.n.toNat (fun j => a.T j i k) v := sumN_ext fun j hj => by unfold findR; rw [if_pos hj]
    have e2 : findR a i k a.n.toNat % a.p = basV i k := by
      unfold findR
      rw [if_neg (by omega), ← basV_mod hp i k]
      congr 1
      unfold basV
      by_cases c : i = k
      · rw [if_pos c, if_pos c.symm]
      · rw [if_neg c, if_neg (fun e => c e.symm)]
    rw [e1, e2]
  rw [sol_iff]
  constructor
  · intro h m k hm hk
    exact (key m k hm hk).1 (h _ (mem_findOut.2 ⟨m, k, hm, hk, rfl⟩))
  · intro h r hr
    obtain ⟨i, k, hi, hk, rfl⟩ := mem_findOut.1 hr
    exact (key i k hi hk).2 (h i k hi hk)
def iRows (a : Alg) : List Row := arr (2 * a.n.toNat * a.n.toNat) (fullR (uM a) uT a.n.toNat)
theorem iRows_rw {a : Alg} (ha : AlgOk a) : RwL a.p (iRows a) := by
  have hp2 := prime_bd ha.p
  exact fullR_rw (fun q i k => uM_rw (by omega) q i k) (fun q k => uT_rw hp2.1 q k)
theorem iFind_eq (a : Alg) : iFindF a = (iSolveF a.p a.n.toNat (iRows a)).map (vecR a.n.toNat) := rfl
theorem sol_ifind {a : Alg} (ha : AlgOk a) {v : Row} : Sol a.p a.n.toNat (iRows a) v ↔ LU a v ∧ RU a v := by
  have hp2 := prime_bd ha.p
  have hn := ha.n
  have key : ∀ q k, q < 2 * a.n.toNat → k < a.n.toNat → fullR (uM a) uT a.n.toNat (q * a.n.toNat + k) = fun i => if i < a.n.toNat then uM a q i k else uT q k := fun q k hq hk => by
    funext i
    unfold fullR
    have hdiv : (q * a.n.toNat + k) / a.n.toNat = q := by rw [Nat.mul_comm, Nat.mul_add_div (by omega), Nat.div_eq_of_lt hk, Nat.add_zero]
    have hmod : (q * a.n.toNat + k) % a.n.toNat = k := by rw [Nat.mul_comm, Nat.mul_add_mod, Nat.mod_eq_of_lt hk]
    rw [hdiv, hmod]
  have k0 : ∀ m k, m < a.n.toNat → k < a.n.toNat → (dot a.n.toNat (fullR (uM a) uT a.n.toNat (2 * m * a.n.toNat + k)) v % a.p = fullR (uM a) uT a.n.toNat (2 * m * a.n.toNat + k) a.n.toNat % a.p ↔ timesV a v (basV m) k = basV m k) := fun m k hm hk => by
    rw [key (2 * m) k (by omega) hk, times_l hm hk]
    dsimp only
    rw [if_neg (Nat.lt_irrefl _)]
    have e1 : dot a.n.toNat (fun i => if i < a.n.toNat then uM a (2 * m) i k else uT (2 * m) k) v = dot a.n.toNat (fun j => a.T j m k) v := sumN_ext fun j hj => by
      dsimp only
      rw [if_pos hj]
      unfold uM
      rw [if_pos (by omega), show 2 * m / 2 = m by omega, bas_times ha (by omega) (by omega)]
    rw [e1]
    unfold uT
    rw [show 2 * m / 2 = m by omega, basV_mod hp2.1]
  have k1 : ∀ m k, m < a.n.toNat → k < a.n.toNat → (dot a.n.toNat (fullR (uM a) uT a.n.toNat ((2 * m + 1) * a.n.toNat + k)) v % a.p = fullR (uM a) uT a.n.toNat ((2 * m + 1) * a.n.toNat + k) a.n.toNat % a.p ↔ timesV a (basV m) v k = basV m k) := fun m k hm hk => by
    rw [key (2 * m + 1) k (by omega) hk, times_r hm hk]
    dsimp only
    rw [if_neg (Nat.lt_irrefl _)]
    have e1 : dot a.n.toNat (fun i => if i < a.n.toNat then uM a (2 * m + 1) i k else uT (2 * m + 1) k) v = dot a.n.toNat (fun j => a.T m j k) v := sumN_ext fun j hj => by
      dsimp only
      rw [if_pos hj]
      unfold uM
      rw [if_neg (by omega), show (2 * m + 1) / 2 = m by omega, bas_times ha (by omega) (by omega)]
    rw [e1]
    unfold uT
    rw [show (2 * m + 1) / 2 = m by omega, basV_mod hp2.1]
  have mem : ∀ q k, q < 2 * a.n.toNat → k < a.n.toNat → fullR (uM a) uT a.n.toNat (q * a.n.toNat + k) ∈ iRows a := fun q k hq hk => by
    unfold iRows arr
    refine List.mem_map.2 ⟨q * a.n.toNat + k, ?_, rfl⟩
    rw [List.mem_range]
    have h1 : (q + 1) * a.n.toNat ≤ 2 * a.n.toNat * a.n.toNat := Nat.mul_le_mul_right _ (by omega)
    rw [Nat.add_mul, Nat.one_mul] at h1
    omega
  rw [sol_iff]
  constructor
  · intro h
    exact ⟨fun m k hm hk => (k0 m k hm hk).1 (h _ (mem (2 * m) k (by omega) hk)), fun m k hm hk => (k1 m k hm hk).1 (h _ (mem (2 * m + 1) k (by omega) hk))⟩
  · rintro ⟨h0, h1⟩ r hr
    unfold iRows arr at hr
    obtain ⟨y, hy, rfl⟩ := List.mem_map.1 hr
    rw [List.mem_range] at hy
    have hk : y % a.n.toNat < a.n.toNat := Nat.mod_lt _ (by omega)
    have hq : y / a.n.toNat < 2 * a.n.toNat := Nat.div_lt_of_lt_mul (by rw [Nat.mul_comm]; exact hy)
    have e : y = y / a.n.toNat * a.n.toNat + y % a.n.toNat := by rw [Nat.mul_comm]; exact (Nat.div_add_mod ..).symm
    generalize y / a.n.toNat = q at *
    generalize y % a.n.toNat = k at *
    subst e
    rcases Nat.mod_two_eq_zero_or_one q with c | c
    · obtain ⟨m, rfl⟩ : ∃ m, q = 2 * m := ⟨q / 2, by omega⟩
      exact (k0 m k (by omega) hk).2 (h0 m k (by omega) hk)
    · obtain ⟨m, rfl⟩ : ∃ m, q = 2 * m + 1 := ⟨q / 2, by omega⟩
      exact (k1 m k (by omega) hk).2 (h1 m k (by omega) hk)
theorem vecR_lt {n : Nat} {r : Row} {i : Nat} (h : i < n) : vecR n r i = r i := by unfold vecR; rw [if_pos h]
theorem iFind_two {a : Alg} (ha : AlgOk a) {u : Nat → Int} (h : iFindF a = some u) : LU a u ∧ RU a u ∧ Rw a.p u ∧ ∀ i, a.n.toNat ≤ i → u i = 0 := by
  have hp2 := prime_bd ha.p
  rw [iFind_eq] at h
  cases hs : iSolveF a.p a.n.toNat (iRows a) with
  | none => rw [hs] at h; cases h
  | some r =>
    rw [hs] at h
    simp only [Option.map_some, Option.some.injEq] at h
    subst h
    obtain ⟨h1, h2⟩ := (sol_ifind ha).1 (iSolve_some ha.p (iRows_rw ha) hs)
    exact ⟨h1.ext fun i hi => vecR_lt hi, h2.ext fun i hi => vecR_lt hi, vecR_rw (by omega) (iSolve_rw ha.p (iRows_rw ha) hs), fun i hi => by unfold vecR; rw [if_neg (by omega)]⟩
theorem iFind_of {a : Alg} (ha : AlgOk a) {u : Nat → Int} (h1 : LU a u) (h2 : RU a u) : (iFindF a).isSome = true := by
  have := iSolve_none ha.p (iRows_rw ha) ((sol_ifind ha).2 ⟨h1, h2⟩)
  rw [iFind_eq]
  cases hs : iSolveF a.p a.n.toNat (iRows a) with
  | none => rw [hs] at this; cases this
  | some r => rfl
theorem find_two {a : Alg} (ha : AlgOk a) {u : Nat → Int} (h : findF a = some u) : LU a u ∧ RU a u := by
  have hp2 := prime_bd ha.p
  have hn := ha.n
  unfold findF at h
  cases hs : sSolveF a.p a.n.toNat (findOut a a.n.toNat) with
  | none => rw [hs] at h; cases h
  | some r =>
    rw [hs] at h
    dsimp only at h
    split at h
    · rename_i hc
      simp only [Option.some.injEq] at h
      subst h
      have h1 := (sol_find hp2.1).1 (sSolve_some ha.p (m_findOut_rw ha _) hs)
      exact ⟨h1.ext fun i hi => vecR_lt hi, fun m k hm hk => hc m hm k (by omega)⟩
    · cases h
theorem find_of {a : Alg} (ha : AlgOk a) {u : Nat → Int} (h1 : LU a u) (h2 : RU a u) (hu : Rw a.p u) : ∃ s, findF a = some s ∧ (∀ i, i < a.n.toNat → s i = u i) ∧ ∀ i, a.n.toNat ≤ i → s i = 0 := by
  have hp2 := prime_bd ha.p
  have hn := ha.n
  have hne : findOut a a.n.toNat ≠ [] := fun e => by
    have : findR a 0 0 ∈ findOut a a.n.toNat := mem_findOut.2 ⟨0, 0, by omega, by omega, rfl⟩
    rw [e] at this; cases this
  obtain ⟨s, hs, he⟩ := sSolve_of ha.p (m_findOut_rw ha _) hne ((sol_find hp2.1).2 h1) hu fun v hv hsv => unit_eq hp2.1 hu hv ((sol_find hp2.1).1 hsv) h2
  refine ⟨vecR a.n.toNat s, ?_, fun i hi => by rw [vecR_lt hi]; exact he i hi, fun i hi => by unfold vecR; rw [if_neg (by omega)]⟩
  unfold findF
  rw [hs]
  dsimp only
  rw [if_pos]
  intro i hi k hk
  rcases Nat.lt_or_ge k a.n.toNat with c | c
  · exact (h2.ext (v := vecR a.n.toNat s) fun i hi => by rw [vecR_lt hi]; exact he i hi) i k hi c
  · rw [times_ge (by omega)]
    unfold basV; rw [if_neg (by omega)]
theorem unit_same {a : Alg} (ha : AlgOk a) : ((iFindF a).isSome = true ↔ (findF a).isSome = true) ∧ iUnit a = sUnit a := by
  unfold iUnit sUnit
  cases hi : iFindF a with
  | some u =>
    obtain ⟨h1, h2, h3, h4⟩ := iFind_two ha hi
    obtain ⟨s, hs, e1, e2⟩ := find_of ha h1 h2 h3
    rw [hs]
    refine ⟨⟨fun _ => rfl, fun _ => rfl⟩, funext fun i => ?_⟩
    show u i = s i
    rcases Nat.lt_or_ge i a.n.toNat with c | c
    · exact (e1 i c).symm
    · rw [h4 i c, e2 i c]
  | none =>
    cases hs : findF a with
    | none => exact ⟨Iff.rfl, rfl⟩
    | some s =>
      obtain ⟨h1, h2⟩ := find_two ha hs
      have := iFind_of ha h1 h2
      rw [hi] at this; cases this
end Go.X
namespace Go.X
open Go Go.RowKit
theorem VEq.rfl' {v : Nat → Int} : VEq v v := fun _ _ => rfl
theorem shape_iff {a : Alg} : ShapeP a ↔ a.p ∈ primes ∧ (1 ≤ a.n ∧ a.n ≤ 6) ∧ TabP a := by
  unfold ShapeP TabP
  constructor
  · rintro ⟨h1, h2, h3, h4⟩
    refine ⟨h1, h2, fun i j hi hj => ⟨fun k hk => ?_, fun hz k hk => ?_⟩, h3⟩
    · have := h4 i j hi hj k hk
      refine ⟨this.1, fun hn => this.2 ?_⟩
      split <;> omega
    · have := h4 i j hi hj k hk
      rw [if_pos hz] at this
      exact this.2 (by omega)
  · rintro ⟨h1, h2, h3, h4⟩
    refine ⟨h1, h2, h4, fun i j hi hj k hk => ?_⟩
    obtain ⟨g1, g2⟩ := h3 i j hi hj
    refine ⟨(g1 k hk).1, fun hn => ?_⟩
    by_cases c : a.n ≤ (i : Int) ∨ a.n ≤ (j : Int)
    · exact g2 c k hk
    · rw [if_neg c] at hn
      exact (g1 k hk).2 hn
theorem alg_iff {a : Alg} (h : AlgIn a) : IsAlgP a ↔ sAlgP a := by
  unfold IsAlgP sAlgP
  rw [shape_iff]
  constructor
  · rintro ⟨h1, h2, h3, h4, h5⟩
    exact ⟨⟨h1, h2, h3⟩, h4, (unit_same (h.ok h1 h2 h3)).1.1 h5⟩
  · rintro ⟨⟨h1, h2, h3⟩, h4, h5⟩
    exact ⟨h1, h2, h3, h4, (unit_same (h.ok h1 h2 h3)).1.2 h5⟩
theorem comm_iff {a : Alg} (ha : AlgOk a) : CommP a ↔ sCommP a := by
  have hn := ha.n
  constructor
  · intro h i hi j hj
    by_cases c : (i : Int) < a.n
    · exact h i j c hj
    · intro k hk
      rw [ha.z i j k (by omega), ha.z j i k (by omega)]
  · intro h i j hi hj
    exact h i (by omega) j hj
theorem frob_iff {a : Alg} (ha : AlgOk a) : FrobP a ↔ sFrobP a := by
  have hn := ha.n
  have := rank_eq (m := a.n.toNat) ha.p (tabL_rw ha a.n.toNat)
  unfold FrobP sFrobP
  omega
theorem algs_iff {x : Pr} (hi : PrIn x) : AlgsP x ↔ sAlgsP x := by
  unfold AlgsP sAlgsP
  rw [alg_iff hi.c, alg_iff hi.o]
  constructor
  · rintro ⟨h1, h2, h3, h4, h5, h6, h7⟩
    have okc := hi.c.alg ((alg_iff hi.c).2 h1)
    have oko := hi.o.alg ((alg_iff hi.o).2 h2)
    exact ⟨h1, h2, h3, (comm_iff okc).1 h4, (frob_iff okc).1 h5, (frob_iff oko).1 h6, h7⟩
  · rintro ⟨h1, h2, h3, h4, h5, h6, h7⟩
    have okc := hi.c.alg ((alg_iff hi.c).2 h1)
    have oko := hi.o.alg ((alg_iff hi.o).2 h2)
    exact ⟨h1, h2, h3, (comm_iff okc).2 h4, (frob_iff okc).2 h5, (frob_iff oko).2 h6, h7⟩
theorem zipN_ge {p : Int} (hp : 1 ≤ p) {z : Nat → Nat → Int} {v : Nat → Int} {n : Nat} : ∀ d, n + d ≤ 6 → (∀ i : Nat, i < 6 → n ≤ i → VEq (z i) Z) → VEq (zipN p z v (n + d)) (zipN p z v n)
  | 0, _, _ => VEq.rfl'
  | d + 1, hd, hz => fun k hk => by
    have ih := zipN_ge (v := v) hp d (by omega) hz k hk
    have h1 := hz (n + d) (by omega) (by omega) k hk
    have h2 := rw_mod (zipN_rw (z := z) (v := v) hp (n + d)) k
    show (zipN p z v (n + d) k + v (n + d) * z (n + d) k) % p = _
    rw [h1, show v (n + d) * Z k = 0 from Int.mul_zero _, Int.add_zero, h2, ih]
theorem zip6 {p : Int} (hp : 1 ≤ p) {z : Nat → Nat → Int} {v : Nat → Int} {n : Nat} (hn : n ≤ 6) (hz : ∀ i : Nat, i < 6 → n ≤ i → VEq (z i) Z) : VEq (zipN p z v 6) (zipN p z v n) := by
  have := zipN_ge (v := v) hp (6 - n) (by omega) hz
  rwa [show n + (6 - n) = 6 by omega] at this
theorem zip_zero {p : Int} {z : Nat → Nat → Int} {v : Nat → Int} : ∀ n, n ≤ 6 → VEq v Z → VEq (zipN p z v n) Z
  | 0, _, _ => VEq.rfl'
  | n + 1, hn, hv => fun k hk => by
    have ih := zip_zero (p := p) (z := z) n (by omega) hv k hk
    show (zipN p z v n k + v n * z n k) % p = 0
    rw [ih, hv n (by omega), show Z n * z n k = 0 from Int.zero_mul _]; simp [Z]
theorem times_zl {a : Alg} {v w : Nat → Int} (hn : a.n ≤ 6) (hv : VEq v Z) : VEq (timesV a v w) Z := fun k hk => by
  unfold timesV
  split
  · unfold tsum
    rw [sumN_zero fun i hi => sumN_zero fun j _ => by rw [hv i (by omega), show Z i * w j = 0 from Int.zero_mul _, Int.zero_mul]]
    simp [Z]
  · rfl
theorem times_zr {a : Alg} {v w : Nat → Int} (hn : a.n ≤ 6) (hw : VEq w Z) : VEq (timesV a v w) Z := fun k hk => by
  unfold timesV
  split
  · unfold tsum
    rw [sumN_zero fun i hi => sumN_zero fun j hj => by rw [hw j (by omega), show v i * Z j = 0 from Int.mul_zero _, Int.zero_mul]]
    simp [Z]
  · rfl
theorem VEq.trans' {u v w : Nat → Int} (h : VEq u v) (g : VEq v w) : VEq u w := fun i hi => (h i hi).trans (g i hi)
theorem VEq.symm' {u v : Nat → Int} (h : VEq u v) : VEq v u := fun i hi => (h i hi).symm
theorem pair_iff {x : Pr} (hi : PrIn x) : IsPairP x ↔ sIsP x := by
  unfold IsPairP sIsP
  rw [algs_iff hi]
  constructor
  · rintro ⟨h1, h2, h3⟩
    have okc := hi.c.alg ((alg_iff hi.c).2 h1.1)
    have oko := hi.o.alg ((alg_iff hi.o).2 h1.2.1)
    have hc := okc.n
    have ho := oko.n
    have hp2 := prime_bd oko.p
    have hz : ∀ i : Nat, i < 6 → x.c.n.toNat ≤ i → VEq (x.z i) Z := fun i h hle => (h2 i h).1.2 (by omega)
    have z6 : ∀ v, VEq (zipN x.o.p x.z v 6) (zipN x.o.p x.z v x.c.n.toNat) := fun v => zip6 (by omega) (by omega) hz
    refine ⟨h1, fun i h => (h2 i h).1, fun i h => ⟨fun j hj => (z6 _).symm'.trans' ((h2 i (by omega)).2.2 j (by omega)), (h2 i (by omega)).2.1⟩, ?_⟩
    rw [← (unit_same okc).2, ← (unit_same oko).2]
    exact (z6 _).symm'.trans' h3
  · rintro ⟨h1, h2, h3, h4⟩
    have okc := hi.c.alg ((alg_iff hi.c).2 h1.1)
    have oko := hi.o.alg ((alg_iff hi.o).2 h1.2.1)
    have hc := okc.n
    have ho := oko.n
    have hp2 := prime_bd oko.p
    have hz : ∀ i : Nat, i < 6 → x.c.n.toNat ≤ i → VEq (x.z i) Z := fun i h hle => (h2 i h).2 (by omega)
    have z6 : ∀ v, VEq (zipN x.o.p x.z v 6) (zipN x.o.p x.z v x.c.n.toNat) := fun v => zip6 (by omega) (by omega) hz
    refine ⟨h1, fun i h => ⟨h2 i h, fun j hj => ?_, fun j hj => ?_⟩, ?_⟩
    · by_cases c : (i : Int) < x.c.n
      · exact (h3 i c).2 j hj
      · have := hz i h (by omega)
        exact (times_zl (by omega) this).trans' (times_zr (by omega) this).symm'
    · by_cases c : (i : Int) < x.c.n
      · by_cases c2 : (j : Int) < x.c.n
        · exact (z6 _).trans' ((h3 i c).1 j c2)
        · exact (zip_zero 6 (by omega) (fun k _ => okc.z i j k (by omega))).trans' (times_zr (by omega) (hz j hj (by omega))).symm'
      · exact (zip_zero 6 (by omega) (fun k _ => okc.z i j k (by omega))).trans' (times_zl (by omega) (hz i h (by omega))).symm'
    · rw [(unit_same okc).2, (unit_same oko).2]
      exact (z6 _).trans' h4
theorem dot_split {m n : Nat} {r z : Row} : dot (m + n) r z = dot m r z + sumN n fun i => r (m + i) * z (m + i) := by
  unfold dot
  induction n with
  | zero => simp [sumN]
  | succ n ih =>
    rw [← Nat.add_assoc]
    simp only [sumN]
    rw [ih]; omega
def two (n : Nat) (u v : Row) : Row := fun i => if i < n then u i else v (i - n)
theorem dot_two {n : Nat} {r u v : Row} : dot (n + n) r (two n u v) = dot n r u + dot n (fun i => r (n + i)) v := by
  rw [dot_split]
  congr 1
  · exact sumN_ext fun i hi => by unfold two; rw [if_pos hi]
  · refine sumN_ext fun i hi => ?_
    unfold two; rw [if_neg (by omega), show n + i - n = i by omega]
theorem aug_dot {a : Alg} {i : Nat} (hi : i < a.n.toNat) {u v : Row} : dot (a.n.toNat + a.n.toNat) (augR a i) (two a.n.toNat u v) = dot a.n.toNat (tabR a i) u + v i := by
  rw [dot_two]
  congr 1
  · exact sumN_ext fun j hj => by unfold augR; rw [if_pos hj]
  · unfold dot
    rw [sumN_one' (i := i) hi fun k hk hne => ?_]
    · have : augR a i (a.n.toNat + i) = 1 := by
        unfold augR
        rw [if_neg (by omega), show a.n.toNat + i - a.n.toNat = i by omega, if_pos rfl]
      show augR a i (a.n.toNat + i) * v i = v i
      rw [this, Int.one_mul]
    · have : augR a i (a.n.toNat + k) = 0 := by
        unfold augR
        rw [if_neg (by omega), show a.n.toNat + k - a.n.toNat = k by omega, if_neg hne]
      show augR a i (a.n.toNat + k) * v k = 0
      rw [this, Int.zero_mul]
theorem ker_aug {a : Alg} {u v : Row} : Ker a.p (a.n.toNat + a.n.toNat) (augL a) (two a.n.toNat u v) ↔ ∀ i, i < a.n.toNat → (dot a.n.toNat (tabR a i) u + v i) % a.p = 0 := by
  unfold Ker augL arr
  constructor
  · intro h i hi
    rw [← aug_dot hi]
    exact h _ (List.mem_map.2 ⟨i, by simpa using hi, rfl⟩)
  · intro h r hr
    obtain ⟨i, hi, rfl⟩ := List.mem_map.1 hr
    rw [aug_dot (by simpa using hi)]
    exact h i (by simpa using hi)
theorem ker_tab {a : Alg} {u : Row} : Ker a.p a.n.toNat (tabL a a.n.toNat) u ↔ ∀ i, i < a.n.toNat → dot a.n.toNat (tabR a i) u % a.p = 0 := by
  unfold Ker tabL arr
  constructor
  · intro h i hi
    exact h _ (List.mem_map.2 ⟨i, by simpa using hi, rfl⟩)
  · intro h r hr
    obtain ⟨i, hi, rfl⟩ := List.mem_map.1 hr
    exact h i (by simpa using hi)
theorem cop_rr {a : Alg} (ha : AlgOk a) (hf : sFrobP a) : (redF a.p (a.n.toNat + a.n.toNat) (augL a)).length = a.n.toNat ∧ ∀ ld, RR a.p (a.n.toNat + a.n.toNat) (redF a.p (a.n.toNat + a.n.toNat) (augL a)) ld → ∀ i, i < a.n.toNat → ld i = i := by
  have hp2 := prime_bd ha.p
  have hn := ha.n
  have hle : (redF a.p (a.n.toNat + a.n.toNat) (augL a)).length ≤ a.n.toNat := by
    have := (redN_inv (p := a.p) (rows := augL a) (by omega) (augL_rw ha) (a.n.toNat + a.n.toNat)).2.2
    have e : (augL a).length = a.n.toNat := arr_len ..
    unfold redF; omega
  have hkz := kerZ_ech (m := a.n.toNat) ha.p (tabL_rw ha a.n.toNat) (by unfold sFrobP at hf; omega)
  have key : ∀ ld, RR a.p (a.n.toNat + a.n.toNat) (redF a.p (a.n.toNat + a.n.toNat) (augL a)) ld → ∀ c, c < a.n.toNat → ∃ i, i < (redF a.p (a.n.toNat + a.n.toNat) (augL a)).length ∧ ld i = c := by
    intro ld rr c hc
    apply Classical.byContradiction
    intro hno
    have hne : ∀ i, i < (redF a.p (a.n.toNat + a.n.toNat) (augL a)).length → ld i ≠ c := fun i hi e => hno ⟨i, hi, e⟩
    have hk := (redF_ker ha.p (augL_rw ha)).1 (kv_ker rr (by omega) hne)
    have hz : ∀ j, a.n.toNat ≤ j → j < a.n.toNat + a.n.toNat → kv a.p (redF a.p (a.n.toNat + a.n.toNat) (augL a)) ld c j = 0 := fun j hj hj2 => by
      by_cases e : ∃ i, i < (redF a.p (a.n.toNat + a.n.toNat) (augL a)).length ∧ ld i = j
      · obtain ⟨i, hi, rfl⟩ := e
        rw [kv_ld rr hi (hne i hi), (rr.lead i hi).2.2 c (by omega)]; simp
      · exact kv_no (by omega) (fun i hi e' => e ⟨i, hi, e'⟩)
    have hkt : Ker a.p a.n.toNat (tabL a a.n.toNat) (kv a.p (redF a.p (a.n.toNat + a.n.toNat) (augL a)) ld c) := ker_tab.2 fun i hi => by
      have h1 := hk (augR a i) (by unfold augL arr; exact List.mem_map.2 ⟨i, by simpa using hi, rfl⟩)
      rw [dot_split, sumN_zero fun k hk => by rw [hz _ (by omega) (by omega), Int.mul_zero], Int.add_zero] at h1
      rw [← h1]
      congr 1
      exact sumN_ext fun j hj => by unfold augR; rw [if_pos hj]
    have := hkz _ (kv_rw hp2.1) hkt c hc
    rw [kv_c] at this; omega
  have fin : ∀ ld, RR a.p (a.n.toNat + a.n.toNat) (redF a.p (a.n.toNat + a.n.toNat) (augL a)) ld → (redF a.p (a.n.toNat + a.n.toNat) (augL a)).length = a.n.toNat ∧ ∀ i, i < a.n.toNat → ld i = i := by
    intro ld rr
    have kk := key ld rr
    have hge : ∀ c, c < a.n.toNat → ∃ i, i < (redF a.p (a.n.toNat + a.n.toNat) (augL a)).length ∧ ld i = c ∧ c ≤ i := by
      intro c
      induction c with
      | zero => intro hc; obtain ⟨i, hi, e⟩ := kk 0 hc; exact ⟨i, hi, e, by omega⟩
      | succ c ih =>
        intro hc
        obtain ⟨i, hi, e, hle⟩ := ih (by omega)
        obtain ⟨i', hi', e'⟩ := kk (c + 1) hc
        refine ⟨i', hi', e', ?_⟩
        rcases Nat.lt_trichotomy i i' with t | t | t
        · omega
        · subst t; omega
        · have := rr.sort i' i t hi; omega
    have hlen : (redF a.p (a.n.toNat + a.n.toNat) (augL a)).length = a.n.toNat := by
      obtain ⟨i, hi, _, hle⟩ := hge (a.n.toNat - 1) (by omega); omega
    refine ⟨hlen, fun i hi => ?_⟩
    obtain ⟨i', hi', e', hle'⟩ := hge i hi
    have h1 := rr.ld_ge i (by omega)
    rcases Nat.lt_trichotomy i i' with t | t | t
    · have := rr.sort i i' t hi'; omega
    · subst t; exact e'
    · omega
  obtain ⟨ld, rr⟩ := redF_rr (m := a.n.toNat + a.n.toNat) ha.p (augL_rw ha)
  exact ⟨(fin ld rr).1, fun ld rr => (fin ld rr).2⟩
def copB (a : Alg) (k j : Nat) : Int := (redF a.p (a.n.toNat + a.n.toNat) (augL a)).getD k Z (a.n.toNat + j)
theorem cop_dot {a : Alg} (ha : AlgOk a) (hf : sFrobP a) {k : Nat} (hk : k < a.n.toNat) {u v : Row} : dot (a.n.toNat + a.n.toNat) ((redF a.p (a.n.toNat + a.n.toNat) (augL a)).getD k Z) (two a.n.toNat u v) = u k + dot a.n.toNat (copB a k) v := by
  obtain ⟨hl, hld⟩ := cop_rr ha hf
  obtain ⟨ld, rr⟩ := redF_rr (m := a.n.toNat + a.n.toNat) ha.p (augL_rw ha)
  have hld := hld ld rr
  rw [dot_two]
  congr 1
  unfold dot
  rw [sumN_one' (i := k) hk fun i hi hne => ?_]
  · have := (rr.lead k (by omega)).2.1
    rw [hld k hk] at this
    rw [this, Int.one_mul]
  · have := rr.zero i k (by omega) (by omega) hne
    rw [hld i hi] at this
    rw [this, Int.zero_mul]
def neg1 (j : Nat) : Row := fun i => if i = j then -1 else 0
theorem dot_neg1 {n : Nat} {r : Row} {j : Nat} (hj : j < n) : dot n r (neg1 j) = -(r j) := by
  unfold dot
  rw [sumN_one' (i := j) hj fun k _ hne => by unfold neg1; rw [if_neg hne, Int.mul_zero]]
  unfold neg1; rw [if_pos rfl]; omega
theorem sAug_rw {a : Alg} (ha : AlgOk a) (j : Nat) : RwL a.p (arr a.n.toNat (sAug a j)) := fun r hr => by
  have hp2 := prime_bd ha.p
  simp only [arr, List.mem_map] at hr
  obtain ⟨i', _, rfl⟩ := hr
  intro q
  unfold sAug
  split
  · exact tabR_rw ha i' q
  · split <;> omega
theorem sol_col {a : Alg} {j : Nat} {v : Row} : Sol a.p a.n.toNat (arr a.n.toNat (sAug a j)) v ↔ ∀ i, i < a.n.toNat → (dot a.n.toNat (tabR a i) v + neg1 j i) % a.p = 0 := by
  have key : ∀ i, (dot a.n.toNat (sAug a j i) v % a.p = sAug a j i a.n.toNat % a.p ↔ (dot a.n.toNat (tabR a i) v + neg1 j i) % a.p = 0) := fun i => by
    have e1 : dot a.n.toNat (sAug a j i) v = dot a.n.toNat (tabR a i) v := sumN_ext fun q hq => by unfold sAug; rw [if_pos hq]
    have e2 : sAug a j i a.n.toNat = -(neg1 j i) := by
      unfold sAug neg1
      rw [if_neg (Nat.lt_irrefl _)]
      split <;> rfl
    rw [e1, e2, Int.emod_eq_emod_iff_emod_sub_eq_zero, Int.sub_neg]
  rw [sol_iff]
  constructor
  · intro h i hi
    exact (key i).1 (h _ (by unfold arr; exact List.mem_map.2 ⟨i, by simpa using hi, rfl⟩))
  · intro h r hr
    unfold arr at hr
    obtain ⟨i, hi, rfl⟩ := List.mem_map.1 hr
    exact (key i).2 (h i (by simpa using hi))
theorem copB_rw {a : Alg} (ha : AlgOk a) (k : Nat) : Rw a.p (copB a k) := fun j => by
  have hp2 := prime_bd ha.p
  obtain ⟨ld, rr⟩ := redF_rr (m := a.n.toNat + a.n.toNat) ha.p (augL_rw ha)
  exact rr.rw.get (by omega) k _
theorem col_eq {a : Alg} (ha : AlgOk a) (hf : sFrobP a) {j : Nat} (hj : j < a.n.toNat) : ∃ s, sCol a j = some s ∧ ∀ i, i < a.n.toNat → s i = copB a i j := by
  have hp2 := prime_bd ha.p
  have hn := ha.n
  obtain ⟨hl, _⟩ := cop_rr ha hf
  have hkz := kerZ_ech (m := a.n.toNat) ha.p (tabL_rw ha a.n.toNat) (by unfold sFrobP at hf; omega)
  have h1 : Sol a.p a.n.toNat (arr a.n.toNat (sAug a j)) (fun i => copB a i j) := sol_col.2 <| ker_aug.1 <| (redF_ker ha.p (augL_rw ha)).1 fun r hr => by
    obtain ⟨k, hk, rfl⟩ := mem_getD hr
    rw [cop_dot ha hf (by omega), dot_neg1 hj, Int.add_right_neg]; simp
  have hne : arr a.n.toNat (sAug a j) ≠ [] := fun e => by
    have := congrArg List.length e
    rw [arr_len] at this
    simp at this; omega
  refine sSolve_of ha.p (sAug_rw ha j) hne h1 (fun i => copB_rw ha i j) fun v hv hs i hi => ?_
  have h2 := sol_col.1 hs
  have h3 := sol_col.1 h1
  have hk : Ker a.p a.n.toNat (tabL a a.n.toNat) (fun i => (v i - copB a i j) % a.p) := ker_tab.2 fun i hi => by
    have e : dot a.n.toNat (tabR a i) (fun i => (v i - copB a i j) % a.p) % a.p = dot a.n.toNat (tabR a i) (fun i => v i - copB a i j) % a.p := dot_mod fun i _ => cg_mod _ _
    rw [e, dot_sub]
    have e0 : (0 : Int) % a.p = 0 := by simp
    have h2' : (dot a.n.toNat (tabR a i) v + neg1 j i) % a.p = 0 % a.p := by rw [h2 i hi, e0]
    have h3' : (dot a.n.toNat (tabR a i) (fun i => copB a i j) + neg1 j i) % a.p = 0 % a.p := by rw [h3 i hi, e0]
    have := cg_sub h2' h3'
    rw [show dot a.n.toNat (tabR a i) v - dot a.n.toNat (tabR a i) (fun i => copB a i j) = dot a.n.toNat (tabR a i) v + neg1 j i - (dot a.n.toNat (tabR a i) (fun i => copB a i j) + neg1 j i) by omega, this]
    simp
  have h4 := hkz _ (fun i => mod_bd _ (by omega)) hk i hi
  have h5 := (Int.emod_eq_emod_iff_emod_sub_eq_zero (m := v i) (n := a.p) (k := copB a i j)).2 h4
  rw [rw_mod hv, rw_mod (copB_rw ha i)] at h5
  exact h5
theorem sCol_some {a : Alg} (ha : AlgOk a) (hf : sFrobP a) : ∀ j, j < a.n.toNat → (sCol a j).isSome = true := fun j hj => by
  obtain ⟨s, hs, _⟩ := col_eq ha hf hj
  rw [hs]; rfl
theorem iCop_len2 {a : Alg} (ha : AlgOk a) (hf : sFrobP a) : (iCop a).length = a.n.toNat := by
  unfold iCop
  rw [List.length_map]
  exact (cop_rr ha hf).1
theorem cop_same {a : Alg} (ha : AlgOk a) (hf : sFrobP a) {k l : Nat} (hk : k < a.n.toNat) (hl : l < a.n.toNat) : (iCop a).getD k Z l = sCop a k l := by
  obtain ⟨s, hs, he⟩ := col_eq ha hf hl
  have hlen := (cop_rr ha hf).1
  unfold sCop
  rw [hs]
  show _ = s k
  rw [he k hk]
  unfold iCop
  rw [getD_map (by omega)]; rfl
theorem pairC_ext {p : Int} {B C : Nat → Row} {of : Nat → Nat → Nat → Int} {k : Nat} : ∀ {acc : Nat → Int} (l : Nat), (∀ j, j < l → B k j = C k j) → pairC p B of acc k l = pairC p C of acc k l
  | _, 0, _ => rfl
  | acc, l + 1, h => by
    unfold pairC
    rw [pairC_ext l (fun j hj => h j (by omega)), h l (by omega)]
theorem pairR_ext {p : Int} {B C : Nat → Row} {of : Nat → Nat → Nat → Int} {n : Nat} : ∀ k, (∀ i j, i < k → j < n → B i j = C i j) → pairR p B of n k = pairR p C of n k
  | 0, _ => rfl
  | k + 1, h => by
    unfold pairR
    rw [pairR_ext k (fun i j hi hj => h i j (by omega) hj), pairC_ext n (fun j hj => h k j (by omega) hj)]
theorem sand_same {x : Pr} {w : Nat → Int} (ho : AlgOk x.o) (hf : sFrobP x.o) : iSand x w = sSand x w := by
  unfold iSand sSand
  rw [iCop_len2 ho hf]
  exact pairR_ext _ fun i j hi hj => cop_same ho hf hi hj
end Go.X
namespace Go.X
open Go Go.RowKit
theorem args2 {a b : Ty} {l : List D} (h : argsHave [a, b] l) : ∃ x y, l = [x, y] ∧ a.arg x ∧ b.arg y := by
  match l, h with
  | [x, y], h => exact ⟨x, y, rfl, h.1, h.2.1⟩
def AllU8 (c : Nat) (e : Ty) : Prop := ∀ ys, e.Has ys → ∃ f : Nat → Int, ys = cel .u8 c f ∧ Byts f
theorem allU8_int : AllU8 1 (.int .u8) := fun ys h => by
  obtain ⟨n, rfl, hw⟩ := h
  have := bounds_u8 hw
  exact ⟨fun _ => n, rfl, fun _ => this⟩
theorem cel_append {k : IntKind} {a b : Nat} {f g : Nat → Int} : cel k a f ++ cel k b g = cel k (a + b) fun i => if i < a then f i else g (i - a) := by
  refine arr_of (by simp [cel_len]) fun i hi => ?_
  rcases Nat.lt_or_ge i a with h | h
  · rw [List.getElem?_append_left (by rw [cel_len]; exact h), cel_get h]; simp [h]
  · rw [List.getElem?_append_right (by rw [cel_len]; exact h), cel_len, cel_get (by omega)]; simp [show ¬ i < a by omega]
theorem flat_u8 {c : Nat} : ∀ {yss : List (List D)}, (∀ ys ∈ yss, ∃ f : Nat → Int, ys = cel .u8 c f ∧ Byts f) → ∃ f : Nat → Int, yss.flatten = cel .u8 (yss.length * c) f ∧ Byts f
  | [], _ => ⟨fun _ => 0, by simp [cel, arr], fun _ => by show (0:Int) ≤ 0 ∧ (0:Int) ≤ 255; omega⟩
  | y :: r, h => by
    obtain ⟨f, rfl, hf⟩ := h y (List.mem_cons_self ..)
    obtain ⟨g, h2, hg⟩ := flat_u8 fun ys hy => h ys (List.mem_cons_of_mem _ hy)
    refine ⟨fun i => if i < c then f i else g (i - c), ?_, fun i => ?_⟩
    · rw [List.flatten_cons, h2, cel_append, List.length_cons, Nat.succ_mul, Nat.add_comm]
    · dsimp only; split
      · exact hf _
      · exact hg _
theorem allU8_arr {c n : Nat} {e : Ty} (h : AllU8 c e) : AllU8 (n * c) (.arr n e) := fun ys hy => by
  obtain ⟨yss, rfl, rfl, hy⟩ := hy
  exact flat_u8 fun ys hm => h ys (hy ys hm)
def tyVec : Ty := .arr 6 (.int .u8)
def tyTab : Ty := .arr 6 (.arr 6 (.arr 6 (.int .u8)))
def tyMat : Ty := .arr 6 (.arr 6 (.int .u8))
def tyAlg : Ty := .st [.int .i64, .int .i64, tyTab, tyVec]
def tyPair : Ty := .st [tyAlg, tyAlg, tyMat]
theorem arg_vec {d : D} (h : tyVec.arg d) : ∃ v, d = vecD v ∧ Byts v := by
  obtain ⟨xs, rfl, h⟩ := h
  obtain ⟨f, rfl, hf⟩ := allU8_arr allU8_int _ h
  exact ⟨f, rfl, hf⟩
def I64 (x : Int) : Prop := -9223372036854775808 ≤ x ∧ x ≤ 9223372036854775807
theorem arg_i64 {d : D} (h : (Ty.int .i64).arg d) : ∃ n, d = .int .i64 n ∧ I64 n := by
  obtain ⟨n, h, hw⟩ := h
  simp only [List.cons.injEq, and_true] at h
  exact ⟨n, h, bounds_i64 hw⟩
theorem has_alg {xs : List D} (h : tyAlg.Has xs) : ∃ a : Alg, xs = algL a ∧ AlgIn a ∧ I64 a.p ∧ I64 a.n := by
  obtain ⟨_, _, rfl, ⟨p, rfl, hp⟩, _, _, rfl, ⟨n, rfl, hn⟩, _, _, rfl, hT, _, _, rfl, hF, rfl⟩ := h
  obtain ⟨T, rfl, bT⟩ := allU8_arr (n := 6) (allU8_arr (n := 6) (allU8_arr (n := 6) allU8_int)) _ hT
  obtain ⟨F, rfl, bF⟩ := allU8_arr (n := 6) allU8_int _ hF
  let a : Alg := ⟨p, n, fun i j k => if i < 6 ∧ j < 6 ∧ k < 6 then T (i * 36 + j * 6 + k) else 0, fun i => if i < 6 then F i else 0⟩
  have aT : ∀ i j k, i < 6 → j < 6 → k < 6 → a.T i j k = T (i * 36 + j * 6 + k) := fun i j k hi hj hk => if_pos ⟨hi, hj, hk⟩
  have aF : ∀ i, i < 6 → a.f i = F i := fun i hi => if_pos hi
  have bB : AlgB a := by
    refine ⟨fun i j k => ?_, fun i => ?_⟩
    · show 0 ≤ (if _ then _ else (0 : Int)) ∧ (if _ then _ else (0 : Int)) ≤ 255
      split
      · exact bT _
      · omega
    · show 0 ≤ (if _ then _ else (0 : Int)) ∧ (if _ then _ else (0 : Int)) ≤ 255
      split
      · exact bF _
      · omega
  refine ⟨a, ?_, ⟨bB, fun hp hn hT => ?_⟩, bounds_i64 hp, bounds_i64 hn⟩
  · refine arr_of (by simp [cel_len]) fun q hq => ?_
    unfold algF
    by_cases c0 : q = 0
    · subst c0; rfl
    by_cases c1 : q = 1
    · subst c1; rfl
    rw [if_neg c0, if_neg c1]
    rw [List.getElem?_append_right (by simp; omega), List.getElem?_append_right (by simp; omega)]
    simp only [List.length_cons, List.length_nil]
    by_cases c2 : q < 218
    · rw [List.getElem?_append_left (by rw [cel_len]; omega), cel_get (by omega), if_pos c2]
      have e : a.T ((q - 2) / 36) ((q - 2) / 6 % 6) ((q - 2) % 6) = T (q - 2) := by
        rw [aT _ _ _ (by omega) (by omega) (by omega)]; congr 1; omega
      rw [e, Nat.sub_sub]
    · rw [List.getElem?_append_right (by rw [cel_len]; omega), List.append_nil, cel_len, cel_get (by omega), if_neg c2]
      rw [aF _ (by omega)]; congr 3
  · have hp2 := prime_bd hp
    refine ⟨hp, hn, fun i j k => ⟨(bB.1 i j k).1, ?_⟩, fun i => ⟨(bB.2 i).1, ?_⟩, fun i j k h => ?_, fun i h => ?_⟩
    · by_cases c : i < 6 ∧ j < 6 ∧ k < 6
      · exact ((hT.1 i j c.1 c.2.1).1 k c.2.2).1
      · show (if i < 6 ∧ j < 6 ∧ k < 6 then _ else (0 : Int)) < _
        rw [if_neg c]; omega
    · by_cases c : i < 6
      · exact (hT.2 i c).1
      · show (if i < 6 then _ else (0 : Int)) < _
        rw [if_neg c]; omega
    · by_cases c : i < 6 ∧ j < 6 ∧ k < 6
      · rcases h with h | h | h
        · exact (hT.1 i j c.1 c.2.1).2 (.inl h) k c.2.2
        · exact (hT.1 i j c.1 c.2.1).2 (.inr h) k c.2.2
        · exact ((hT.1 i j c.1 c.2.1).1 k c.2.2).2 h
      · show (if i < 6 ∧ j < 6 ∧ k < 6 then _ else (0 : Int)) = 0
        rw [if_neg c]
    · by_cases c : i < 6
      · exact (hT.2 i c).2 h
      · show (if i < 6 then _ else (0 : Int)) = 0
        rw [if_neg c]
theorem AlgIn.s {a : Alg} (h : AlgIn a) : SAlgIn a := ⟨h.b, fun hs => by
  obtain ⟨h1, h2, h3⟩ := shape_iff.1 hs
  exact h.ok h1 h2 h3⟩
theorem PrIn.s {x : Pr} (h : PrIn x) : SPrIn x := ⟨h.c.s, h.o.s, h.z⟩
theorem arg_pair {d : D} (h : tyPair.arg d) : ∃ x : Pr, d = pairD x ∧ PrIn x ∧ I64 x.c.p ∧ I64 x.c.n ∧ I64 x.o.p ∧ I64 x.o.n := by
  obtain ⟨xs, rfl, h⟩ := h
  obtain ⟨_, _, rfl, hc, _, _, rfl, ho, _, _, rfl, hz, rfl⟩ := h
  obtain ⟨c, rfl, gc⟩ := has_alg hc
  obtain ⟨o, rfl, go⟩ := has_alg ho
  obtain ⟨z, rfl, bz⟩ := allU8_arr (n := 6) (allU8_arr (n := 6) allU8_int) _ hz
  refine ⟨⟨c, o, fun i k => if i < 6 ∧ k < 6 then z (i * 6 + k) else 0⟩, ?_, ⟨gc.1, go.1, fun i k => ?_⟩, gc.2.1, gc.2.2, go.2.1, go.2.2⟩
  · refine congrArg D.agg (arr_of (by rw [List.length_append, List.length_append, List.length_append, cel_len, algL, algL, arr_len, arr_len]; rfl) fun q hq => ?_)
    unfold pairF
    have l : ∀ a : Alg, (algL a).length = 224 := fun a => arr_len ..
    by_cases c0 : q < 224
    · rw [List.getElem?_append_left (by rw [l]; exact c0), if_pos c0]
      exact arr_get c0
    rw [if_neg c0, List.getElem?_append_right (by rw [l]; omega), l]
    by_cases c1 : q < 448
    · rw [List.getElem?_append_left (by rw [l]; omega), if_pos c1]
      exact arr_get (by omega)
    rw [if_neg c1, List.getElem?_append_right (by rw [l]; omega), l, List.append_nil, cel_get (by omega)]
    have e : (if (q - 448) / 6 < 6 ∧ (q - 448) % 6 < 6 then z ((q - 448) / 6 * 6 + (q - 448) % 6) else 0) = z (q - 448) := by
      rw [if_pos (by omega), show (q - 448) / 6 * 6 + (q - 448) % 6 = q - 448 by omega]
    have e2 : q - 224 - 224 = q - 448 := by omega
    dsimp only
    rw [e, e2]
  · show 0 ≤ (if _ then _ else (0 : Int)) ∧ (if _ then _ else (0 : Int)) ≤ 255
    split
    · exact bz _
    · omega
end Go.X
