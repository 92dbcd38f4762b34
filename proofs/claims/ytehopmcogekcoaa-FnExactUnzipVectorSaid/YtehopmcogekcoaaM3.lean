import Derived.Test.YtehopmcogekcoaaM2
import Derived.Test.YtehopmcogekcoaaX5
set_option linter.all false
namespace Go.X
def ldN (m : Nat) (r : Row) : Nat := (leadF m r).toNat
def redBy (p : Int) (m : Nat) (out : List Row) (r : Row) : Nat → Row
  | 0 => r
  | k + 1 => lessR p (redBy p m out r k (ldN m (out.getD k Z))) (redBy p m out r k) (out.getD k Z)
def insN (p : Int) (m at_ : Nat) (own : Row) (out : List Row) : Nat → List Row × Bool
  | 0 => ([], false)
  | k + 1 =>
    let s := insN p m at_ own out k
    let s' := if s.2 = false ∧ (at_ : Int) < leadF m (out.getD k Z) then (s.1 ++ [own], true) else s
    (s'.1 ++ [elimR p at_ own (out.getD k Z)], s'.2)
def echOwn (p : Int) (m : Nat) (out : List Row) (r : Row) : Row :=
  scaleR p (invF p (redBy p m out r out.length (ldN m (redBy p m out r out.length)))) (redBy p m out r out.length)
def echStep (p : Int) (m : Nat) (out : List Row) (r : Row) : List Row :=
  if leadF m (redBy p m out r out.length) < 0 then out else
  let s := insN p m (ldN m (redBy p m out r out.length)) (echOwn p m out r) out out.length
  if s.2 then s.1 else s.1 ++ [echOwn p m out r]
def echN (p : Int) (m : Nat) (rows : List Row) : Nat → List Row
  | 0 => []
  | i + 1 => echStep p m (echN p m rows i) (rows.getD i Z)
def echF (p : Int) (m : Nat) (rows : List Row) : List Row := echN p m rows rows.length
section
variable {p : Int} {m : Nat} {out : List Row} {ld : Nat → Nat} {r : Row}
theorem RR.ldN (h : RR p m out ld) {i : Nat} (hi : i < out.length) : ldN m (out.getD i Z) = ld i := by
  unfold Go.X.ldN; rw [(h.lead i hi).leadF]; rfl
theorem redBy_rw (hp : 1 ≤ p) (hr : Rw p r) : ∀ k, Rw p (redBy p m out r k)
  | 0 => hr
  | _ + 1 => lessR_rw hp
theorem redBy_zero (h : RR p m out ld) (hp : 1 ≤ p) : ∀ k, k ≤ out.length → ∀ i, i < k → redBy p m out r k (ld i) = 0
  | 0, _, i, hi => by omega
  | k + 1, hk, i, hi => by
    show (redBy p m out r k (ld i) - redBy p m out r k (Go.X.ldN m (out.getD k Z)) * out.getD k Z (ld i)) % p = 0
    rw [h.ldN (by omega)]
    rcases Nat.lt_or_ge i k with h1 | h1
    · rw [redBy_zero h hp k (by omega) i h1, h.zero i k (by omega) (by omega) (by omega), Int.mul_zero]; simp
    · rw [show i = k by omega, (h.lead k (by omega)).2.1, Int.mul_one, Int.sub_self]; simp
theorem redBy_dot {z : Row} (h : RR p m out ld) (hz : Ker p m out z) : ∀ k, k ≤ out.length → dot m (redBy p m out r k) z % p = dot m r z % p
  | 0, _ => rfl
  | k + 1, hk => by
    show dot m (lessR p _ _ _) z % p = _
    rw [dot_less, ← redBy_dot h hz k (by omega)]
    have e := hz _ (getD_mem (show k < out.length by omega))
    have := cg_sub (p := p) (a := dot m (redBy p m out r k) z) rfl (cg_mul (a := redBy p m out r k (Go.X.ldN m (out.getD k Z))) rfl (show dot m (out.getD k Z) z % p = 0 % p by rw [e]; simp))
    rw [this, Int.mul_zero, Int.sub_zero]
theorem lead_of {m : Nat} {r : Row} (h : 0 ≤ leadF m r) : ldN m r < m ∧ r (ldN m r) ≠ 0 ∧ (∀ j, j < ldN m r → r j = 0) ∧ leadF m r = ldN m r := by
  unfold leadF at *
  rcases idxF_cases (fun i => r i != 0) m with ⟨e, _⟩ | ⟨i, hi, e, hq, hn⟩
  · rw [e] at h; omega
  · unfold ldN leadF
    rw [e]
    simp only [Int.toNat_natCast]
    exact ⟨hi, by simpa using hq, fun j hj => by simpa using hn j hj, trivial⟩
theorem lead_no {m : Nat} {r : Row} (h : leadF m r < 0) : ∀ j, j < m → r j = 0 := by
  unfold leadF at h
  rcases idxF_cases (fun i => r i != 0) m with ⟨e, hn⟩ | ⟨i, hi, e, hq, hn⟩
  · exact fun j hj => by simpa using hn j hj
  · rw [e] at h; omega
theorem echOwn_ok (h : RR p m out ld) (hp : p ∈ primes) (hr : Rw p r) (hl : 0 ≤ leadF m (redBy p m out r out.length)) :
    IsLead m (echOwn p m out r) (ldN m (redBy p m out r out.length)) ∧ Rw p (echOwn p m out r) ∧ ∀ i, i < out.length → echOwn p m out r (ld i) = 0 := by
  have hp2 := prime_bd hp
  obtain ⟨a1, a2, a3, _⟩ := lead_of hl
  have hrw := redBy_rw (m := m) (out := out) (by omega) hr out.length
  refine ⟨scale_lead hp hrw a1 a2 a3, scaleR_rw (by omega), fun i hi => ?_⟩
  show redBy p m out r out.length (ld i) * _ % p = 0
  rw [redBy_zero h (by omega) out.length (Nat.le_refl _) i hi, Int.zero_mul]; simp
theorem insN_len (p : Int) (m at_ : Nat) (own : Row) (out : List Row) : ∀ k, (insN p m at_ own out k).1.length + 1 ≤ 2 * k + 1
  | 0 => by simp [insN]
  | k + 1 => by
    have := insN_len p m at_ own out k
    unfold insN
    dsimp only
    split
    · simp; omega
    · simp; omega
def insAt (p : Int) (q at_ : Nat) (own : Row) (out : List Row) : List Row := (out.take q).map (elimR p at_ own) ++ own :: (out.drop q).map (elimR p at_ own)
theorem take_getD {L : List Row} {k : Nat} (h : k < L.length) : L.take (k + 1) = L.take k ++ [L.getD k Z] := by
  rw [List.take_succ]; simp [h]
theorem insN_eq {at_ q : Nat} {own : Row} (h : RR p m out ld) (hq : q ≤ out.length) (h1 : ∀ i, i < q → ld i ≤ at_) (h2 : ∀ i, q ≤ i → i < out.length → at_ < ld i) : ∀ k, k ≤ out.length →
    insN p m at_ own out k = if k ≤ q then ((out.take k).map (elimR p at_ own), false) else ((out.take q).map (elimR p at_ own) ++ own :: ((out.take k).drop q).map (elimR p at_ own), true)
  | 0, _ => by simp [insN]
  | k + 1, hk => by
    have ih := insN_eq (own := own) h hq h1 h2 k (by omega)
    have hl := (h.lead k (by omega)).leadF
    unfold insN
    rw [ih]
    rcases Nat.lt_trichotomy k q with c | c | c
    · have := h1 k c
      rw [if_pos (by omega), if_pos (by omega)]
      dsimp only
      rw [if_neg (by rw [hl]; omega), take_getD (by omega)]
      simp
    · have := h2 k (by omega) (by omega)
      rw [if_pos (by omega), if_neg (by omega)]
      dsimp only
      rw [if_pos ⟨rfl, by rw [hl]; omega⟩, take_getD (by omega), ← c]
      simp [List.drop_append, show k ≤ out.length by omega]
    · rw [if_neg (by omega), if_neg (by omega)]
      dsimp only
      rw [if_neg (by simp), take_getD (by omega), List.drop_append_of_le_length (by simp; omega)]
      simp
theorem place (h : RR p m out ld) (at_ : Nat) : ∃ q, q ≤ out.length ∧ (∀ i, i < q → ld i ≤ at_) ∧ ∀ i, q ≤ i → i < out.length → at_ < ld i := by
  have key : ∀ n, n ≤ out.length → ∃ q, q ≤ n ∧ (∀ i, i < q → ld i ≤ at_) ∧ ∀ i, q ≤ i → i < n → at_ < ld i := by
    intro n
    induction n with
    | zero => exact fun _ => ⟨0, Nat.le_refl _, fun i hi => by omega, fun i _ hi => by omega⟩
    | succ n ih =>
      intro hn
      obtain ⟨q, hq, h1, h2⟩ := ih (by omega)
      by_cases c : at_ < ld n
      · exact ⟨q, by omega, h1, fun i hi hin => by
          rcases Nat.lt_or_ge i n with h3 | h3
          · exact h2 i hi h3
          · rw [show i = n by omega]; exact c⟩
      · refine ⟨n + 1, Nat.le_refl _, fun i hi => ?_, fun i h3 h4 => by omega⟩
        rcases Nat.lt_or_ge i n with h3 | h3
        · have := h.sort i n h3 (by omega); omega
        · rw [show i = n by omega]; omega
  exact key out.length (Nat.le_refl _)
theorem echStep_eq (h : RR p m out ld) (hl : 0 ≤ leadF m (redBy p m out r out.length)) : ∃ q, q ≤ out.length ∧ (∀ i, i < q → ld i ≤ ldN m (redBy p m out r out.length)) ∧ (∀ i, q ≤ i → i < out.length → ldN m (redBy p m out r out.length) < ld i) ∧
    echStep p m out r = insAt p q (ldN m (redBy p m out r out.length)) (echOwn p m out r) out := by
  obtain ⟨q, hq, h1, h2⟩ := place h (ldN m (redBy p m out r out.length))
  refine ⟨q, hq, h1, h2, ?_⟩
  unfold echStep insAt
  rw [if_neg (by omega)]
  dsimp only
  rw [insN_eq h hq h1 h2 _ (Nat.le_refl _)]
  by_cases c : out.length ≤ q
  · rw [if_pos c]
    have : q = out.length := by omega
    subst this
    simp
  · rw [if_neg c]
    simp
theorem insAt_len (q at_ : Nat) (own : Row) : (insAt p q at_ own out).length = out.length + 1 := by simp [insAt]; omega
theorem insAt_get {q at_ : Nat} {own : Row} (hq : q ≤ out.length) (i : Nat) (hi : i < out.length + 1) :
    (insAt p q at_ own out).getD i Z = if i < q then elimR p at_ own (out.getD i Z) else if i = q then own else elimR p at_ own (out.getD (i - 1) Z) := by
  have h1 : ((out.take q).map (elimR p at_ own)).length = q := by simp; omega
  unfold insAt
  by_cases c : i < q
  · rw [if_pos c, getD_left (by omega), getD_map (by simp; omega), getD_take c]
  · rw [if_neg c, getD_right (by omega), h1]
    by_cases c2 : i = q
    · rw [if_pos c2, show i - q = 0 by omega]; rfl
    · rw [if_neg c2]
      obtain ⟨d, rfl⟩ : ∃ d, i = q + 1 + d := ⟨i - q - 1, by omega⟩
      rw [show q + 1 + d - q = d + 1 by omega, show q + 1 + d - 1 = q + d by omega]
      show ((out.drop q).map (elimR p at_ own)).getD d Z = _
      rw [getD_map (by simp; omega), getD_drop]
theorem insAt_rr {q at_ : Nat} {own : Row} (h : RR p m out ld) (hp : 1 ≤ p) (hq : q ≤ out.length) (h1 : ∀ i, i < q → ld i ≤ at_) (h2 : ∀ i, q ≤ i → i < out.length → at_ < ld i)
    (ho : IsLead m own at_) (hr : Rw p own) (hz : ∀ i, i < out.length → own (ld i) = 0) : RR p m (insAt p q at_ own out) (fun i => if i < q then ld i else if i = q then at_ else ld (i - 1)) := by
  have ne : ∀ i, i < out.length → ld i ≠ at_ := fun i hi e => by have := hz i hi; rw [e, ho.2.1] at this; omega
  have lead1 : ∀ i, i < out.length → IsLead m (elimR p at_ own (out.getD i Z)) (ld i) := fun i hi => by
    have hrw := h.rw _ (getD_mem hi)
    obtain ⟨a1, a2, a3⟩ := h.lead i hi
    refine ⟨a1, by rw [elim_zero hrw (hz i hi)]; exact a2, fun j hj => ?_⟩
    rcases Nat.lt_or_ge at_ (ld i) with c | c
    · rw [elim_none hrw (a3 at_ c)]; exact a3 j hj
    · rw [elim_zero hrw (ho.2.2 j (by omega))]; exact a3 j hj
  have z1 : ∀ i j, i < out.length → j < out.length → i ≠ j → elimR p at_ own (out.getD j Z) (ld i) = 0 := fun i j hi hj hij => by
    rw [elim_zero (h.rw _ (getD_mem hj)) (hz i hi)]; exact h.zero i j hi hj hij
  have z2 : ∀ j, elimR p at_ own (out.getD j Z) at_ = 0 := fun j => elim_piv ho.2.1
  refine ⟨fun x hx => ?_, fun i hi => ?_, fun i j hi hj hij => ?_, fun i j hij hj => ?_⟩
  · unfold insAt at hx
    rcases List.mem_append.1 hx with hx | hx
    · obtain ⟨y, _, rfl⟩ := List.mem_map.1 hx; exact lessR_rw hp
    · rcases List.mem_cons.1 hx with rfl | hx
      · exact hr
      · obtain ⟨y, _, rfl⟩ := List.mem_map.1 hx; exact lessR_rw hp
  · rw [insAt_len] at hi
    rw [insAt_get hq i hi]
    by_cases c : i < q
    · rw [if_pos c, if_pos c]; exact lead1 i (by omega)
    · rw [if_neg c, if_neg c]
      by_cases c2 : i = q
      · rw [if_pos c2, if_pos c2]; exact ho
      · rw [if_neg c2, if_neg c2]; exact lead1 (i - 1) (by omega)
  · rw [insAt_len] at hi hj
    rw [insAt_get hq j hj]
    by_cases c : i < q
    · rw [if_pos c]
      by_cases d : j < q
      · rw [if_pos d]; exact z1 i j (by omega) (by omega) hij
      · rw [if_neg d]
        by_cases d2 : j = q
        · rw [if_pos d2]; exact hz i (by omega)
        · rw [if_neg d2]; exact z1 i (j - 1) (by omega) (by omega) (by omega)
    · rw [if_neg c]
      by_cases c2 : i = q
      · rw [if_pos c2]
        by_cases d : j < q
        · rw [if_pos d]; exact z2 j
        · rw [if_neg d, if_neg (by omega)]; exact z2 (j - 1)
      · rw [if_neg c2]
        by_cases d : j < q
        · rw [if_pos d]; exact z1 (i - 1) j (by omega) (by omega) (by omega)
        · rw [if_neg d]
          by_cases d2 : j = q
          · rw [if_pos d2]; exact hz (i - 1) (by omega)
          · rw [if_neg d2]; exact z1 (i - 1) (j - 1) (by omega) (by omega) (by omega)
  · rw [insAt_len] at hj
    by_cases c : i < q
    · rw [if_pos c]
      by_cases d : j < q
      · rw [if_pos d]; exact h.sort i j hij (by omega)
      · rw [if_neg d]
        by_cases d2 : j = q
        · rw [if_pos d2]; have := h1 i c; have := ne i (by omega); omega
        · rw [if_neg d2]; exact h.sort i (j - 1) (by omega) (by omega)
    · rw [if_neg c, if_neg (show ¬ j < q by omega), if_neg (show ¬ j = q by omega)]
      by_cases c2 : i = q
      · rw [if_pos c2]; exact h2 (j - 1) (by omega) (by omega)
      · rw [if_neg c2]; exact h.sort (i - 1) (j - 1) (by omega) (by omega)
theorem insAt_ker {q at_ : Nat} {own z : Row} (hz : dot m own z % p = 0) : Ker p m (insAt p q at_ own out) z ↔ Ker p m out z := by
  unfold insAt
  constructor
  · intro h x hx
    rw [← dot_elim (c := at_) (r := x) hz]
    rcases List.mem_append.1 (show x ∈ out.take q ++ out.drop q by rw [List.take_append_drop]; exact hx) with h1 | h1
    · exact h _ (List.mem_append.2 (.inl (List.mem_map.2 ⟨x, h1, rfl⟩)))
    · exact h _ (List.mem_append.2 (.inr (List.mem_cons.2 (.inr (List.mem_map.2 ⟨x, h1, rfl⟩)))))
  · intro h x hx
    rcases List.mem_append.1 hx with hx | hx
    · obtain ⟨y, hy, rfl⟩ := List.mem_map.1 hx
      rw [dot_elim hz]; exact h _ (List.mem_of_mem_take hy)
    · rcases List.mem_cons.1 hx with rfl | hx
      · exact hz
      · obtain ⟨y, hy, rfl⟩ := List.mem_map.1 hx
        rw [dot_elim hz]; exact h _ (List.mem_of_mem_drop hy)
theorem echStep_rr (h : RR p m out ld) (hp : p ∈ primes) (hr : Rw p r) : (∃ ld', RR p m (echStep p m out r) ld') ∧ out.length ≤ (echStep p m out r).length ∧ (echStep p m out r).length ≤ out.length + 1 := by
  have hp2 := prime_bd hp
  by_cases c : leadF m (redBy p m out r out.length) < 0
  · have e : echStep p m out r = out := by unfold echStep; rw [if_pos c]
    rw [e]; exact ⟨⟨ld, h⟩, by omega, by omega⟩
  · obtain ⟨a1, a2, a3⟩ := echOwn_ok h hp hr (by omega)
    obtain ⟨q, hq, h1, h2, e⟩ := echStep_eq (r := r) h (by omega)
    rw [e]
    exact ⟨⟨_, insAt_rr h (by omega) hq h1 h2 a1 a2 a3⟩, by rw [insAt_len]; omega, by rw [insAt_len]; omega⟩
theorem echStep_ker {z : Row} (h : RR p m out ld) (hp : p ∈ primes) (hr : Rw p r) : Ker p m (echStep p m out r) z ↔ (Ker p m out z ∧ dot m r z % p = 0) := by
  have hp2 := prime_bd hp
  by_cases c : leadF m (redBy p m out r out.length) < 0
  · have e : echStep p m out r = out := by unfold echStep; rw [if_pos c]
    rw [e]
    refine ⟨fun hz => ⟨hz, ?_⟩, fun hz => hz.1⟩
    rw [← redBy_dot h hz _ (Nat.le_refl _)]
    unfold dot
    rw [sumN_zero fun i hi => by rw [lead_no c i hi, Int.zero_mul]]; simp
  · obtain ⟨q, hq, h1, h2, e⟩ := echStep_eq (r := r) h (by omega)
    obtain ⟨a1, a2, a3, _⟩ := lead_of (m := m) (r := redBy p m out r out.length) (by omega)
    have hx := redBy_rw (m := m) (out := out) (by omega) hr out.length (ldN m (redBy p m out r out.length))
    have hs : dot m (echOwn p m out r) z % p = 0 ↔ dot m (redBy p m out r out.length) z % p = 0 := dot_scale0 (inv_ex hp ⟨by omega, hx.2⟩)
    rw [e]
    constructor
    · intro hz
      have ho : dot m (echOwn p m out r) z % p = 0 := hz _ (by unfold insAt; simp)
      have hk := (insAt_ker ho).1 hz
      exact ⟨hk, by rw [← redBy_dot h hk _ (Nat.le_refl _)]; exact hs.1 ho⟩
    · rintro ⟨hk, hd⟩
      refine (insAt_ker (hs.2 ?_)).2 hk
      rw [redBy_dot h hk _ (Nat.le_refl _)]; exact hd
end
theorem echN_rr {p : Int} {m : Nat} {rows : List Row} (hp : p ∈ primes) (hR : RwL p rows) : ∀ i, i ≤ rows.length → (∃ ld, RR p m (echN p m rows i) ld) ∧ (echN p m rows i).length ≤ i
  | 0, _ => ⟨⟨fun _ => 0, ⟨(fun r hr => by cases hr), (fun i hi => absurd hi (by simp [echN])), (fun i j hi => absurd hi (by simp [echN])), (fun i j _ hj => absurd hj (by simp [echN]))⟩⟩, by simp [echN]⟩
  | i + 1, hi => by
    obtain ⟨⟨ld, h⟩, hl⟩ := echN_rr hp hR i (by omega)
    obtain ⟨h1, _, h2⟩ := echStep_rr (r := rows.getD i Z) h hp (hR _ (getD_mem (by omega)))
    exact ⟨h1, by show (echStep p m _ _).length ≤ _; omega⟩
theorem echN_ker {p : Int} {m : Nat} {rows : List Row} {z : Row} (hp : p ∈ primes) (hR : RwL p rows) : ∀ i, i ≤ rows.length → (Ker p m (echN p m rows i) z ↔ Ker p m (rows.take i) z)
  | 0, _ => ⟨fun _ r hr => by simp at hr, fun _ r hr => by cases hr⟩
  | i + 1, hi => by
    obtain ⟨⟨ld, h⟩, _⟩ := echN_rr (m := m) hp hR i (by omega)
    show Ker p m (echStep p m _ _) z ↔ _
    rw [echStep_ker h hp (hR _ (getD_mem (by omega))), echN_ker hp hR i (by omega), take_getD (by omega)]
    constructor
    · rintro ⟨a, b⟩ x hx
      rcases List.mem_append.1 hx with hx | hx
      · exact a x hx
      · simp only [List.mem_singleton] at hx; subst hx; exact b
    · exact fun a => ⟨fun x hx => a x (List.mem_append.2 (.inl hx)), a _ (by simp)⟩
theorem echF_rr {p : Int} {m : Nat} {rows : List Row} (hp : p ∈ primes) (hR : RwL p rows) : ∃ ld, RR p m (echF p m rows) ld := (echN_rr hp hR _ (Nat.le_refl _)).1
theorem echF_ker {p : Int} {m : Nat} {rows : List Row} {z : Row} (hp : p ∈ primes) (hR : RwL p rows) : Ker p m (echF p m rows) z ↔ Ker p m rows z := by
  unfold echF; rw [echN_ker hp hR _ (Nat.le_refl _), List.take_length]
end Go.X
namespace Go.X
open Go Go.RowKit
noncomputable def dB (p : Prop) : Bool := @decide p (Classical.propDecidable p)
theorem dB_iff {p : Prop} : dB p = true ↔ p := by unfold dB; exact @decide_eq_true_iff p (Classical.propDecidable p)
theorem dB_t {p : Prop} (h : p) : dB p = true := dB_iff.2 h
theorem dB_f {p : Prop} (h : ¬ p) : dB p = false := by
  cases e : dB p with
  | false => rfl
  | true => exact absurd (dB_iff.1 e) h
theorem yes {p : Prop} (h : p) : D.bool true = .bool (dB p) := by rw [dB_t h]
theorem no {p : Prop} (h : ¬ p) : D.bool false = .bool (dB p) := by rw [dB_f h]
def VEq (v w : Nat → Int) : Prop := ∀ i : Nat, i < 6 → v i = w i
instance (v w : Nat → Int) : Decidable (VEq v w) := by unfold VEq; infer_instance
theorem eq_vec {v w : Nat → Int} : decide (VEq v w) = true ↔ vecL v = vecL w := by
  rw [decide_eq_true_eq]
  exact ⟨fun h => cel_ext h, fun h => cel_inj h⟩
theorem conf_vec (v : Nat → Int) : Conf [.int .u8, .int .u8, .int .u8, .int .u8, .int .u8, .int .u8] (vecL v) := by
  refine ⟨cel_len .., fun i k x hk hx => ?_⟩
  have hi : i < 6 := by have := (List.getElem?_eq_some_iff.1 hx).1; rwa [cel_len] at this
  rw [cel_get hi] at hx
  simp only [Option.some.injEq] at hx
  subst hx
  have : k = .int .u8 := by
    have h6 : i = 0 ∨ i = 1 ∨ i = 2 ∨ i = 3 ∨ i = 4 ∨ i = 5 := by omega
    rcases h6 with rfl | rfl | rfl | rfl | rfl | rfl <;> simp at hk <;> exact hk.symm
  subst this
  exact .int _ _
def sSolveF (p : Int) (n : Nat) (L : List Row) : Option Row :=
  if L ≠ [] ∧ (echF p (n + 1) L).length = n ∧ ∀ i : Nat, i < n → leadF (n + 1) ((echF p (n + 1) L).getD i Z) = i then some fun i => (echF p (n + 1) L).getD i Z n else none
def solD (n : Nat) : Option Row → Res
  | none => .tup [.emp, .bool false]
  | some r => .tup [rowD n r, .bool true]
def findR (a : Alg) (i k : Nat) : Row := fun j => if j < a.n.toNat then a.T j i k else if i = k then 1 else 0
def findIn (a : Alg) (i : Nat) : Nat → List Row
  | 0 => []
  | k + 1 => findIn a i k ++ [findR a i k]
def findOut (a : Alg) : Nat → List Row
  | 0 => []
  | i + 1 => findOut a i ++ findIn a i a.n.toNat
def vecR (m : Nat) (r : Row) : Nat → Int := fun i => if i < m then r i else 0
def findF (a : Alg) : Option (Nat → Int) :=
  match sSolveF a.p a.n.toNat (findOut a a.n.toNat) with
  | none => none
  | some r => if ∀ i : Nat, i < a.n.toNat → VEq (timesV a (basV i) (vecR a.n.toNat r)) (basV i) then some (vecR a.n.toNat r) else none
def ShapeP (a : Alg) : Prop := a.p ∈ primes ∧ (1 ≤ a.n ∧ a.n ≤ 6) ∧ Small a.f a.n a.p ∧ ∀ i j : Nat, i < 6 → j < 6 → Small (a.T i j) (if a.n ≤ (i : Int) ∨ a.n ≤ (j : Int) then 0 else a.n) a.p
def AssocP (a : Alg) : Prop := ∀ i j k : Nat, (i : Int) < a.n → (j : Int) < a.n → (k : Int) < a.n → VEq (timesV a (a.T i j) (basV k)) (timesV a (basV i) (a.T j k))
theorem findIn_len (a : Alg) (i : Nat) : ∀ k, (findIn a i k).length = k
  | 0 => rfl
  | k + 1 => by simp [findIn, findIn_len a i k]
theorem findOut_len (a : Alg) : ∀ i, (findOut a i).length = i * a.n.toNat
  | 0 => by simp [findOut]
  | i + 1 => by simp [findOut, findOut_len a i, findIn_len, Nat.add_mul]
end Go.X
namespace Go.X
open Go Go.RowKit
def Bd (B : Int) (r : Row) : Prop := ∀ i, 0 ≤ r i ∧ r i ≤ B
theorem Rw.bd {p : Int} {r : Row} (h : Rw p r) (hp : p ≤ 1000) : Bd 1000 r := fun i => by have := h i; omega
def C_n (P : Program) (N : FN) : Prop := ∀ {sz : Nat} {l : List (List D)} {e off : Nat} {a : Alg}, AlgAt l e off a → Can P N.impl_Algebra_n [.pd sz l e off] (.val (.int .i64 a.n))
def C_in (P : Program) (N : FN) : Prop := ∀ {n lo hi : Int}, Can P N.impl_in [.int .i64 n, .int .i64 lo, .int .i64 hi] (.val (.bool (decide (lo ≤ n ∧ n ≤ hi))))
def C_sIn (P : Program) (N : FN) : Prop := ∀ {n lo hi : Int}, Can P N.spec_l01In [.int .i64 n, .int .i64 lo, .int .i64 hi] (.val (.bool (decide (lo ≤ n ∧ n ≤ hi))))
def C_Index (P : Program) (N : FN) : Prop := ∀ {m : Nat} {f : Nat → Int} {x : Int}, m ≤ 1000000 → Can P N.slices_Index_Lint64_int64 [rowD m f, .int .i64 x] (.val (.int .i64 (idxF (fun i => f i == x) m)))
def C_Contains (P : Program) (N : FN) : Prop := ∀ {m : Nat} {f : Nat → Int} {x : Int}, m ≤ 1000000 → Can P N.slices_Contains_Lint64_int64 [rowD m f, .int .i64 x] (.val (.bool (decide (0 ≤ idxF (fun i => f i == x) m))))
def C_isPrime (P : Program) (N : FN) : Prop := ∀ {p : Int}, Can P N.impl_isPrime [.int .i64 p] (.val (.bool (decide (p ∈ primes))))
def C_sPrime (P : Program) (N : FN) : Prop := ∀ {p : Int}, Can P N.spec_l01Prime [.int .i64 p] (.val (.bool (decide (p ∈ primes))))
def C_rest (P : Program) (N : FN) : Prop := ∀ {x p : Int}, -1000000000000 ≤ x ∧ x ≤ 1000000000000 → 1 ≤ p ∧ p ≤ 1000 → Can P N.impl_rest [.int .i64 x, .int .i64 p] (.val (.int .i64 (x % p)))
def C_sMod (P : Program) (N : FN) : Prop := ∀ {x p : Int}, -1000000000000 ≤ x ∧ x ≤ 1000000000000 → 1 ≤ p ∧ p ≤ 1000 → Can P N.spec_l01Mod [.int .i64 p, .int .i64 x] (.val (.int .i64 (x % p)))
def C_power (P : Program) (N : FN) : Prop := ∀ {x k p : Int}, 0 ≤ x ∧ x ≤ 1000 → 0 ≤ k ∧ k ≤ 1000000 → 1 ≤ p ∧ p ≤ 1000 → Can P N.impl_power [.int .i64 x, .int .i64 k, .int .i64 p] (.val (.int .i64 (powR x p k.toNat)))
def C_inverse (P : Program) (N : FN) : Prop := ∀ {x p : Int}, p ∈ primes → 0 < x ∧ x < p → Can P N.impl_inverse [.int .i64 x, .int .i64 p] (.val (.int .i64 (invF p x)))
def C_sInverse (P : Program) (N : FN) : Prop := ∀ {x p : Int}, 2 ≤ p ∧ p ≤ 1000 → -1000000000 ≤ x ∧ x ≤ 1000000000 → Can P N.spec_l01Inverse [.int .i64 p, .int .i64 x] (.val (.int .i64 (invF p x)))
def C_isVector (P : Program) (N : FN) : Prop := ∀ {v : Nat → Int} {n p : Int}, Byts v → Can P N.impl_isVector [vecD v, .int .i64 n, .int .i64 p] (.val (.bool (decide (Small v n p))))
def C_sSmall (P : Program) (N : FN) : Prop := ∀ {v : Nat → Int} {n p : Int}, Byts v → Can P N.spec_l01Small [.int .i64 p, .int .i64 n, vecD v] (.val (.bool (decide (Small v n p))))
def C_sVector (P : Program) (N : FN) : Prop := ∀ {a : Alg} {v : Nat → Int}, Byts v → Can P N.spec_l01Vector [algD a, vecD v] (.val (.bool (decide (Small v a.n a.p))))
def C_basis (P : Program) (N : FN) : Prop := ∀ {i : Nat}, i < 6 → Can P N.impl_basis [.int .i64 i] (.val (vecD (basV i)))
def C_sBasis (P : Program) (N : FN) : Prop := ∀ {i : Nat}, i < 6 → Can P N.spec_l01Basis [.int .i64 i] (.val (vecD (basV i)))
def C_add (P : Program) (N : FN) : Prop := ∀ {sz : Nat} {l : List (List D)} {e off : Nat} {a : Alg} {v w : Nat → Int} {k : Int}, AlgAt l e off a → Byts v → Byts w → 1 ≤ a.p ∧ a.p ≤ 255 → 0 ≤ k ∧ k ≤ 1000 →
  Can P N.impl_Algebra_add [.pd sz l e off, vecD v, vecD w, .int .i64 k] (.val (vecD (addV a.p k v w)))
def C_sAdd (P : Program) (N : FN) : Prop := ∀ {p : Int} {v w : Nat → Int} {k : Int}, Byts v → Byts w → 1 ≤ p ∧ p ≤ 255 → 0 ≤ k ∧ k ≤ 1000 →
  Can P N.spec_l01Add [.int .i64 p, vecD v, vecD w, .int .i64 k] (.val (vecD (addV p k v w)))
def C_form (P : Program) (N : FN) : Prop := ∀ {sz : Nat} {l : List (List D)} {e off : Nat} {a : Alg} {v : Nat → Int}, AlgAt l e off a → AlgB a → Byts v → 1 ≤ a.p → Can P N.impl_Algebra_form [.pd sz l e off, vecD v] (.val (.int .i64 (formV a v)))
def C_sForm (P : Program) (N : FN) : Prop := ∀ {a : Alg} {v : Nat → Int}, AlgB a → Byts v → 1 ≤ a.p → Can P N.spec_l01Form [algD a, vecD v] (.val (.int .i64 (formV a v)))
def C_scaled (P : Program) (N : FN) : Prop := ∀ {m : Nat} {r : Row} {k p : Int}, m ≤ 1000000 → Bd 1000 r → 0 ≤ k ∧ k ≤ 1000 → 1 ≤ p ∧ p ≤ 1000 → Can P N.impl_scaled [rowD m r, .int .i64 k, .int .i64 p] (.val (rowD m (scaleR p k r)))
def C_lessTimes (P : Program) (N : FN) : Prop := ∀ {m : Nat} {r o : Row} {k p : Int}, m ≤ 1000000 → Bd 1000 r → Bd 1000 o → 0 ≤ k ∧ k ≤ 1000 → 1 ≤ p ∧ p ≤ 1000 → Can P N.impl_lessTimes [rowD m r, rowD m o, .int .i64 k, .int .i64 p] (.val (rowD m (lessR p k r o)))
def C_sLess (P : Program) (N : FN) : Prop := ∀ {m : Nat} {r o : Row} {k p : Int}, m ≤ 1000000 → Bd 1000 r → Bd 1000 o → 0 ≤ k ∧ k ≤ 1000 → 1 ≤ p ∧ p ≤ 1000 → Can P N.spec_l01Less [.int .i64 p, rowD m r, rowD m o, .int .i64 k] (.val (rowD m (lessR p k r o)))
def C_sOwn (P : Program) (N : FN) : Prop := ∀ {m : Nat} {r : Row}, m ≤ 1000000 → Can P N.spec_l01Own [rowD m r] (.own 1 (row m r))
def C_sLead (P : Program) (N : FN) : Prop := ∀ {m : Nat} {r : Row}, m ≤ 1000000 → Can P N.spec_l01Lead [rowD m r] (.val (.int .i64 (leadF m r)))
def C_IdxInt (P : Program) (N : FN) : Prop := ∀ {m : Nat} {f : Row} {g : FuncId} {q : Nat → Bool}, m ≤ 1000000 → (∀ i, i < m → Can P g [.int .i64 (f i)] (.val (.bool (q i)))) → Can P N.slices_IndexFunc_Lint64_int64 [rowD m f, .fn g [] []] (.val (.int .i64 (idxF q m)))
def C_leader1 (P : Program) (N : FN) : Prop := ∀ {x : Int}, Can P N.impl_leader_1 [.int .i64 x] (.val (.bool (x != 0)))
def C_leader (P : Program) (N : FN) : Prop := ∀ {m : Nat} {r : Row}, m ≤ 1000000 → Can P N.impl_leader [rowD m r] (.val (.int .i64 (leadF m r)))
def C_IdxRows (P : Program) (N : FN) : Prop := ∀ {m : Nat} {L : List Row} {g : FuncId} {c : D} {q : Nat → Bool}, L.length ≤ 1000000 → (∀ i, i < L.length → Can P g [rowD m (L.getD i Z), c] (.val (.bool (q i)))) → Can P N.slices_IndexFunc_LLint64_Lint64 [rowsD m L, .fn g [] [c]] (.val (.int .i64 (idxF q L.length)))
def C_reduce1 (P : Program) (N : FN) : Prop := ∀ {m c : Nat} {r : Row}, c < m → Can P N.impl_reduce_1 [rowD m r, .pd 1 [[.int .i64 c]] 0 0] (.val (.bool (r c != 0)))
def C_Clone (P : Program) (N : FN) : Prop := ∀ {l : List (List D)}, 0 < l.length ∧ l.length ≤ 1000000 → Can P N.slices_Clone_LLint64_Lint64 [.lst 1 l] (.own 1 l)
def C_Delete (P : Program) (N : FN) : Prop := ∀ {l : List (List D)} {i j : Nat}, i < j ∧ j ≤ l.length ∧ l.length ≤ 1000000 → Can P N.slices_Delete_LLint64_Lint64 [.ownA 1 l, .int .i64 i, .int .i64 j] (.post none (.own 1 (l.take i ++ l.drop j)))
def C_times (P : Program) (N : FN) : Prop := ∀ {sz : Nat} {l : List (List D)} {e off : Nat} {a : Alg} {v w : Nat → Int}, AlgAt l e off a → AlgB a → Byts v → Byts w → 1 ≤ a.p ∧ a.p ≤ 255 → 0 ≤ a.n ∧ a.n ≤ 6 →
  Can P N.impl_Algebra_times [.pd sz l e off, vecD v, vecD w] (.val (vecD (timesV a v w)))
def C_sTimes (P : Program) (N : FN) : Prop := ∀ {a : Alg} {v w : Nat → Int}, AlgB a → Byts v → Byts w → 1 ≤ a.p ∧ a.p ≤ 255 → 0 ≤ a.n ∧ a.n ≤ 6 → Can P N.spec_l01Times [algD a, vecD v, vecD w] (.val (vecD (timesV a v w)))
def C_unitNumber (P : Program) (N : FN) : Prop := ∀ {i j : Nat}, Can P N.impl_unitNumber [.int .i64 i, .int .i64 j] (.val (.int .i64 (if i = j then 1 else 0)))
def C_vector (P : Program) (N : FN) : Prop := ∀ {m : Nat} {r : Row}, m ≤ 6 → Bd 255 r → Can P N.impl_vector [rowD m r] (.val (vecD (vecR m r)))
def C_vectorE (P : Program) (N : FN) : Prop := Can P N.impl_vector [.emp] (.val (vecD Z))
def C_reduce (P : Program) (N : FN) : Prop := ∀ {m : Nat} {L : List Row} {p : Int}, m ≤ 1000 → L.length ≤ 1000 → p ∈ primes → RwL p L → Can P N.impl_reduce [rowsD m L, .int .i64 p] (.val (rowsD m (redF p m L)))
def C_sLessO (P : Program) (N : FN) : Prop := ∀ {m : Nat} {r o : Row} {k p : Int}, m ≤ 1000000 → Bd 1000 r → Bd 1000 o → 0 ≤ k ∧ k ≤ 1000 → 1 ≤ p ∧ p ≤ 1000 → Can P N.spec_l01Less [.int .i64 p, rowD m r, rowD m o, .int .i64 k] (.own 1 (row m (lessR p k r o)))
def C_sEchelon (P : Program) (N : FN) : Prop := ∀ {m : Nat} {L : List Row} {p : Int}, m ≤ 1000 → L.length ≤ 1000 → p ∈ primes → RwL p L → Can P N.spec_l01Echelon [.int .i64 p, rowsD m L] (.val (rowsD m (echF p m L)))
def C_sSolve (P : Program) (N : FN) : Prop := ∀ {n : Nat} {L : List Row} {p : Int}, n ≤ 900 → L.length ≤ 1000 → p ∈ primes → RwL p L → Can P N.spec_l01Solve [.int .i64 p, rowsD (n + 1) L] (solD n (sSolveF p n L))
def C_sCommutative (P : Program) (N : FN) : Prop := ∀ {a : Alg}, Can P N.spec_l01Commutative [algD a] (.val (.bool (decide (∀ i : Nat, i < 6 → ∀ j : Nat, j < i → VEq (a.T i j) (a.T j i)))))
def C_sShape (P : Program) (N : FN) : Prop := ∀ {a : Alg}, AlgB a → Can P N.spec_l01Shape [algD a] (.val (.bool (dB (ShapeP a))))
def optD : Option (Nat → Int) → Res
  | none => .tup [vecD Z, .bool false]
  | some u => .tup [vecD u, .bool true]
structure AlgOk (a : Alg) : Prop where
  p : a.p ∈ primes
  n : 1 ≤ a.n ∧ a.n ≤ 6
  T : ∀ i j k, 0 ≤ a.T i j k ∧ a.T i j k < a.p
  f : ∀ i, 0 ≤ a.f i ∧ a.f i < a.p
  z : ∀ i j k : Nat, a.n ≤ (i : Int) ∨ a.n ≤ (j : Int) ∨ a.n ≤ (k : Int) → a.T i j k = 0
  fz : ∀ i : Nat, a.n ≤ (i : Int) → a.f i = 0
theorem AlgOk.b {a : Alg} (h : AlgOk a) : AlgB a := by
  have := prime_bd h.p
  exact ⟨fun i j k => by have := h.T i j k; omega, fun i => by have := h.f i; omega⟩
def C_sFind (P : Program) (N : FN) : Prop := ∀ {a : Alg}, AlgOk a → Can P N.spec_l01Find [algD a] (optD (findF a))
def C_sUnit (P : Program) (N : FN) : Prop := ∀ {a : Alg}, AlgOk a → Can P N.spec_l01Unit [algD a] (.val (vecD ((findF a).getD Z)))
def C_sAlgebra (P : Program) (N : FN) : Prop := ∀ {a : Alg}, AlgB a → (ShapeP a → AlgOk a) → Can P N.spec_l01Algebra [algD a] (.val (.bool (dB (ShapeP a ∧ AssocP a ∧ (findF a).isSome = true))))
def TabP (a : Alg) : Prop := (∀ i j : Nat, i < 6 → j < 6 → Small (a.T i j) a.n a.p ∧ (a.n ≤ (i : Int) ∨ a.n ≤ (j : Int) → VEq (a.T i j) Z)) ∧ Small a.f a.n a.p
def C_tableOk (P : Program) (N : FN) : Prop := ∀ {sz : Nat} {l : List (List D)} {e off : Nat} {a : Alg}, AlgAt l e off a → AlgB a → Can P N.impl_Algebra_tableOk [.pd sz l e off] (.val (.bool (dB (TabP a))))
def C_associative (P : Program) (N : FN) : Prop := ∀ {sz : Nat} {l : List (List D)} {e off : Nat} {a : Alg}, AlgAt l e off a → AlgOk a → Can P N.impl_Algebra_associative [.pd sz l e off] (.val (.bool (dB (AssocP a))))
def CommP (a : Alg) : Prop := ∀ i j : Nat, (i : Int) < a.n → j < i → VEq (a.T i j) (a.T j i)
def C_commutative (P : Program) (N : FN) : Prop := ∀ {sz : Nat} {l : List (List D)} {e off : Nat} {a : Alg}, AlgAt l e off a → 1 ≤ a.n ∧ a.n ≤ 6 → Can P N.impl_Algebra_commutative [.pd sz l e off] (.val (.bool (dB (CommP a))))
def tabR (a : Alg) (i : Nat) : Row := fun j => formV a (a.T i j)
def tabL (a : Alg) (n : Nat) : List Row := arr n (tabR a)
def C_table (P : Program) (N : FN) : Prop := ∀ {sz : Nat} {l : List (List D)} {e off : Nat} {a : Alg}, AlgAt l e off a → AlgOk a → Can P N.impl_Algebra_table [.pd sz l e off] (.val (rowsD a.n.toNat (tabL a a.n.toNat)))
def C_tableN (P : Program) (N : FN) : Prop := ∀ {sz : Nat} {l : List (List D)} {e off : Nat} {a : Alg}, AlgAt l e off a → AlgOk a → Can P N.impl_Algebra_table [.pd sz l e off] (.ownN 1 (arr a.n.toNat fun i => row a.n.toNat (tabR a i)))
def C_frobenius (P : Program) (N : FN) : Prop := ∀ {sz : Nat} {l : List (List D)} {e off : Nat} {a : Alg}, AlgAt l e off a → AlgOk a → Can P N.impl_Algebra_frobenius [.pd sz l e off] (.val (.bool (decide (((redF a.p a.n.toNat (tabL a a.n.toNat)).length : Int) = a.n))))
def SymP (a : Alg) : Prop := ∀ i j : Nat, i < a.n.toNat → j < a.n.toNat → tabR a j i = tabR a i j
def C_symmetric (P : Program) (N : FN) : Prop := ∀ {sz : Nat} {l : List (List D)} {e off : Nat} {a : Alg}, AlgAt l e off a → AlgOk a → Can P N.impl_Algebra_symmetric [.pd sz l e off] (.val (.bool (dB (SymP a))))
theorem sumN_one {f : Nat → Int} {i : Nat} : ∀ {n : Nat}, i < n → (∀ j, j ≠ i → f j = 0) → sumN n f = f i
  | n + 1, hi, h => by
    simp only [sumN]
    by_cases e : i = n
    · subst e
      rw [sumN_zero fun j hj => h j (by omega)]; omega
    · rw [sumN_one (show i < n by omega) h, h n (by omega)]; omega
theorem tsum_bas (a : Alg) {i j k : Nat} (hi : (i : Int) < a.n) (hj : (j : Int) < a.n) : tsum a (basV i) (basV j) k a.n.toNat = a.T i j k := by
  unfold tsum
  rw [sumN_one (i := i) (by omega) fun i' h => by
    refine sumN_zero fun j' _ => ?_
    simp [basV, h]]
  rw [sumN_one (i := j) (by omega) fun j' h => by simp [basV, h]]
  simp [basV]
theorem bas_times {a : Alg} (ha : AlgOk a) {i j : Nat} (hi : (i : Int) < a.n) (hj : (j : Int) < a.n) (k : Nat) : timesV a (basV i) (basV j) k = a.T i j k := by
  unfold timesV
  split
  · rw [tsum_bas a hi hj]; exact Int.emod_eq_of_lt (ha.T i j k).1 (ha.T i j k).2
  · rw [ha.z i j k (by omega)]
def C_sTable (P : Program) (N : FN) : Prop := ∀ {a : Alg}, AlgOk a → Can P N.spec_l02Table [algD a] (.val (rowsD a.n.toNat (tabL a a.n.toNat)))
def C_sTableN (P : Program) (N : FN) : Prop := ∀ {a : Alg}, AlgOk a → Can P N.spec_l02Table [algD a] (.ownN 1 (arr a.n.toNat fun i => row a.n.toNat (tabR a i)))
def C_sFrobenius (P : Program) (N : FN) : Prop := ∀ {a : Alg}, AlgOk a → Can P N.spec_l01Frobenius [algD a] (.val (.bool (decide (((echF a.p a.n.toNat (tabL a a.n.toNat)).length : Int) = a.n))))
def C_sSymmetric (P : Program) (N : FN) : Prop := ∀ {a : Alg}, AlgOk a → Can P N.spec_l10Symmetric [algD a] (.val (.bool (dB (SymP a))))
theorem tabR_rw {a : Alg} (ha : AlgOk a) (i : Nat) : Rw a.p (tabR a i) := fun j => by
  have := prime_bd ha.p
  exact mod_bd _ (by omega)
theorem tabL_rw {a : Alg} (ha : AlgOk a) (n : Nat) : RwL a.p (tabL a n) := fun r hr => by
  simp only [tabL, arr, List.mem_map] at hr
  obtain ⟨i, _, rfl⟩ := hr
  exact tabR_rw ha i
theorem tabL_len (a : Alg) (n : Nat) : (tabL a n).length = n := arr_len ..
theorem tabL_get {a : Alg} {n i : Nat} (h : i < n) : (tabL a n).getD i Z = tabR a i := by
  rw [List.getD_eq_getElem?_getD]; unfold tabL; rw [arr_get h]; rfl
def nestC (f : Nat → List (List D)) : Nat → Chunk
  | 0 => .data 1 []
  | n + 1 => .nest 1 (arr (n + 1) f) none
theorem nest_put0 {f : Nat → List (List D)} {x y : List (List D)} (hy : y = f 0) : Chunk.nest 1 (([x] : List (List (List D))).set 0 y) none = nestC f 1 := by subst hy; rfl
theorem nest_put {f : Nat → List (List D)} {n : Nat} {x y : List (List D)} (hy : y = f (n + 1)) : Chunk.nest 1 ((arr (n + 1) f ++ [x]).set (arr (n + 1) f).length y) none = nestC f (n + 2) := by
  subst hy
  show _ = Chunk.nest 1 (arr (n + 2) f) none
  rw [arr_succ (n + 1)]
  congr 1
  rw [List.set_append_right _ _ (Nat.le_refl _), Nat.sub_self]; rfl
theorem nestD_rows {m n : Nat} {f : Nat → Row} : nestD 1 (arr n fun i => row m (f i)) = rowsL m (arr n f) := by
  unfold nestD rowsL; rw [arr_map, arr_map]
theorem nest_end {n i : Nat} {f : Nat → List (List D)} (h : n = i) : arr i f = arr n f := by rw [h]
def iSolveF (p : Int) (n : Nat) (L : List Row) : Option Row := solN n (redF p (n + 1) L) (redF p (n + 1) L).length
def C_solve (P : Program) (N : FN) : Prop := ∀ {n : Nat} {L : List Row} {p : Int}, n ≤ 900 → L.length ≤ 1000 → p ∈ primes → RwL p L → Can P N.impl_solve [rowsD (n + 1) L, .int .i64 n, .int .i64 p] (solD n (iSolveF p n L))
def fnBehind (N : FN) (sz : Nat) (l : List (List D)) (e off : Nat) (w : Nat → Int) : D := .fn N.impl_Algebra_behind_1 [] [.pd 1 [[.pd sz l e off]] 0 0, .pd 6 [vecL w] 0 0]
def fnAhead (N : FN) (sz : Nat) (l : List (List D)) (e off : Nat) (w : Nat → Int) : D := .fn N.impl_Algebra_ahead_1 [] [.pd 1 [[.pd sz l e off]] 0 0, .pd 6 [vecL w] 0 0]
def C_behind (P : Program) (N : FN) : Prop := ∀ {sz : Nat} {l : List (List D)} {e off : Nat} {w : Nat → Int}, Can P N.impl_Algebra_behind [.pd sz l e off, vecD w] (.val (fnBehind N sz l e off w))
def C_ahead (P : Program) (N : FN) : Prop := ∀ {sz : Nat} {l : List (List D)} {e off : Nat} {w : Nat → Int}, Can P N.impl_Algebra_ahead [.pd sz l e off, vecD w] (.val (fnAhead N sz l e off w))
def C_behind1 (P : Program) (N : FN) : Prop := ∀ {sz : Nat} {l : List (List D)} {e off : Nat} {a : Alg} {v w : Nat → Int}, AlgAt l e off a → AlgOk a → Byts v → Byts w → Can P N.impl_Algebra_behind_1 [vecD v, .pd 1 [[.pd sz l e off]] 0 0, .pd 6 [vecL w] 0 0] (.val (vecD (timesV a v w)))
def C_ahead1 (P : Program) (N : FN) : Prop := ∀ {sz : Nat} {l : List (List D)} {e off : Nat} {a : Alg} {v w : Nat → Int}, AlgAt l e off a → AlgOk a → Byts v → Byts w → Can P N.impl_Algebra_ahead_1 [vecD v, .pd 1 [[.pd sz l e off]] 0 0, .pd 6 [vecL w] 0 0] (.val (vecD (timesV a w v)))
def mapsL (m : Nat) (g : Nat → FuncId) (c d : Nat → D) : List (List D) := arr m fun q => [.fn (g q) [] [c q, d q]]
def eqR (M : Nat → Nat → Nat → Int) (n r : Nat) : Row := fun i => M (r / n) i (r % n)
def C_equations (P : Program) (N : FN) : Prop := ∀ {sz : Nat} {l : List (List D)} {e off : Nat} {a : Alg} {m : Nat} {g : Nat → FuncId} {c d : Nat → D} {M : Nat → Nat → Nat → Int}, AlgAt l e off a → AlgOk a → 1 ≤ m ∧ m ≤ 100 → (∀ q i k, 0 ≤ M q i k ∧ M q i k ≤ 255) →
  (∀ q i : Nat, q < m → i < a.n.toNat → Can P (g q) [vecD (basV i), c q, d q] (.val (vecD (M q i)))) → Can P N.impl_Algebra_equations [.pd sz l e off, .lst 1 (mapsL m g c d)] (.ownN 1 (arr (m * a.n.toNat) fun r => row a.n.toNat (eqR M a.n.toNat r)))
def fullR (M : Nat → Nat → Nat → Int) (tg : Nat → Nat → Int) (n r : Nat) : Row := fun i => if i < n then M (r / n) i (r % n) else tg (r / n) (r % n)
def solvedF (p : Int) (n m : Nat) (M : Nat → Nat → Nat → Int) (tg : Nat → Nat → Int) : Option (Nat → Int) := (iSolveF p n (arr (m * n) (fullR M tg n))).map (vecR n)
def C_solved (P : Program) (N : FN) : Prop := ∀ {sz : Nat} {l : List (List D)} {e off : Nat} {a : Alg} {m : Nat} {g : Nat → FuncId} {c d : Nat → D} {M : Nat → Nat → Nat → Int} {tg : Nat → Nat → Int}, AlgAt l e off a → AlgOk a → 1 ≤ m ∧ m ≤ 100 → (∀ q i k, 0 ≤ M q i k ∧ M q i k < a.p) → (∀ q k, 0 ≤ tg q k ∧ tg q k < a.p) →
  (∀ q i : Nat, q < m → i < a.n.toNat → Can P (g q) [vecD (basV i), c q, d q] (.val (vecD (M q i)))) → Can P N.impl_Algebra_solved [.pd sz l e off, .lst 6 (arr m fun q => vecL (tg q)), .lst 1 (mapsL m g c d)] (optD (solvedF a.p a.n.toNat m M tg))
def uM (a : Alg) (q i : Nat) : Nat → Int := if q % 2 = 0 then timesV a (basV i) (basV (q / 2)) else timesV a (basV (q / 2)) (basV i)
def uT (q : Nat) : Nat → Int := basV (q / 2)
def iFindF (a : Alg) : Option (Nat → Int) := solvedF a.p a.n.toNat (2 * a.n.toNat) (uM a) uT
def C_findUnit (P : Program) (N : FN) : Prop := ∀ {sz : Nat} {l : List (List D)} {e off : Nat} {a : Alg}, AlgAt l e off a → AlgOk a → Can P N.impl_Algebra_findUnit [.pd sz l e off] (optD (iFindF a))
def C_unit (P : Program) (N : FN) : Prop := ∀ {sz : Nat} {l : List (List D)} {e off : Nat} {a : Alg}, AlgAt l e off a → AlgOk a → Can P N.impl_Algebra_unit [.pd sz l e off] (.val (vecD ((iFindF a).getD Z)))
def IsAlgP (a : Alg) : Prop := a.p ∈ primes ∧ (1 ≤ a.n ∧ a.n ≤ 6) ∧ TabP a ∧ AssocP a ∧ (iFindF a).isSome = true
def C_IsAlgebra (P : Program) (N : FN) : Prop := ∀ {a : Alg}, AlgB a → (a.p ∈ primes → (1 ≤ a.n ∧ a.n ≤ 6) → TabP a → AlgOk a) → Can P N.impl_IsAlgebra [algD a] (.val (.bool (dB (IsAlgP a))))
theorem basV_byt (i : Nat) : Byts (basV i) := fun j => by unfold basV; split <;> omega
theorem times_rw {a : Alg} (hp : 1 ≤ a.p) (v w : Nat → Int) : Rw a.p (timesV a v w) := fun k => by
  unfold timesV
  split
  · exact mod_bd _ hp
  · omega
structure Pr where
  c : Alg
  o : Alg
  z : Nat → Nat → Int
def pairF (x : Pr) : Nat → D := fun q => if q < 224 then algF x.c q else if q < 448 then algF x.o (q - 224) else .int .u8 (x.z ((q - 448) / 6) ((q - 448) % 6))
def pairL (x : Pr) : List D := arr 484 (pairF x)
abbrev pairD (x : Pr) : D := .agg (pairL x)
def PairAt (l : List (List D)) (e off : Nat) (x : Pr) : Prop := ∀ q, q < 484 → get2 l e (off + q) = some (pairF x q)
theorem PairAt.c {l : List (List D)} {e off : Nat} {x : Pr} (h : PairAt l e off x) : AlgAt l e off x.c := fun q hq => by
  rw [h q (by omega)]; unfold pairF; rw [if_pos hq]
theorem PairAt.o {l : List (List D)} {e off : Nat} {x : Pr} (h : PairAt l e off x) : AlgAt l e (off + 224) x.o := fun q hq => by
  rw [Nat.add_assoc, h (224 + q) (by omega)]; unfold pairF
  rw [if_neg (by omega), if_pos (by omega), show 224 + q - 224 = q by omega]
theorem PairAt.z {l : List (List D)} {e off : Nat} {x : Pr} (h : PairAt l e off x) {i k : Nat} (hi : i < 6) (hk : k < 6) : get2 l e (off + 448 + i * 6 + k) = some (.int .u8 (x.z i k)) := by
  rw [show off + 448 + i * 6 + k = off + (448 + i * 6 + k) by omega, h _ (by omega)]; unfold pairF
  rw [if_neg (by omega), if_neg (by omega), show (448 + i * 6 + k - 448) / 6 = i by omega, show (448 + i * 6 + k - 448) % 6 = k by omega]
theorem PairAt.zv {l : List (List D)} {e off : Nat} {x : Pr} (h : PairAt l e off x) {i : Nat} (hi : i < 6) : sub2 l e (off + 448 + ((i : Nat) : Int).toNat * 6) 6 = some (vecL (x.z i)) := by
  rw [Int.toNat_natCast]
  exact sub2_of (fun q hq => h.z hi hq) (by omega)
def zipL (x : Pr) : List D := arr 36 fun q => .int .u8 (x.z (q / 6) (q % 6))
theorem PairAt.zip {l : List (List D)} {e off : Nat} {x : Pr} (h : PairAt l e off x) : sub2 l e (off + 448) 36 = some (zipL x) :=
  sub2_of (fun q hq => by
    have := h.z (i := q / 6) (k := q % 6) (by omega) (by omega)
    rwa [show off + 448 + q / 6 * 6 + q % 6 = off + 448 + q by omega] at this) (by omega)
theorem pairAt_one (x : Pr) : PairAt [pairL x] 0 0 x := fun q hq => by simp [get2, pairL, arr_get hq]
theorem PairAt.all {l : List (List D)} {e off : Nat} {x : Pr} (h : PairAt l e off x) : sub2 l e off 484 = some (pairL x) := sub2_of h (by omega)
theorem rd_vecs {m i : Nat} {f : Nat → Nat → Int} (h : i < m) : sub2 (arr m fun i => vecL (f i)) ((i : Nat) : Int).toNat 0 6 = some (vecL (f i)) := by
  simp only [sub2, Int.toNat_natCast, arr_get h, Option.bind_some, cut, cel_len, Nat.zero_add, Nat.le_refl, if_true, List.drop_zero]
  rw [List.take_of_length_le (by rw [cel_len]; omega)]
theorem st_all {k : IntKind} {m z : Nat} {f g : Nat → Int} : Chunk.data z ([cel k m f].set 0 (splice (cel k m f) 0 (cel k m g))) = .data z [cel k m g] := by
  have e : splice (cel k m f) 0 (cel k m g) = cel k m g := by
    unfold splice
    rw [List.take_zero, List.nil_append, cel_len, List.drop_eq_nil_of_le (by rw [cel_len]; omega), List.append_nil]
  rw [e]; rfl
def zipN (p : Int) (z : Nat → Nat → Int) (v : Nat → Int) : Nat → Nat → Int
  | 0 => Z
  | i + 1 => addV p (v i) (zipN p z v i) (z i)
theorem addV_rw {p k : Int} {v w : Nat → Int} (hp : 1 ≤ p) : Rw p (addV p k v w) := fun i => mod_bd _ hp
theorem zipN_rw {p : Int} {z : Nat → Nat → Int} {v : Nat → Int} (hp : 1 ≤ p) : ∀ i, Rw p (zipN p z v i)
  | 0 => fun j => by simp [zipN, Z]; omega
  | i + 1 => addV_rw hp
structure PrOk (x : Pr) : Prop where
  c : AlgOk x.c
  o : AlgOk x.o
  p : x.c.p = x.o.p
  z : ∀ i k, 0 ≤ x.z i k ∧ x.z i k ≤ 255
def C_starred (P : Program) (N : FN) : Prop := ∀ {sz : Nat} {l : List (List D)} {e off : Nat} {a : Alg} {z : Nat → Nat → Int} {v : Nat → Int}, AlgAt l e off a → 1 ≤ a.p ∧ a.p ≤ 255 → (∀ i, Byts (z i)) → Byts v → Can P N.impl_Algebra_starred [.pd sz l e off, .lst 6 (arr 6 fun i => vecL (z i)), vecD v] (.val (vecD (zipN a.p z v 6)))
def C_zip (P : Program) (N : FN) : Prop := ∀ {sz : Nat} {l : List (List D)} {e off : Nat} {x : Pr} {v : Nat → Int}, PairAt l e off x → 1 ≤ x.o.p ∧ x.o.p ≤ 255 → (∀ i, Byts (x.z i)) → Byts v → Can P N.impl_Pair_zip [.pd sz l e off, vecD v] (.val (vecD (zipN x.o.p x.z v 6)))
def C_sZip (P : Program) (N : FN) : Prop := ∀ {x : Pr} {v : Nat → Int}, 1 ≤ x.o.p ∧ x.o.p ≤ 255 → 0 ≤ x.c.n ∧ x.c.n ≤ 6 → (∀ i, Byts (x.z i)) → Byts v → Can P N.spec_l10Zip [pairD x, vecD v] (.val (vecD (zipN x.o.p x.z v x.c.n.toNat)))
def C_IdxVec (P : Program) (N : FN) : Prop := ∀ {m : Nat} {f : Nat → Nat → Int} {g : FuncId} {c : D} {q : Nat → Bool}, m ≤ 1000 → (∀ i, i < m → Can P g [vecD (f i), c] (.val (.bool (q i)))) → Can P N.slices_IndexFunc_Limpl_Vector_impl_Vector [.lst 6 (arr m fun i => vecL (f i)), .fn g [] [c]] (.val (.int .i64 (idxF q m)))
def C_ContainsVec (P : Program) (N : FN) : Prop := ∀ {m : Nat} {f : Nat → Nat → Int} {g : FuncId} {c : D} {q : Nat → Bool}, m ≤ 1000 → (∀ i, i < m → Can P g [vecD (f i), c] (.val (.bool (q i)))) → Can P N.slices_ContainsFunc_Limpl_Vector_impl_Vector [.lst 6 (arr m fun i => vecL (f i)), .fn g [] [c]] (.val (.bool (decide (0 ≤ idxF q m))))
def C_opened1 (P : Program) (N : FN) : Prop := ∀ {sz : Nat} {l : List (List D)} {e off : Nat} {x : Pr} {v : Nat → Int}, PairAt l e off x → Byts v → Can P N.impl_opened_1 [vecD v, .pd sz l e off] (.val (.bool (!decide (Small v x.o.n x.o.p))))
structure AlgIn (a : Alg) : Prop where
  b : AlgB a
  ok : a.p ∈ primes → (1 ≤ a.n ∧ a.n ≤ 6) → TabP a → AlgOk a
theorem AlgIn.alg {a : Alg} (h : AlgIn a) (hi : IsAlgP a) : AlgOk a := h.ok hi.1 hi.2.1 hi.2.2.1
structure PrIn (x : Pr) : Prop where
  c : AlgIn x.c
  o : AlgIn x.o
  z : ∀ i, Byts (x.z i)
def FrobP (a : Alg) : Prop := ((redF a.p a.n.toNat (tabL a a.n.toNat)).length : Int) = a.n
def AlgsP (x : Pr) : Prop := IsAlgP x.c ∧ IsAlgP x.o ∧ x.c.p = x.o.p ∧ CommP x.c ∧ FrobP x.c ∧ FrobP x.o ∧ SymP x.o
def C_algebrasOk (P : Program) (N : FN) : Prop := ∀ {sz : Nat} {l : List (List D)} {e off : Nat} {x : Pr}, PairAt l e off x → PrIn x → Can P N.impl_Pair_algebrasOk [.pd sz l e off] (.val (.bool (dB (AlgsP x))))
def iUnit (a : Alg) : Nat → Int := (iFindF a).getD Z
def ZipP (x : Pr) (i : Nat) : Prop := (Small (x.z i) x.o.n x.o.p ∧ (x.c.n ≤ (i : Int) → VEq (x.z i) Z)) ∧ (∀ j : Nat, (j : Int) < x.o.n → VEq (timesV x.o (x.z i) (basV j)) (timesV x.o (basV j) (x.z i))) ∧ ∀ j : Nat, j < 6 → VEq (zipN x.o.p x.z (x.c.T i j) 6) (timesV x.o (x.z i) (x.z j))
def IsPairP (x : Pr) : Prop := AlgsP x ∧ (∀ i : Nat, i < 6 → ZipP x i) ∧ VEq (zipN x.o.p x.z (iUnit x.c) 6) (iUnit x.o)
def C_IsPair (P : Program) (N : FN) : Prop := ∀ {x : Pr}, PrIn x → Can P N.impl_IsPair [pairD x] (.val (.bool (dB (IsPairP x))))
def C_opened (P : Program) (N : FN) : Prop := ∀ {x : Pr} {w : Nat → Int}, PrIn x → Byts w → Can P N.impl_opened [pairD x, .lst 6 [vecL w]] (.val (.int .i64 (if dB (IsPairP x ∧ Small w x.o.n x.o.p) = true then 0 else 1)))
theorem can_t {P : Program} {f : FuncId} {args : List D} {p : Prop} (h : Can P f args (.val (.bool (dB p)))) (hp : p) : Can P f args (.val (.bool true)) := by rwa [dB_t hp] at h
theorem can_f {P : Program} {f : FuncId} {args : List D} {p : Prop} (h : Can P f args (.val (.bool (dB p)))) (hp : ¬ p) : Can P f args (.val (.bool false)) := by rwa [dB_f hp] at h
theorem can_dt {P : Program} {f : FuncId} {args : List D} {p : Prop} [Decidable p] (h : Can P f args (.val (.bool (decide p)))) (hp : p) : Can P f args (.val (.bool true)) := by rwa [decide_eq_true hp] at h
theorem can_df {P : Program} {f : FuncId} {args : List D} {p : Prop} [Decidable p] (h : Can P f args (.val (.bool (decide p)))) (hp : ¬ p) : Can P f args (.val (.bool false)) := by rwa [decide_eq_false hp] at h
theorem fullR_rw {M : Nat → Nat → Nat → Int} {tg : Nat → Nat → Int} {p : Int} {n c : Nat} (h1 : ∀ q i k, 0 ≤ M q i k ∧ M q i k < p) (h2 : ∀ q k, 0 ≤ tg q k ∧ tg q k < p) : RwL p (arr c (fullR M tg n)) := fun r hr => by
  simp only [arr, List.mem_map] at hr
  obtain ⟨i, _, rfl⟩ := hr
  intro j
  unfold fullR
  split
  · exact h1 ..
  · exact h2 ..
theorem iSolve_rw {p : Int} {n : Nat} {L : List Row} {r : Row} (hp : p ∈ primes) (hR : RwL p L) (h : iSolveF p n L = some r) : Rw p r := by
  have hp2 := prime_bd hp
  have rr := (redN_inv (p := p) (rows := L) (by omega) hR (n + 1)).2.1
  have key : ∀ i o, solN n (redF p (n + 1) L) i = some o → Rw p o := by
    intro i
    induction i with
    | zero => intro o h; simp only [solN, Option.some.injEq] at h; subst h; intro j; simp [Z]; omega
    | succ i ih =>
      intro o h
      unfold solN at h
      split at h
      · cases h
      · rename_i o' ho
        split at h
        · cases h
        · simp only [Option.some.injEq] at h; subst h
          intro j
          unfold upd
          split
          · exact RwL.get rr (by omega) i n
          · exact ih o' ho j
  exact key _ _ h
theorem uM_rw {a : Alg} (hp : 1 ≤ a.p) (q i k : Nat) : 0 ≤ uM a q i k ∧ uM a q i k < a.p := by
  unfold uM
  split
  · exact times_rw hp _ _ k
  · exact times_rw hp _ _ k
theorem uT_rw {p : Int} (hp : 2 ≤ p) (q k : Nat) : 0 ≤ uT q k ∧ uT q k < p := by unfold uT basV; split <;> omega
theorem vecR_rw {p : Int} {n : Nat} {r : Row} (hp : 1 ≤ p) (h : Rw p r) : Rw p (vecR n r) := fun i => by
  have := h i
  unfold vecR; split <;> omega
theorem iUnit_rw {a : Alg} (ha : AlgOk a) : Rw a.p (iUnit a) := by
  have hp2 := prime_bd ha.p
  unfold iUnit iFindF solvedF
  cases h : iSolveF a.p a.n.toNat (arr (2 * a.n.toNat * a.n.toNat) (fullR (uM a) uT a.n.toNat)) with
  | none => intro i; simp [Z]; omega
  | some r =>
    exact vecR_rw (by omega) (iSolve_rw ha.p (fullR_rw (fun q i k => uM_rw (by omega) q i k) (fun q k => uT_rw hp2.1 q k)) h)
theorem eq_t {v w : Nat → Int} (h : VEq v w) : (true = true ↔ vecL v = vecL w) := ⟨fun _ => cel_ext h, fun _ => rfl⟩
theorem eq_f {v w : Nat → Int} (h : ¬ VEq v w) : (false = true ↔ vecL v = vecL w) := ⟨(fun h => by cases h), fun e => absurd (cel_inj e) h⟩
theorem Rw.byt {p : Int} {v : Nat → Int} (h : Rw p v) (hp : p ≤ 255) : Byts v := fun i => by have := h i; omega
def augR (a : Alg) (i : Nat) : Row := fun j => if j < a.n.toNat then tabR a i j else if j - a.n.toNat = i then 1 else 0
def augL (a : Alg) : List Row := arr a.n.toNat (augR a)
def iCop (a : Alg) : List Row := (redF a.p (a.n.toNat + a.n.toNat) (augL a)).map fun r j => r (a.n.toNat + j)
def C_copairing (P : Program) (N : FN) : Prop := ∀ {sz : Nat} {l : List (List D)} {e off : Nat} {a : Alg}, AlgAt l e off a → AlgOk a → Can P N.impl_Algebra_copairing [.pd sz l e off] (.val (rowsD a.n.toNat (iCop a)))
theorem augR_rw {a : Alg} (ha : AlgOk a) (i : Nat) : Rw a.p (augR a i) := fun j => by
  have hp2 := prime_bd ha.p
  unfold augR
  split
  · exact tabR_rw ha i j
  · split <;> omega
theorem augL_rw {a : Alg} (ha : AlgOk a) : RwL a.p (augL a) := fun r hr => by
  simp only [augL, arr, List.mem_map] at hr
  obtain ⟨i, _, rfl⟩ := hr
  exact augR_rw ha i
def pairC (p : Int) (B : Nat → Row) (of : Nat → Nat → Nat → Int) (acc : Nat → Int) (k : Nat) : Nat → Nat → Int
  | 0 => acc
  | l + 1 => addV p (B k l) (pairC p B of acc k l) (of k l)
def pairR (p : Int) (B : Nat → Row) (of : Nat → Nat → Nat → Int) (n : Nat) : Nat → Nat → Int
  | 0 => Z
  | k + 1 => pairC p B of (pairR p B of n k) k n
theorem pairC_rw {p : Int} {B : Nat → Row} {of : Nat → Nat → Nat → Int} {acc : Nat → Int} {k : Nat} (hp : 1 ≤ p) (h : Rw p acc) : ∀ l, Rw p (pairC p B of acc k l)
  | 0 => h
  | _ + 1 => addV_rw hp
theorem pairR_rw {p : Int} {B : Nat → Row} {of : Nat → Nat → Nat → Int} {n : Nat} (hp : 1 ≤ p) : ∀ k, Rw p (pairR p B of n k)
  | 0 => fun j => by simp [pairR, Z]; omega
  | k + 1 => pairC_rw hp (pairR_rw hp k) n
def C_paired (P : Program) (N : FN) : Prop := ∀ {sz : Nat} {l : List (List D)} {e off : Nat} {a : Alg} {g : FuncId} {c d : D} {of : Nat → Nat → Nat → Int}, AlgAt l e off a → AlgOk a → (∀ k l, Byts (of k l)) →
  (∀ k l : Nat, k < (iCop a).length → l < a.n.toNat → Can P g [.int .i64 k, .int .i64 l, c, d] (.val (vecD (of k l)))) → Can P N.impl_Algebra_paired [.pd sz l e off, .fn g [] [c, d]] (.val (vecD (pairR a.p (fun k => (iCop a).getD k Z) of a.n.toNat (iCop a).length)))
def sandV (a : Alg) (w : Nat → Int) (k l : Nat) : Nat → Int := timesV a (timesV a (basV k) w) (basV l)
def C_sandwich1 (P : Program) (N : FN) : Prop := ∀ {sz : Nat} {l : List (List D)} {e off : Nat} {x : Pr} {w : Nat → Int} {k j : Nat}, PairAt l e off x → AlgOk x.o → Byts w → k < 6 → j < 6 → Can P N.impl_Pair_sandwich_1 [.int .i64 k, .int .i64 j, .pd 1 [[.pd sz l e off]] 0 0, .pd 6 [vecL w] 0 0] (.val (vecD (sandV x.o w k j)))
def C_sandwich (P : Program) (N : FN) : Prop := ∀ {sz : Nat} {l : List (List D)} {e off : Nat} {x : Pr} {w : Nat → Int}, PairAt l e off x → AlgOk x.o → Byts w → Can P N.impl_Pair_sandwich [.pd sz l e off, vecD w] (.val (vecD (pairR x.o.p (fun k => (iCop x.o).getD k Z) (sandV x.o w) x.o.n.toNat (iCop x.o).length)))
theorem iCop_len {a : Alg} (ha : AlgOk a) : (iCop a).length ≤ a.n.toNat := by
  have hp2 := prime_bd ha.p
  have := (redN_inv (p := a.p) (rows := augL a) (by omega) (augL_rw ha) (a.n.toNat + a.n.toNat)).2.2
  unfold iCop redF
  rw [List.length_map]
  have e : (augL a).length = a.n.toNat := arr_len ..
  omega
theorem iCop_rw {a : Alg} (ha : AlgOk a) (k : Nat) : Rw a.p ((iCop a).getD k Z) := by
  have hp2 := prime_bd ha.p
  have h := (redN_inv (p := a.p) (rows := augL a) (by omega) (augL_rw ha) (a.n.toNat + a.n.toNat)).2.1
  refine RwL.get (p := a.p) (fun r hr => ?_) (by omega) k
  obtain ⟨y, hy, rfl⟩ := List.mem_map.1 hr
  exact fun j => h y hy _
def iSand (x : Pr) (w : Nat → Int) : Nat → Int := pairR x.o.p (fun k => (iCop x.o).getD k Z) (sandV x.o w) x.o.n.toNat (iCop x.o).length
def C_SandwichOf (P : Program) (N : FN) : Prop := ∀ {x : Pr} {w : Nat → Int}, PrIn x → Byts w → Can P N.impl_SandwichOf [pairD x, vecD w] (if dB (IsPairP x ∧ Small w x.o.n x.o.p) = true then .tup [vecD (iSand x w), .int .i64 0] else .tup [vecD Z, .int .i64 1])
def sAlgP (a : Alg) : Prop := ShapeP a ∧ AssocP a ∧ (findF a).isSome = true
def sUnit (a : Alg) : Nat → Int := (findF a).getD Z
structure SAlgIn (a : Alg) : Prop where
  b : AlgB a
  ok : ShapeP a → AlgOk a
structure SPrIn (x : Pr) : Prop where
  c : SAlgIn x.c
  o : SAlgIn x.o
  z : ∀ i, Byts (x.z i)
def sCommP (a : Alg) : Prop := ∀ i : Nat, i < 6 → ∀ j : Nat, j < i → VEq (a.T i j) (a.T j i)
def sFrobP (a : Alg) : Prop := ((echF a.p a.n.toNat (tabL a a.n.toNat)).length : Int) = a.n
def sAlgsP (x : Pr) : Prop := sAlgP x.c ∧ sAlgP x.o ∧ x.c.p = x.o.p ∧ sCommP x.c ∧ sFrobP x.c ∧ sFrobP x.o ∧ SymP x.o
def sZipA (x : Pr) (i : Nat) : Prop := Small (x.z i) x.o.n x.o.p ∧ (x.c.n ≤ (i : Int) → VEq (x.z i) Z)
def sZipB (x : Pr) (i : Nat) : Prop := (∀ j : Nat, (j : Int) < x.c.n → VEq (zipN x.o.p x.z (x.c.T i j) x.c.n.toNat) (timesV x.o (x.z i) (x.z j))) ∧ ∀ j : Nat, (j : Int) < x.o.n → VEq (timesV x.o (x.z i) (basV j)) (timesV x.o (basV j) (x.z i))
def sIsP (x : Pr) : Prop := sAlgsP x ∧ (∀ i : Nat, i < 6 → sZipA x i) ∧ (∀ i : Nat, (i : Int) < x.c.n → sZipB x i) ∧ VEq (zipN x.o.p x.z (sUnit x.c) x.c.n.toNat) (sUnit x.o)
def C_sIs (P : Program) (N : FN) : Prop := ∀ {x : Pr}, SPrIn x → Can P N.spec_l10Is [pairD x] (.val (.bool (dB (sIsP x))))
def C_sOpen (P : Program) (N : FN) : Prop := ∀ {x : Pr} {w : Nat → Int}, SPrIn x → Byts w → Can P N.spec_l10Open [pairD x, .lst 6 [vecL w]] (.val (.int .i64 (if dB (sIsP x ∧ Small w x.o.n x.o.p) = true then 0 else 1)))
def sAug (a : Alg) (j i : Nat) : Row := fun q => if q < a.n.toNat then tabR a i q else if i = j then 1 else 0
def sCol (a : Alg) (j : Nat) : Option Row := sSolveF a.p a.n.toNat (arr a.n.toNat (sAug a j))
def sCop (a : Alg) (i : Nat) : Row := fun j => ((sCol a j).getD Z) i
def C_sCop (P : Program) (N : FN) : Prop := ∀ {a : Alg}, AlgOk a → (∀ j, j < a.n.toNat → (sCol a j).isSome = true) → Can P N.spec_l02Copairing [algD a] (.val (rowsD a.n.toNat (arr a.n.toNat (sCop a))))
def sSand (x : Pr) (w : Nat → Int) : Nat → Int := pairR x.o.p (sCop x.o) (sandV x.o w) x.o.n.toNat x.o.n.toNat
theorem sCop_rw {a : Alg} (ha : AlgOk a) (i : Nat) : Rw a.p (sCop a i) := fun j => by
  have hp2 := prime_bd ha.p
  unfold sCop
  cases h : sCol a j with
  | none => simp [Z]; omega
  | some r =>
    unfold sCol sSolveF at h
    split at h
    · simp only [Option.some.injEq] at h; subst h
      have hR : RwL a.p (arr a.n.toNat (sAug a j)) := fun r hr => by
        simp only [arr, List.mem_map] at hr
        obtain ⟨i', _, rfl⟩ := hr
        intro q
        unfold sAug
        split
        · exact tabR_rw ha i' q
        · split <;> omega
      obtain ⟨⟨ld, rr⟩, _⟩ := echN_rr (m := a.n.toNat + 1) ha.p hR _ (Nat.le_refl _)
      exact (rr.rw.get (by omega) i) a.n.toNat
    · cases h
def C_sSandwich (P : Program) (N : FN) : Prop := ∀ {a : Alg} {w : Nat → Int}, AlgOk a → (∀ j, j < a.n.toNat → (sCol a j).isSome = true) → Byts w → Can P N.spec_l10Sandwich [algD a, vecD w] (.val (vecD (pairR a.p (sCop a) (sandV a w) a.n.toNat a.n.toNat)))
def C_sSandwichOf (P : Program) (N : FN) : Prop := ∀ {x : Pr} {w : Nat → Int}, SPrIn x → (sIsP x → ∀ j, j < x.o.n.toNat → (sCol x.o j).isSome = true) → Byts w → Can P N.spec_SandwichOf [pairD x, vecD w] (if dB (sIsP x ∧ Small w x.o.n x.o.p) = true then .tup [vecD (sSand x w), .int .i64 0] else .tup [vecD Z, .int .i64 1])
end Go.X
namespace Go.X
open Go Go.RowKit
theorem sz_ {p : Prop} (h : p := by first | omega | assumption | (simp only [List.length_take, List.length_drop, cel_len, row_len, rowsL_len, mapN_len, arr_len, List.length_append, List.length_cons, List.length_nil, List.length_map, List.length_replicate, maxRow]; omega)) : p := h
theorem om_ {p : Prop} (h : p := by omega) : p := h
theorem sd_ {p : Prop} (h : p := by first
  | exact rfl | omega | assumption
  | (and_intros <;> first | exact rfl | omega | decide | (simp only [List.length_take, List.length_drop, cel_len, row_len, rowsL_len, mapN_len, arr_len, List.length_append, List.length_cons, List.length_nil, List.length_map, List.length_replicate, maxRow]; omega))
  | (simp only [List.length_take, List.length_drop, cel_len, row_len, rowsL_len, mapN_len, arr_len, List.length_append, List.length_cons, List.length_nil, List.length_map, List.length_replicate, maxRow]; omega)
  | (simp only [List.length_take, List.length_drop, cel_len, row_len, rowsL_len, mapN_len, arr_len, List.length_append, List.length_cons, List.length_nil, List.length_map, List.length_replicate, maxRow]; done)
  | exact ⟨rfl, rfl, rfl, by (simp only [List.length_take, List.length_drop, cel_len, row_len, rowsL_len, mapN_len, arr_len, List.length_append, List.length_cons, List.length_nil, List.length_map, List.length_replicate, maxRow]; omega), fun p hp => by cases hp; rfl⟩
  | decide | exact Nat.lt_of_lt_of_eq (m := 6) (by omega) rfl | exact .inl rfl | exact .inr flat_row | exact .inr (flat2 (flat_cel _ _ _) (.bool _)) | exact .inr (.int _ _) | exact .inr (.bool _) | exact .inr (flat_cel _ _ _) | exact st_prog rfl | exact row_app rfl
  | (refine congrArg (fun x => AV.d (D.int .i64 x)) ?_; first | omega | (simp only [List.length_take, List.length_drop, cel_len, row_len, rowsL_len, mapN_len, arr_len, List.length_append, List.length_cons, List.length_nil, List.length_map, List.length_replicate, maxRow]; omega))
  | exact rowsL_app) : p := h
theorem rd1_ {p : Prop} (h : p := by with_reducible first
  | exact rfl | exact rd_celP (by omega) | exact rd_cel (by omega) | exact rd_idx (by omega) | exact rd_all | exact rd_stall rfl | exact rd_rowP (by omega) | exact rd_row (by omega) | exact get_rowsN (by omega) | exact get_rows (by omega) | exact get_row (by omega) | exact rd_rowsN (by omega) | exact rd_rows (by omega)
  | exact AlgAt.p ‹_› | exact AlgAt.n ‹_› | exact AlgAt.T ‹_› (by omega) (by omega) (by omega) | exact AlgAt.f ‹_› (by omega) | exact AlgAt.vecT ‹_› (by omega) (by omega) | exact AlgAt.vecf ‹_› | exact AlgAt.p (algAt_one _) | exact AlgAt.n (algAt_one _) | exact AlgAt.T (algAt_one _) (by omega) (by omega) (by omega) | exact AlgAt.f (algAt_one _) (by omega) | exact (algAt_one _).all | exact AlgAt.vecT (algAt_one _) (by omega) (by omega) | exact AlgAt.vecf (algAt_one _)) : p := h
theorem rd_ {p : Prop} (h : p := by first
  | exact rd1_
  | exact rd_celP (by omega) | exact rd_cel (by omega) | exact rd_idx (by omega) | exact rd_all | exact rd_stall rfl | exact rd_rowP (by omega) | exact rd_row (by omega) | exact get_rowsN (by omega) | exact get_rows (by omega) | exact get_row (by omega) | exact rd_rowsN (by omega) | exact rd_rows (by omega)
  | exact AlgAt.p ‹_› | exact AlgAt.n ‹_› | exact AlgAt.T ‹_› (by omega) (by omega) (by omega) | exact AlgAt.f ‹_› (by omega) | exact AlgAt.vecT ‹_› (by omega) (by omega) | exact AlgAt.vecf ‹_› | exact AlgAt.p (algAt_one _) | exact AlgAt.n (algAt_one _) | exact AlgAt.T (algAt_one _) (by omega) (by omega) (by omega) | exact AlgAt.f (algAt_one _) (by omega) | exact (algAt_one _).all | exact AlgAt.vecT (algAt_one _) (by omega) (by omega) | exact AlgAt.vecf (algAt_one _)
  | exact rfl) : p := h
theorem ifs_ : (∀ b : Bool, ((!b) = true) = (b = false)) ∧ (∀ b : Bool, ((!b) = false) = (b = true)) ∧ (∀ (p : Prop) [Decidable p], (decide p = true) = p) ∧ (∀ (p : Prop) [Decidable p], (decide p = false) = ¬ p) ∧
    (∀ a b : Int, ((a == b) = true) = (a = b)) ∧ (∀ a b : Int, ((a != b) = true) = ¬ (a = b)) ∧ (∀ a b : Int, ((a == b) = false) = ¬ (a = b)) ∧ (∀ a b : Int, ((a != b) = false) = (a = b)) ∧
    (∀ p : Prop, (¬ ¬ p) = p) ∧ ((!true) = false) ∧ ((!false) = true) ∧ ((false = true) = False) ∧ ((true = false) = False) ∧ (∀ a b : Int, (¬ (a < b)) = (b ≤ a)) ∧ (∀ a b : Int, (¬ (a ≤ b)) = (b < a)) ∧
    (∀ (α : Type) (a : α) (l : List α), (a :: l).length = l.length + 1) ∧ (∀ (α : Type) (l m : List α), (l ++ m).length = l.length + m.length) ∧ (∀ (α : Type) (l : List α) (n : Nat), (l.take n).length = min n l.length) ∧
    (∀ (α : Type) (l : List α) (n : Nat), (l.drop n).length = l.length - n) ∧ (∀ α : Type, ([] : List α).length = 0) ∧ (∀ m f, (row m f).length = m) ∧ (∀ m L, (rowsL m L).length = L.length) ∧
    (∀ k m f, (cel k m f).length = m) ∧ (∀ i g L, (mapN i g L).length = L.length) ∧ ((¬ True) = False) ∧ ((¬ False) = True) ∧ (∀ (α : Type) (a b : α), (a ≠ b) = ¬ (a = b)) := by
  refine ⟨fun b => by cases b <;> simp, fun b => by cases b <;> simp, fun p _ => by simp, fun p _ => by simp, fun a b => by simp, fun a b => by simp, fun a b => by simp, fun a b => by simp, fun p => by simp [Classical.not_not], rfl, rfl, by simp, by simp, fun a b => by simp, fun a b => by simp,
    fun α a l => by simp, fun α l m => by simp, fun α l n => by simp, fun α l n => by simp, fun α => by simp, row_len, rowsL_len, cel_len, mapN_len, by simp, by simp, fun α a b => rfl⟩
theorem if_ {X Y A B p q : Prop} (ha : p → A) (hb : q → B) (hp : X = p := by first | (conv => lhs; simp only [ifs_, Cm.int, reduceCtorEq, reduceIte]) | exact rfl) (hq : Y = q := by first | (conv => lhs; simp only [ifs_, Cm.int, reduceCtorEq, reduceIte]) | exact rfl) : (X → A) ∧ (Y → B) := ⟨fun h => ha (hp ▸ h), fun h => hb (hq ▸ h)⟩
def ArTo (o : Ar) (x y z : Int) : Prop := ∀ K : Int → Prop, K z → Ar.int o .i64 x y K
theorem ar_ {o : Ar} {x y z : Int} {K : Int → Prop} (hk : K z) (h : ArTo o x y z := by first
  | exact fun _ => ar_add sz_ | exact fun _ => ar_sub sz_ | exact fun _ => ar_mul sz_ | exact fun _ => ar_remN om_ | exact fun _ => ar_quoN om_ | exact fun _ => ar_rem sz_ | exact fun _ => ar_quo sz_) : Ar.int o .i64 x y K := h K hk
theorem arT_ {o : Ar} {x y z : Int} {K : Int → Prop} (hk : K z) (h : ArTo o x y z := by first
  | exact fun _ => ar_add sz_ | exact fun _ => ar_sub sz_ | exact fun _ => ar_mul sz_ | exact fun _ => ar_remN om_ | exact fun _ => ar_quoN om_ | exact fun _ => ar_rem sz_ | exact fun _ => ar_remT om_ | exact fun _ => ar_quo sz_) : Ar.int o .i64 x y K := h K hk
theorem wk_ {k : IntKind} {x : Int} {K : Int → Prop} (hk : K x) (h : ∀ K : Int → Prop, K x → wrapK k x K := by first | exact fun _ => wk_i64 sz_ | exact fun _ => wk_u8 sz_) : wrapK k x K := h K hk
theorem fin_ {p : Prop} (h : p := by first | exact True.intro | (with_reducible exact rfl) | exact congrArg D.agg (cel_prog (by omega)) | exact Eq.refl _) : p := h
theorem ex_ {α : Type} {p q : α → Prop} {a : α} (hq : q a) (h : p a := by exact rd_) : ∃ x, p x ∧ q x := ⟨a, h, hq⟩
theorem ex2_ {α β : Type} {p q : α → β → Prop} {a : α} {b : β} (hq : q a b) (h : p a b := by exact rd_) : ∃ x y, p x y ∧ q x y := ⟨a, b, h, hq⟩
theorem an_ {p q : Prop} (hq : q) (h : p := by exact sd_) : p ∧ q := ⟨h, hq⟩
theorem lp_ {p : Prop} (h : p := by first | omega | (and_intros <;> first | omega | (intros; omega) | rfl | simp) | (intros; omega) | simp) : p := h
end Go.X
namespace Go.X
open Go Go.RowKit
theorem m_findR_rw {a : Alg} (h : AlgOk a) (i k : Nat) : Rw a.p (findR a i k) := fun j => by
  have := prime_bd h.p
  unfold findR
  split
  · exact h.T j i k
  · split <;> omega
theorem m_findIn_rw {a : Alg} (h : AlgOk a) (i : Nat) : ∀ k, RwL a.p (findIn a i k)
  | 0 => fun r hr => by cases hr
  | k + 1 => fun r hr => by
    rcases List.mem_append.1 hr with hr | hr
    · exact m_findIn_rw h i k r hr
    · simp only [List.mem_singleton] at hr; subst hr; exact m_findR_rw h i k
theorem m_findOut_rw {a : Alg} (h : AlgOk a) : ∀ i, RwL a.p (findOut a i)
  | 0 => fun r hr => by cases hr
  | i + 1 => fun r hr => by
    rcases List.mem_append.1 hr with hr | hr
    · exact m_findOut_rw h i r hr
    · exact m_findIn_rw h i _ r hr
theorem m_sol_rw {p : Int} {n : Nat} {L : List Row} {r : Row} (hp : p ∈ primes) (hR : RwL p L) (h : sSolveF p n L = some r) : Rw p r := by
  have hp2 := prime_bd hp
  unfold sSolveF at h
  split at h
  · simp only [Option.some.injEq] at h; subst h
    obtain ⟨⟨ld, rr⟩, _⟩ := echN_rr (m := n + 1) hp hR _ (Nat.le_refl _)
    exact fun i => (rr.rw.get (by omega) i) n
  · cases h
theorem sUnit_rw {a : Alg} (ha : AlgOk a) : Rw a.p (sUnit a) := by
  have hp2 := prime_bd ha.p
  unfold sUnit findF
  cases h : sSolveF a.p a.n.toNat (findOut a a.n.toNat) with
  | none => intro i; simp [Z]; omega
  | some r =>
    dsimp only
    split
    · exact vecR_rw (by omega) (m_sol_rw ha.p (m_findOut_rw ha _) h)
    · intro i; simp [Z]; omega
end Go.X
namespace Go.X
open Go Go.RowKit
def ir2_spec_l02Copairing (N : FN) : CF := ⟨1, 76, [(.tmp 2)], (.seq (.reg false [2] [(rO 1 (.box (.t 0))), (rO 2 (.mov (.c .emp)))]) (.seq (.reg false [] [(rO 14 (.faddr 1 (.t 1))), (rO 15 (.load none (.t 14))), (rO 3 (.mov (.t 15)))]) (.seq (.ga (.put [5]) (.ga (.dead [16]) (.ga (.ren [4]) (.reg false [17] [(rO 16 (.bslice 1 [])), (rO 4 (.mov (.t 16)))])))) (.seq (.seq (.reg false [] [(rO 5 (.mov (.c (.int .i64 0))))]) (.block 0 (.loop (.seq (.seq (.reg false [] [(rO 17 (.mov (.t 5))), (rO 18 (.mov (.t 3))), (rO 19 (.cmp .lss (.t 17) (.t 18)))]) (.cond (.t 19) .skip (.exit 0))) (.seq (.block 1 (.ga (.put [5]) (.ga (.dead [26]) (.ga (.ren [4]) (.reg false [25, 26, 27] [(rO 22 (.mov (.t 4))), (rO 23 (.mov (.t 3))), (rO 24 (.mkrow 1 8 [(.int .i64 0)] (.t 23))), (rO 25 (.bslice 1 [(.t 24)])), (rO 26 (.app 1 24 (.t 22) (.t 25))), (rO 4 (.mov (.t 26)))]))))) (.reg false [] [(rO 20 (.mov (.t 5))), (rO 21 (.arith .add (.t 20) (.c (.int .i64 1)))), (rO 5 (.mov (.t 21)))])))))) (.seq (.seq (.reg false [] [(rO 6 (.mov (.c (.int .i64 0))))]) (.block 2 (.loop (.seq (.seq (.reg false [] [(rO 27 (.mov (.t 6))), (rO 28 (.mov (.t 3))), (rO 29 (.cmp .lss (.t 27) (.t 28)))]) (.cond (.t 29) .skip (.exit 2))) (.seq (.block 3 (.seq (.ga (.dead [33]) (.ga (.ren [7]) (.reg false [34] [(rO 32 (.load (some 224) (.t 1))), (rO 33 (.call N.spec_l02Table [(.t 32)])), (rO 7 (.mov (.t 33)))]))) (.seq (.seq (.reg false [] [(rO 8 (.mov (.c (.int .i64 0))))]) (.block 4 (.loop (.seq (.seq (.reg false [] [(rO 34 (.mov (.t 8))), (rO 35 (.mov (.t 3))), (rO 36 (.cmp .lss (.t 34) (.t 35)))]) (.cond (.t 36) .skip (.exit 4))) (.seq (.block 5 (.seq (.reg false [] [(rO 9 (.mov (.c (.int .i64 0))))]) (.seq (.seq (.reg false [] [(rO 39 (.mov (.t 8))), (rO 40 (.mov (.t 6))), (rO 41 (.cmp .eql (.t 39) (.t 40)))]) (.cond (.t 41) (.reg false [] [(rO 9 (.mov (.c (.int .i64 1))))]) .skip)) (.ga (.put [8]) (.reg false [48, 50, 51] [(rO 42 (.mov (.t 7))), (rO 43 (.mov (.t 8))), (rO 44 (.mov (.t 7))), (rO 45 (.mov (.t 8))), (rO 46 (.iaddrS 1 (.t 44) (.t 45))), (rO 47 (.loadS (.t 46))), (rO 48 (.mov (.t 9))), (rO 49 (.bslice 1 [(.t 48)])), (rO 50 (.app 1 8 (.t 47) (.t 49))), (rO 51 (.iaddrS 1 (.t 42) (.t 43))), ⟨none, 87, (.store none (.t 51) (.t 50)), none, [], none⟩]))))) (.reg false [] [(rO 37 (.mov (.t 8))), (rO 38 (.arith .add (.t 37) (.c (.int .i64 1)))), (rO 8 (.mov (.t 38)))])))))) (.seq (.gh (.frz [8]) (.reg false [57] [(rO 53 (.faddr 0 (.t 1))), (rO 54 (.load none (.t 53))), (rO 55 (.mov (.t 7))), (rO 56 (.call N.spec_l01Solve [(.t 54), (.t 55)])), (rO 52 (.mov (.t 56))), (rO 57 (.extract (.t 52) 0)), (rO 58 (.extract (.t 52) 1)), (rO 10 (.mov (.t 57))), (rO 11 (.mov (.t 58)))])) (.seq (.reg false [] [(rO 12 (.mov (.c (.int .i64 0))))]) (.block 6 (.loop (.seq (.seq (.reg false [] [(rO 59 (.mov (.t 12))), (rO 60 (.mov (.t 3))), (rO 61 (.cmp .lss (.t 59) (.t 60)))]) (.cond (.t 61) .skip (.exit 6))) (.seq (.block 7 (.seq (.reg false [68] [(rO 64 (.mov (.t 4))), (rO 65 (.mov (.t 12))), (rO 66 (.iaddrS 1 (.t 64) (.t 65))), (rO 67 (.loadS (.t 66))), (rO 13 (.mov (.t 67)))]) (.ga (.put [5]) (.reg false [] [(rO 68 (.mov (.t 13))), (rO 69 (.mov (.t 6))), (rO 70 (.mov (.t 10))), (rO 71 (.mov (.t 12))), (rO 72 (.iaddrS 1 (.t 70) (.t 71))), (rO 73 (.load none (.t 72))), (rO 74 (.iaddrS 1 (.t 68) (.t 69))), ⟨none, 84, (.store none (.t 74) (.t 73)), none, [], none⟩])))) (.reg false [] [(rO 62 (.mov (.t 12))), (rO 63 (.arith .add (.t 62) (.c (.int .i64 1)))), (rO 12 (.mov (.t 63)))])))))))))) (.reg false [] [(rO 30 (.mov (.t 6))), (rO 31 (.arith .add (.t 30) (.c (.int .i64 1)))), (rO 6 (.mov (.t 31)))])))))) (.seq (.reg false [] [(rO 75 (.mov (.t 4))), (rO 2 (.mov (.t 75)))]) .ret))))))⟩
end Go.X
namespace Go.X
open Go Go.RowKit
def algZ : List D := .int .i64 0 :: .int .i64 0 :: List.replicate 222 (.int .u8 0)
theorem algZ_len : algZ.length = 224 := by unfold algZ; rw [List.length_cons, List.length_cons, List.length_replicate]
end Go.X
namespace Go.X
open Go Go.RowKit
def FN.impl_Pair_unzip (N : FN) : FuncId := N.f 92
def FN.impl_UnzipVector (N : FN) : FuncId := N.f 93
def FN.spec_l10Unzip (N : FN) : FuncId := N.f 94
def FN.spec_UnzipVector (N : FN) : FuncId := N.f 95
def FN.laws_FnExactUnzipVector (N : FN) : FuncId := N.f 96
def ir_impl_Pair_unzip (N : FN) : CF := ⟨2, 63, [(.cell 4 (some 6))], (.seq (.reg false [4, 5] [(rO 3 (.box (.t 1))), (rO 4 (.alloc [(.int .u8 0), (.int .u8 0), (.int .u8 0), (.int .u8 0), (.int .u8 0), (.int .u8 0)]))]) (.seq (.reg false [6] [(rO 10 (.build [(.int .u8 0), (.int .u8 0), (.int .u8 0), (.int .u8 0), (.int .u8 0), (.int .u8 0)] [])), (rO 5 (.alloc [(.int .u8 0), (.int .u8 0), (.int .u8 0), (.int .u8 0), (.int .u8 0), (.int .u8 0)])), ⟨none, 66, (.store (some 6) (.t 5) (.t 10)), none, [], none⟩]) (.seq (.seq (.reg false [15] [(rO 11 (.mov (.t 0))), (rO 12 (.nilchk (.t 11))), (rO 13 (.faddr 0 (.t 12))), (rO 14 (.call N.impl_Algebra_copairing [(.t 13)])), (rO 15 (.len (.t 14))), (rO 16 (.mov (.c (.int .i64 0))))]) (.block 0 (.loop (.seq (.reg false [] [(rO 17 (.cmp .lss (.t 16) (.t 15)))]) (.seq (.cond (.t 17) .skip (.exit 0)) (.seq (.block 1 (.seq (.reg false [21] [(rO 18 (.mov (.t 16))), (rO 19 (.iaddrS 1 (.t 14) (.t 16))), (rO 20 (.loadS (.t 19))), (rO 6 (.mov (.t 18))), (rO 7 (.mov (.t 20)))]) (.seq (.reg false [] [(rO 21 (.mov (.t 7))), (rO 22 (.len (.t 21))), (rO 23 (.mov (.c (.int .i64 0))))]) (.block 2 (.loop (.seq (.reg false [] [(rO 24 (.cmp .lss (.t 23) (.t 22)))]) (.seq (.cond (.t 24) .skip (.exit 2)) (.seq (.block 3 (.seq (.reg false [] [(rO 25 (.mov (.t 23))), (rO 26 (.iaddrS 1 (.t 21) (.t 23))), (rO 27 (.load none (.t 26))), (rO 8 (.mov (.t 25))), (rO 9 (.mov (.t 27)))]) (.seq (.reg false [] [(rO 28 (.mov (.t 9))), (rO 29 (.cmp .neq (.t 28) (.c (.int .i64 0))))]) (.cond (.t 29) (.reg true [36, 51, 52, 60] [(rO 30 (.mov (.t 0))), (rO 31 (.nilchk (.t 30))), (rO 32 (.faddr 0 (.t 31))), ⟨(some 33), 34, (.load (some 6) (.t 5)), none, [36, 51, 52, 60], none⟩, (rO 34 (.mov (.t 6))), ⟨(some 35), 36, (.call N.impl_basis [(.t 34)]), none, [51, 52, 60], none⟩, (rO 36 (.mov (.t 9))), (rO 37 (.mov (.t 0))), (rO 38 (.nilchk (.t 37))), (rO 39 (.faddr 224 (.t 38))), (rO 40 (.mov (.t 0))), (rO 41 (.nilchk (.t 40))), (rO 42 (.faddr 224 (.t 41))), ⟨(some 43), 44, (.load (some 6) (.t 3)), none, [36, 51, 52, 60], none⟩, (rO 44 (.mov (.t 0))), (rO 45 (.mov (.t 8))), (rO 46 (.nilchk (.t 44))), (rO 47 (.faddr 448 (.t 46))), (rO 48 (.iaddrA 6 6 (.t 47) (.t 45))), ⟨(some 49), 50, (.load (some 6) (.t 48)), none, [36, 51, 52, 60], none⟩, ⟨(some 50), 51, (.call N.impl_Algebra_times [(.t 42), (.t 43), (.t 49)]), none, [52, 60], none⟩, ⟨(some 51), 52, (.call N.impl_Algebra_form [(.t 39), (.t 50)]), none, [60], none⟩, (rO 52 (.arith .mul (.t 36) (.t 51))), (rO 53 (.mov (.t 0))), (rO 54 (.nilchk (.t 53))), (rO 55 (.faddr 0 (.t 54))), (rO 56 (.faddr 0 (.t 55))), ⟨(some 57), 58, (.load none (.t 56)), none, [36, 51, 52, 60], none⟩, (rO 58 (.arith .rem (.t 52) (.t 57))), (rO 59 (.call N.impl_Algebra_add [(.t 32), (.t 33), (.t 35), (.t 58)])), ⟨none, 94, (.store (some 6) (.t 5) (.t 59)), none, [], none⟩]) .skip)))) (.reg false [] [(rO 60 (.arith .add (.t 23) (.c (.int .i64 1)))), (rO 23 (.mov (.t 60)))]))))))))) (.reg false [] [(rO 61 (.arith .add (.t 16) (.c (.int .i64 1)))), (rO 16 (.mov (.t 61)))]))))))) (.seq (.reg false [] [(rO 62 (.load (some 6) (.t 5))), ⟨none, 65, (.store (some 6) (.t 4) (.t 62)), none, [], none⟩]) .ret))))⟩
def ir_impl_UnzipVector (N : FN) : CF := ⟨2, 17, [(.cell 4 (some 6)), (.tmp 5)], (.seq (.reg false [3, 4, 5] [(rO 2 (.box (.t 0))), (rO 3 (.box (.t 1))), (rO 4 (.alloc [(.int .u8 0), (.int .u8 0), (.int .u8 0), (.int .u8 0), (.int .u8 0), (.int .u8 0)])), (rO 5 (.mov (.c (.int .i64 0))))]) (.seq (.seq (.reg false [10, 11] [(rO 7 (.load (some 484) (.t 2))), (rO 8 (.load (some 6) (.t 3))), (rO 9 (.bslice 6 [(.t 8)])), (rO 10 (.call N.impl_opened [(.t 7), (.t 9)])), (rO 6 (.mov (.t 10)))]) (.seq (.reg false [] [(rO 11 (.mov (.t 6))), (rO 12 (.cmp .neq (.t 11) (.c (.int .i64 0))))]) (.cond (.t 12) (.seq (.reg false [] [(rO 13 (.build [(.int .u8 0), (.int .u8 0), (.int .u8 0), (.int .u8 0), (.int .u8 0), (.int .u8 0)] [])), (rO 14 (.mov (.t 6))), ⟨none, 20, (.store (some 6) (.t 4) (.t 13)), none, [], none⟩, (rO 5 (.mov (.t 14)))]) .ret) .skip))) (.seq (.reg false [17] [(rO 15 (.load (some 6) (.t 3))), (rO 16 (.call N.impl_Pair_unzip [(.t 2), (.t 15)])), ⟨none, 20, (.store (some 6) (.t 4) (.t 16)), none, [], none⟩, (rO 5 (.mov (.c (.int .i64 0))))]) .ret)))⟩
def ir_spec_l10Unzip (N : FN) : CF := ⟨2, 57, [(.cell 4 (some 6))], (.seq (.reg false [3, 4, 5] [(rO 2 (.box (.t 0))), (rO 3 (.box (.t 1))), (rO 4 (.alloc [(.int .u8 0), (.int .u8 0), (.int .u8 0), (.int .u8 0), (.int .u8 0), (.int .u8 0)]))]) (.seq (.reg true [19, 6, 7] [(rO 12 (.faddr 0 (.t 2))), ⟨(some 13), 14, (.load (some 224) (.t 12)), none, [19, 6, 7], none⟩, (rO 14 (.faddr 224 (.t 2))), ⟨(some 15), 16, (.load (some 224) (.t 14)), none, [19, 6, 7], none⟩, (rO 16 (.faddr 0 (.t 2))), ⟨(some 17), 18, (.load (some 224) (.t 16)), none, [19, 6, 7], none⟩, ⟨(some 18), 19, (.call N.spec_l02Copairing [(.t 17)]), none, [6, 7], none⟩, (rO 5 (.alloc algZ)), (rO 6 (.alloc algZ)), ⟨none, 67, (.store (some 224) (.t 5) (.t 13)), none, [], (some [6])⟩, ⟨none, 68, (.store (some 224) (.t 6) (.t 15)), none, [], (some [7])⟩, (rO 7 (.mov (.t 18)))]) (.seq (.reg false [9] [(rO 19 (.build [(.int .u8 0), (.int .u8 0), (.int .u8 0), (.int .u8 0), (.int .u8 0), (.int .u8 0)] [])), (rO 8 (.alloc [(.int .u8 0), (.int .u8 0), (.int .u8 0), (.int .u8 0), (.int .u8 0), (.int .u8 0)])), ⟨none, 60, (.store (some 6) (.t 8) (.t 19)), none, [], none⟩]) (.seq (.seq (.reg false [] [(rO 9 (.mov (.c (.int .i64 0))))]) (.block 0 (.loop (.seq (.seq (.reg false [] [(rO 20 (.mov (.t 9))), (rO 21 (.faddr 1 (.t 5))), (rO 22 (.load none (.t 21))), (rO 23 (.cmp .lss (.t 20) (.t 22)))]) (.cond (.t 23) .skip (.exit 0))) (.seq (.block 1 (.seq (.reg true [34, 35] [⟨(some 26), 27, (.load (some 224) (.t 6)), none, [34, 35], none⟩, ⟨(some 27), 28, (.load (some 224) (.t 6)), none, [34, 35], none⟩, ⟨(some 28), 29, (.load (some 6) (.t 3)), none, [34, 35], none⟩, (rO 29 (.mov (.t 9))), (rO 30 (.faddr 448 (.t 2))), (rO 31 (.iaddrA 6 6 (.t 30) (.t 29))), ⟨(some 32), 33, (.load (some 6) (.t 31)), none, [34, 35], none⟩, ⟨(some 33), 34, (.call N.spec_l01Times [(.t 27), (.t 28), (.t 32)]), none, [35], none⟩, (rO 34 (.call N.spec_l01Form [(.t 26), (.t 33)])), (rO 10 (.mov (.t 34)))]) (.seq (.reg false [] [(rO 11 (.mov (.c (.int .i64 0))))]) (.block 2 (.loop (.seq (.seq (.reg false [] [(rO 35 (.mov (.t 11))), (rO 36 (.faddr 1 (.t 5))), (rO 37 (.load none (.t 36))), (rO 38 (.cmp .lss (.t 35) (.t 37)))]) (.cond (.t 38) .skip (.exit 2))) (.seq (.block 3 (.reg true [46, 56] [(rO 41 (.faddr 0 (.t 5))), ⟨(some 42), 43, (.load none (.t 41)), none, [46, 56], none⟩, ⟨(some 43), 44, (.load (some 6) (.t 8)), none, [46, 56], none⟩, (rO 44 (.mov (.t 11))), ⟨(some 45), 46, (.call N.spec_l01Basis [(.t 44)]), none, [56], none⟩, (rO 46 (.mov (.t 10))), (rO 47 (.mov (.t 7))), (rO 48 (.mov (.t 9))), ⟨(some 49), 50, (.iaddrS 1 (.t 47) (.t 48)), none, [46, 56], none⟩, ⟨(some 50), 51, (.load none (.t 49)), none, [46, 56], none⟩, (rO 51 (.mov (.t 11))), ⟨(some 52), 53, (.iaddrS 1 (.t 50) (.t 51)), none, [46, 56], none⟩, ⟨(some 53), 54, (.load none (.t 52)), none, [46, 56], none⟩, (rO 54 (.arith .mul (.t 46) (.t 53))), (rO 55 (.call N.spec_l01Add [(.t 42), (.t 43), (.t 45), (.t 54)])), ⟨none, 73, (.store (some 6) (.t 8) (.t 55)), none, [], none⟩])) (.reg false [] [(rO 39 (.mov (.t 11))), (rO 40 (.arith .add (.t 39) (.c (.int .i64 1)))), (rO 11 (.mov (.t 40)))])))))))) (.reg false [] [(rO 24 (.mov (.t 9))), (rO 25 (.arith .add (.t 24) (.c (.int .i64 1)))), (rO 9 (.mov (.t 25)))])))))) (.seq (.reg false [] [(rO 56 (.load (some 6) (.t 8))), ⟨none, 59, (.store (some 6) (.t 4) (.t 56)), none, [], none⟩]) .ret)))))⟩
def ir_spec_UnzipVector (N : FN) : CF := ⟨2, 18, [(.cell 4 (some 6)), (.tmp 5)], (.seq (.reg false [3, 4, 5] [(rO 2 (.box (.t 0))), (rO 3 (.box (.t 1))), (rO 4 (.alloc [(.int .u8 0), (.int .u8 0), (.int .u8 0), (.int .u8 0), (.int .u8 0), (.int .u8 0)])), (rO 5 (.mov (.c (.int .i64 0))))]) (.seq (.seq (.reg false [10, 11] [(rO 7 (.load (some 484) (.t 2))), (rO 8 (.load (some 6) (.t 3))), (rO 9 (.bslice 6 [(.t 8)])), (rO 10 (.call N.spec_l10Open [(.t 7), (.t 9)])), (rO 6 (.mov (.t 10)))]) (.seq (.reg false [] [(rO 11 (.mov (.t 6))), (rO 12 (.cmp .neq (.t 11) (.c (.int .i64 0))))]) (.cond (.t 12) (.seq (.reg false [] [(rO 13 (.build [(.int .u8 0), (.int .u8 0), (.int .u8 0), (.int .u8 0), (.int .u8 0), (.int .u8 0)] [])), (rO 14 (.mov (.t 6))), ⟨none, 21, (.store (some 6) (.t 4) (.t 13)), none, [], none⟩, (rO 5 (.mov (.t 14)))]) .ret) .skip))) (.seq (.reg false [18] [(rO 15 (.load (some 484) (.t 2))), (rO 16 (.load (some 6) (.t 3))), (rO 17 (.call N.spec_l10Unzip [(.t 15), (.t 16)])), ⟨none, 22, (.store (some 6) (.t 4) (.t 17)), none, [], none⟩, (rO 5 (.mov (.c (.int .i64 0))))]) .ret)))⟩
def ir_laws_FnExactUnzipVector (N : FN) : CF := ⟨2, 34, [(.tmp 4)], (.seq (.reg false [3, 4] [(rO 2 (.box (.t 0))), (rO 3 (.box (.t 1))), (rO 4 (.mov (.c (.bool false))))]) (.seq (.reg true [12, 14, 15, 6] [⟨(some 10), 11, (.load (some 484) (.t 2)), none, [12, 14, 15, 6], none⟩, ⟨(some 11), 12, (.call N.laws_toPair [(.t 10)]), none, [14, 15, 6], none⟩, ⟨(some 12), 13, (.load (some 6) (.t 3)), none, [12, 14, 15, 6], none⟩, ⟨(some 13), 14, (.call N.laws_toVector [(.t 12)]), none, [15, 6], none⟩, ⟨(some 14), 15, (.call N.spec_UnzipVector [(.t 11), (.t 13)]), none, [6], none⟩, (rO 9 (.mov (.t 14))), (rO 15 (.extract (.t 9) 0)), (rO 16 (.extract (.t 9) 1)), (rO 5 (.alloc [(.int .u8 0), (.int .u8 0), (.int .u8 0), (.int .u8 0), (.int .u8 0), (.int .u8 0)])), ⟨none, 44, (.store (some 6) (.t 5) (.t 15)), none, [], (some [6])⟩, (rO 6 (.mov (.t 16)))]) (.seq (.reg true [20, 22, 23, 8] [⟨(some 18), 19, (.load (some 484) (.t 2)), none, [20, 22, 23, 8], none⟩, ⟨(some 19), 20, (.call N.laws_toPair [(.t 18)]), none, [22, 23, 8], none⟩, ⟨(some 20), 21, (.load (some 6) (.t 3)), none, [20, 22, 23, 8], none⟩, ⟨(some 21), 22, (.call N.laws_toVector [(.t 20)]), none, [23, 8], none⟩, ⟨(some 22), 23, (.call N.impl_UnzipVector [(.t 19), (.t 21)]), none, [8], none⟩, (rO 17 (.mov (.t 22))), (rO 23 (.extract (.t 17) 0)), (rO 24 (.extract (.t 17) 1)), (rO 7 (.alloc [(.int .u8 0), (.int .u8 0), (.int .u8 0), (.int .u8 0), (.int .u8 0), (.int .u8 0)])), ⟨none, 44, (.store (some 6) (.t 7) (.t 23)), none, [], (some [8])⟩, (rO 8 (.mov (.t 24)))]) (.seq (.seq (.reg false [28] [(rO 25 (.load (some 6) (.t 7))), (rO 26 (.load (some 6) (.t 5))), (rO 27 (.call N.laws_eqVector [(.t 25), (.t 26)])), (rO 28 (.not (.t 27))), (rO 29 (.mov (.t 28))), ⟨(some 30), 31, (.mov (.t 8)), (some (29, false)), [], none⟩, ⟨(some 31), 32, (.mov (.t 6)), (some (29, false)), [], none⟩, ⟨(some 32), 33, (.cmp .neq (.t 30) (.t 31)), (some (29, false)), [], none⟩, (rO 33 (.pick (.t 29) (.c (.bool true)) (.t 32)))]) (.cond (.t 33) (.seq (.reg false [] [(rO 4 (.mov (.c (.bool false))))]) .ret) .skip)) (.seq (.reg false [] [(rO 4 (.mov (.c (.bool true))))]) .ret)))))⟩
end Go.X
namespace Go.X
open Go Go.RowKit
def uzI (p : Int) (B : Nat → Row) (c : Row) (acc : Nat → Int) (k : Nat) : Nat → Nat → Int
  | 0 => acc
  | i + 1 => if B k i = 0 then uzI p B c acc k i else addV p (B k i * c i % p) (uzI p B c acc k i) (basV k)
def uzR (p : Int) (B : Nat → Row) (c : Row) (n : Nat) : Nat → Nat → Int
  | 0 => Z
  | k + 1 => uzI p B c (uzR p B c n k) k n
def uzF (x : Pr) (w : Nat → Int) : Row := fun i => formV x.o (timesV x.o w (x.z i))
def iUnzip (x : Pr) (w : Nat → Int) : Nat → Int := uzR x.c.p (fun k => (iCop x.c).getD k Z) (uzF x w) x.c.n.toNat (iCop x.c).length
def uzS (p : Int) (T : Nat → Row) (c : Row) (acc : Nat → Int) (k : Nat) : Nat → Nat → Int
  | 0 => acc
  | l + 1 => addV p (c k * T k l) (uzS p T c acc k l) (basV l)
def uzT (p : Int) (T : Nat → Row) (c : Row) (n : Nat) : Nat → Nat → Int
  | 0 => Z
  | k + 1 => uzS p T c (uzT p T c n k) k n
def sUnzip (x : Pr) (w : Nat → Int) : Nat → Int := uzT x.c.p (sCop x.c) (uzF x w) x.c.n.toNat x.c.n.toNat
theorem Z_rw {p : Int} (hp : 1 ≤ p) : Rw p Z := fun j => by show (0 : Int) ≤ 0 ∧ (0 : Int) < p; omega
theorem uzI_rw {p : Int} {B : Nat → Row} {c : Row} {acc : Nat → Int} {k : Nat} (hp : 1 ≤ p) (h : Rw p acc) : ∀ i, Rw p (uzI p B c acc k i)
  | 0 => h
  | i + 1 => by
    unfold uzI; split
    · exact uzI_rw hp h i
    · exact addV_rw hp
theorem uzR_rw {p : Int} {B : Nat → Row} {c : Row} {n : Nat} (hp : 1 ≤ p) : ∀ k, Rw p (uzR p B c n k)
  | 0 => Z_rw hp
  | k + 1 => uzI_rw hp (uzR_rw hp k) n
theorem uzS_rw {p : Int} {B : Nat → Row} {c : Row} {acc : Nat → Int} {k : Nat} (hp : 1 ≤ p) (h : Rw p acc) : ∀ i, Rw p (uzS p B c acc k i)
  | 0 => h
  | _ + 1 => addV_rw hp
theorem uzT_rw {p : Int} {B : Nat → Row} {c : Row} {n : Nat} (hp : 1 ≤ p) : ∀ k, Rw p (uzT p B c n k)
  | 0 => Z_rw hp
  | k + 1 => uzS_rw hp (uzT_rw hp k) n
theorem uzF_bd {x : Pr} {w : Nat → Int} (ho : AlgOk x.o) (i : Nat) : 0 ≤ uzF x w i ∧ uzF x w i < x.o.p := mod_bd _ (by have := prime_bd ho.p; omega)
def C_unzip (P : Program) (N : FN) : Prop := ∀ {sz : Nat} {l : List (List D)} {e off : Nat} {x : Pr} {w : Nat → Int}, PairAt l e off x → AlgOk x.c → AlgOk x.o → (∀ i, Byts (x.z i)) → Byts w → Can P N.impl_Pair_unzip [.pd sz l e off, vecD w] (.val (vecD (iUnzip x w)))
def C_UnzipVector (P : Program) (N : FN) : Prop := ∀ {x : Pr} {w : Nat → Int}, PrIn x → Byts w → Can P N.impl_UnzipVector [pairD x, vecD w] (if dB (IsPairP x ∧ Small w x.o.n x.o.p) = true then .tup [vecD (iUnzip x w), .int .i64 0] else .tup [vecD Z, .int .i64 1])
def C_sUnzip (P : Program) (N : FN) : Prop := ∀ {x : Pr} {w : Nat → Int}, AlgOk x.c → AlgOk x.o → (∀ j, j < x.c.n.toNat → (sCol x.c j).isSome = true) → (∀ i, Byts (x.z i)) → Byts w → Can P N.spec_l10Unzip [pairD x, vecD w] (.val (vecD (sUnzip x w)))
def C_sUnzipVector (P : Program) (N : FN) : Prop := ∀ {x : Pr} {w : Nat → Int}, SPrIn x → (sIsP x → ∀ j, j < x.c.n.toNat → (sCol x.c j).isSome = true) → Byts w → Can P N.spec_UnzipVector [pairD x, vecD w] (if dB (sIsP x ∧ Small w x.o.n x.o.p) = true then .tup [vecD (sUnzip x w), .int .i64 0] else .tup [vecD Z, .int .i64 1])
theorem splice_whole {l m : List D} (h : m.length = l.length) : splice l 0 m = m := by
  unfold splice
  rw [List.take_zero, List.nil_append, h, Nat.zero_add, List.drop_length, List.append_nil]
theorem algAt_st {a : Alg} : AlgAt ([algZ].set 0 (splice algZ 0 (algL a))) 0 0 a := by
  rw [List.set_cons_zero, splice_whole (by rw [algZ_len]; exact arr_len ..)]
  exact algAt_one a
end Go.X
namespace Go.X
open Go Go.RowKit
theorem dot_sub (m : Nat) (r z y : Row) : dot m r (fun i => z i - y i) = dot m r z - dot m r y := by
  unfold dot
  rw [Int.sub_eq_add_neg, show -(sumN m fun i => r i * y i) = -1 * sumN m fun i => r i * y i from by omega, ← sumN_mul, ← sumN_add]
  refine sumN_ext fun i _ => ?_
  rw [Int.mul_sub]; omega
theorem dot_mod {p : Int} {m : Nat} {r z y : Row} (h : ∀ i, i < m → z i % p = y i % p) : dot m r z % p = dot m r y % p := sumN_mod fun i hi => cg_mul rfl (h i hi)
theorem sumN_two {f : Nat → Int} {i j : Nat} {n : Nat} (hi : i < n) (hj : j < n) (hij : i ≠ j) (h : ∀ k, k < n → k ≠ i → k ≠ j → f k = 0) : sumN n f = f i + f j := by
  have e : sumN n f = sumN n (fun k => (if k = i then f k else 0) + (if k = j then f k else 0)) := sumN_ext fun k hk => by
    by_cases h1 : k = i
    · subst h1; rw [if_pos rfl, if_neg hij]; omega
    · by_cases h2 : k = j
      · subst h2; rw [if_neg h1, if_pos rfl]; omega
      · rw [if_neg h1, if_neg h2, h k hk h1 h2]; rfl
  rw [e, sumN_add, sumN_one (i := i) hi (fun k hk => by rw [if_neg hk]), sumN_one (i := j) hj (fun k hk => by rw [if_neg hk]), if_pos rfl, if_pos rfl]
theorem sumN_one' {f : Nat → Int} {i n : Nat} (hi : i < n) (h : ∀ k, k < n → k ≠ i → f k = 0) : sumN n f = f i := by
  have e : sumN n f = sumN n (fun k => if k = i then f k else 0) := sumN_ext fun k hk => by
    by_cases h1 : k = i
    · rw [if_pos h1]
    · rw [if_neg h1, h k hk h1]
  rw [e, sumN_one (i := i) hi (fun k hk => by rw [if_neg hk]), if_pos rfl]
theorem RR.ld_ne {p : Int} {m : Nat} {L : List Row} {ld : Nat → Nat} (h : RR p m L ld) {i j : Nat} (hi : i < L.length) (hj : j < L.length) (hij : i ≠ j) : ld i ≠ ld j := by
  rcases Nat.lt_or_gt_of_ne hij with c | c
  · have := h.sort i j c hj; omega
  · have := h.sort j i c hi; omega
theorem RR.ld_ge {p : Int} {m : Nat} {L : List Row} {ld : Nat → Nat} (h : RR p m L ld) : ∀ i, i < L.length → i ≤ ld i
  | 0, _ => Nat.zero_le _
  | i + 1, hi => by have := h.ld_ge i (by omega); have := h.sort i (i + 1) (by omega) hi; omega
theorem RR.len_le {p : Int} {m : Nat} {L : List Row} {ld : Nat → Nat} (h : RR p m L ld) : L.length ≤ m := by
  rcases Nat.lt_or_ge m L.length with c | c
  · have := h.ld_ge m c; have := (h.lead m c).1; omega
  · exact c
def kv (p : Int) (L : List Row) (ld : Nat → Nat) (c : Nat) : Row := fun j => if j = c then 1 else match (List.range L.length).find? (fun i => ld i == j) with
  | some i => -(L.getD i Z c) % p
  | none => 0
theorem kv_c {p : Int} {L : List Row} {ld : Nat → Nat} {c : Nat} : kv p L ld c c = 1 := by unfold kv; rw [if_pos rfl]
theorem kv_no {p : Int} {L : List Row} {ld : Nat → Nat} {c j : Nat} (hj : j ≠ c) (h : ∀ i, i < L.length → ld i ≠ j) : kv p L ld c j = 0 := by
  unfold kv
  rw [if_neg hj]
  have : (List.range L.length).find? (fun i => ld i == j) = none := by
    rw [List.find?_eq_none]
    intro i hi
    have := h i (by simpa using hi)
    simpa using this
  rw [this]
theorem kv_ld {p : Int} {m : Nat} {L : List Row} {ld : Nat → Nat} (hr : RR p m L ld) {c i : Nat} (hi : i < L.length) (hc : ld i ≠ c) : kv p L ld c (ld i) = -(L.getD i Z c) % p := by
  unfold kv
  rw [if_neg hc]
  have : (List.range L.length).find? (fun k => ld k == ld i) = some i := by
    rw [List.find?_eq_some_iff_getElem]
    refine ⟨by simp, i, by simpa using hi, by simp, fun k hk => ?_⟩
    have := hr.ld_ne (i := k) (j := i) (by omega) hi (by omega)
    simpa using this
  rw [this]
theorem kv_rw {p : Int} {L : List Row} {ld : Nat → Nat} {c : Nat} (hp : 2 ≤ p) : Rw p (kv p L ld c) := fun j => by
  unfold kv
  split
  · omega
  · split
    · exact mod_bd _ (by omega)
    · omega
theorem kv_ker {p : Int} {m : Nat} {L : List Row} {ld : Nat → Nat} (hr : RR p m L ld) {c : Nat} (hc : c < m) (h : ∀ i, i < L.length → ld i ≠ c) : Ker p m L (kv p L ld c) := fun r hrm => by
  obtain ⟨i, hi, rfl⟩ := mem_getD hrm
  obtain ⟨l1, l2, l3⟩ := hr.lead i hi
  unfold dot
  rw [sumN_two (i := ld i) (j := c) l1 hc (h i hi) fun k hk h1 h2 => ?_]
  · rw [l2, kv_c, kv_ld hr hi (h i hi), Int.one_mul, Int.mul_one]
    have : (-(L.getD i Z c) % p + L.getD i Z c) % p = (-(L.getD i Z c) + L.getD i Z c) % p := cg_add (cg_mod p _) rfl
    rw [this, Int.add_left_neg]; simp
  · by_cases e : ∃ i', i' < L.length ∧ ld i' = k
    · obtain ⟨i', hi', rfl⟩ := e
      have : i' ≠ i := fun e => h1 (by rw [e])
      rw [hr.zero i' i hi' hi this, Int.zero_mul]
    · rw [kv_no h2 (fun i' hi' e' => e ⟨i', hi', e'⟩), Int.mul_zero]
def KerZ (p : Int) (m : Nat) (L : List Row) : Prop := ∀ z, Rw p z → Ker p m L z → ∀ i, i < m → z i = 0
theorem RR.full {p : Int} {m : Nat} {L : List Row} {ld : Nat → Nat} (h : RR p m L ld) {n : Nat} (hl : L.length = n) (hb : ∀ i, i < n → ld i < n) : ∀ i, i < n → ld i = i := by
  intro i hi
  have h1 := h.ld_ge i (by omega)
  have key : ∀ d, ∀ i, i + d = n - 1 → ld i ≤ i ∨ n ≤ i := by
    intro d
    induction d with
    | zero => intro i hi; have := hb i; omega
    | succ d ih =>
      intro i hi
      have := ih (i + 1) (by omega)
      have := h.sort i (i + 1) (by omega)
      omega
  have := key (n - 1 - i) i (by omega)
  omega
theorem kerZ_len {p : Int} {m : Nat} {L : List Row} {ld : Nat → Nat} (hp : 2 ≤ p) (h : RR p m L ld) : L.length = m ↔ KerZ p m L := by
  constructor
  · intro hl z hz hk i hi
    have hf := h.full hl (fun i hi => (h.lead i (by omega)).1)
    have h1 := hk _ (getD_mem (L := L) (i := i) (by omega))
    unfold dot at h1
    rw [sumN_one' (i := i) hi fun k hk hne => ?_] at h1
    · have := (h.lead i (by omega)).2.1
      rw [hf i hi] at this
      rw [this, Int.one_mul, rw_mod hz] at h1
      exact h1
    · have := h.zero k i (by omega) (by omega) hne
      rw [hf k (by omega)] at this
      rw [this, Int.zero_mul]
  · intro hz
    have h1 := h.len_le
    rcases Nat.lt_or_ge L.length m with c | c
    · exfalso
      have : ∃ c, c < m ∧ ∀ i, i < L.length → ld i ≠ c := by
        apply Classical.byContradiction
        intro hn
        have hall : ∀ c, c < m → ∃ i, i < L.length ∧ ld i = c := fun c hc => Classical.byContradiction fun h' => hn ⟨c, hc, fun i hi e => h' ⟨i, hi, e⟩⟩
        have key : ∀ c, c < m → ∃ i, i < L.length ∧ ld i = c ∧ c ≤ i := by
          intro c
          induction c with
          | zero => intro hc; obtain ⟨i, hi, e⟩ := hall 0 hc; exact ⟨i, hi, e, by omega⟩
          | succ c ih =>
            intro hc
            obtain ⟨i, hi, e, hle⟩ := ih (by omega)
            obtain ⟨i', hi', e'⟩ := hall (c + 1) hc
            refine ⟨i', hi', e', ?_⟩
            rcases Nat.lt_trichotomy i i' with t | t | t
            · omega
            · subst t; omega
            · have := h.sort i' i t hi; omega
        obtain ⟨i, hi, _, hle⟩ := key (m - 1) (by omega)
        omega
      obtain ⟨c, hc, hne⟩ := this
      have := hz _ (kv_rw hp) (kv_ker h hc hne) c hc
      rw [kv_c] at this
      omega
    · omega
theorem rank_eq {p : Int} {m : Nat} {L : List Row} (hp : p ∈ primes) (hR : RwL p L) : (redF p m L).length = m ↔ (echF p m L).length = m := by
  have hp2 := prime_bd hp
  obtain ⟨l1, r1⟩ := redF_rr (m := m) hp hR
  obtain ⟨l2, r2⟩ := echF_rr (m := m) hp hR
  rw [kerZ_len hp2.1 r1, kerZ_len hp2.1 r2]
  unfold KerZ
  constructor <;> intro h z hz hk
  · exact h z hz ((redF_ker hp hR).2 ((echF_ker hp hR).1 hk))
  · exact h z hz ((echF_ker hp hR).2 ((redF_ker hp hR).1 hk))
theorem kerZ_ech {p : Int} {m : Nat} {L : List Row} (hp : p ∈ primes) (hR : RwL p L) (h : (echF p m L).length = m) : KerZ p m L := by
  have hp2 := prime_bd hp
  obtain ⟨l2, r2⟩ := echF_rr (m := m) hp hR
  exact fun z hz hk => (kerZ_len hp2.1 r2).1 h z hz ((echF_ker hp hR).2 hk)
def ext1 (n : Nat) (r : Row) : Row := fun i => if i < n then r i else -1
def Sol (p : Int) (n : Nat) (L : List Row) (r : Row) : Prop := Ker p (n + 1) L (ext1 n r)
theorem dot_ext1 (n : Nat) (r v : Row) : dot (n + 1) r (ext1 n v) = dot n r v - r n := by
  unfold dot
  rw [sumN]
  have : sumN n (fun i => r i * ext1 n v i) = sumN n fun i => r i * v i := sumN_ext fun i hi => by unfold ext1; rw [if_pos hi]
  rw [this]
  unfold ext1
  rw [if_neg (by omega), Int.mul_neg, Int.mul_one]; omega
theorem sol_iff {p : Int} {n : Nat} {L : List Row} {v : Row} : Sol p n L v ↔ ∀ r ∈ L, dot n r v % p = r n % p := by
  unfold Sol Ker
  constructor
  · intro h r hr
    have := h r hr
    rw [dot_ext1] at this
    exact Int.emod_eq_emod_iff_emod_sub_eq_zero.2 this
  · intro h r hr
    rw [dot_ext1]
    exact Int.emod_eq_emod_iff_emod_sub_eq_zero.1 (h r hr)
theorem sol_red {p : Int} {n : Nat} {L : List Row} {v : Row} (hp : p ∈ primes) (hR : RwL p L) : Sol p n (redF p (n + 1) L) v ↔ Sol p n L v := redF_ker hp hR
theorem sol_ech {p : Int} {n : Nat} {L : List Row} {v : Row} (hp : p ∈ primes) (hR : RwL p L) : Sol p n (echF p (n + 1) L) v ↔ Sol p n L v := echF_ker hp hR
theorem no_sol {p : Int} {n : Nat} {L : List Row} {ld : Nat → Nat} {v : Row} (hp : 2 ≤ p) (h : RR p (n + 1) L ld) (hs : Sol p n L v) {i : Nat} (hi : i < L.length) : ld i < n := by
  obtain ⟨l1, l2, l3⟩ := h.lead i hi
  rcases Nat.lt_or_ge (ld i) n with c | c
  · exact c
  · exfalso
    have e : ld i = n := by omega
    have := sol_iff.1 hs _ (getD_mem hi)
    rw [e] at l2 l3
    unfold dot at this
    rw [sumN_zero fun k hk => by rw [l3 k hk, Int.zero_mul], l2, Int.emod_eq_of_lt (by omega) (by omega), Int.emod_eq_of_lt (by omega) (by omega)] at this
    omega
theorem sol_of {p : Int} {n : Nat} {L : List Row} {ld : Nat → Nat} {v : Row} (h : RR p (n + 1) L ld) (hl : ∀ i, i < L.length → ld i < n) (h1 : ∀ i, i < L.length → v (ld i) = L.getD i Z n) (h2 : ∀ j, j < n → (∀ i, i < L.length → ld i ≠ j) → v j = 0) : Sol p n L v := sol_iff.2 fun r hr => by
  obtain ⟨i, hi, rfl⟩ := mem_getD hr
  obtain ⟨l1, l2, l3⟩ := h.lead i hi
  unfold dot
  rw [sumN_one' (i := ld i) (hl i hi) fun k hk hne => ?_]
  · rw [l2, Int.one_mul, h1 i hi]
  · by_cases e : ∃ i', i' < L.length ∧ ld i' = k
    · obtain ⟨i', hi', rfl⟩ := e
      have : i' ≠ i := fun e => hne (by rw [e])
      rw [h.zero i' i hi' hi this, Int.zero_mul]
    · rw [h2 k hk (fun i' hi' e' => e ⟨i', hi', e'⟩), Int.mul_zero]
theorem solN_ok {p : Int} {n : Nat} {L : List Row} {ld : Nat → Nat} (h : RR p (n + 1) L ld) (hl : ∀ i, i < L.length → ld i < n) : ∀ k, k ≤ L.length → ∃ o, solN n L k = some o ∧ (∀ i, i < k → o (ld i) = L.getD i Z n) ∧ ∀ j, (∀ i, i < k → ld i ≠ j) → o j = 0
  | 0, _ => ⟨Z, rfl, fun i hi => by omega, fun j _ => rfl⟩
  | k + 1, hk => by
    obtain ⟨o, e, h1, h2⟩ := solN_ok h hl k (by omega)
    have hld := (h.lead k (by omega)).leadF
    have := hl k (by omega)
    refine ⟨upd o (ld k) (L.getD k Z n), ?_, fun i hi => ?_, fun j hj => ?_⟩
    · unfold solN
      rw [e]
      dsimp only
      rw [hld, if_neg (by omega)]; rfl
    · by_cases c : i = k
      · subst c; exact upd_same ..
      · rw [upd_ne _ _ (h.ld_ne (by omega) (by omega) c)]; exact h1 i (by omega)
    · rw [upd_ne _ _ (fun e => hj k (by omega) e.symm)]; exact h2 j (fun i hi => hj i (by omega))
theorem solN_no {p : Int} {n : Nat} {L : List Row} {ld : Nat → Nat} (h : RR p (n + 1) L ld) : ∀ k, k ≤ L.length → ∀ o, solN n L k = some o → ∀ i, i < k → ld i < n
  | 0, _, _, _, i, hi => by omega
  | k + 1, hk, o, e, i, hi => by
    have hld := (h.lead k (by omega)).leadF
    have hb := (h.lead k (by omega)).1
    unfold solN at e
    split at e
    · cases e
    · rename_i o' e'
      split at e
      · cases e
      · rename_i hne
        rw [hld] at hne
        by_cases c : i = k
        · subst c; omega
        · exact solN_no h k (by omega) o' e' i (by omega)
theorem iSolve_some {p : Int} {n : Nat} {L : List Row} {r : Row} (hp : p ∈ primes) (hR : RwL p L) (h : iSolveF p n L = some r) : Sol p n L r := by
  obtain ⟨ld, rr⟩ := redF_rr (m := n + 1) hp hR
  unfold iSolveF at h
  have hl := solN_no rr _ (Nat.le_refl _) _ h
  obtain ⟨o, e, h1, h2⟩ := solN_ok rr hl _ (Nat.le_refl _)
  rw [e] at h
  simp only [Option.some.injEq] at h
  subst h
  exact (sol_red hp hR).1 (sol_of rr hl h1 fun j _ hj => h2 j hj)
theorem iSolve_none {p : Int} {n : Nat} {L : List Row} {r : Row} (hp : p ∈ primes) (hR : RwL p L) (hs : Sol p n L r) : (iSolveF p n L).isSome = true := by
  have hp2 := prime_bd hp
  obtain ⟨ld, rr⟩ := redF_rr (m := n + 1) hp hR
  have hs' := (sol_red hp hR).2 hs
  obtain ⟨o, e, _⟩ := solN_ok rr (fun i hi => no_sol hp2.1 rr hs' hi) _ (Nat.le_refl _)
  unfold iSolveF
  rw [e]; rfl
theorem sSolve_some {p : Int} {n : Nat} {L : List Row} {r : Row} (hp : p ∈ primes) (hR : RwL p L) (h : sSolveF p n L = some r) : Sol p n L r := by
  obtain ⟨ld, rr⟩ := echF_rr (m := n + 1) hp hR
  unfold sSolveF at h
  split at h
  · rename_i g
    obtain ⟨_, g2, g3⟩ := g
    simp only [Option.some.injEq] at h
    have hld : ∀ i, i < n → ld i = i := fun i hi => by
      have := (rr.lead i (by omega)).leadF
      rw [g3 i hi] at this; omega
    refine (sol_ech hp hR).1 (sol_of rr (fun i hi => by rw [hld i (by omega)]; omega) (fun i hi => ?_) fun j hj hn => absurd (hld j hj) (hn j (by omega)))
    rw [hld i (by omega), ← h]
  · cases h
theorem sSolve_of {p : Int} {n : Nat} {L : List Row} {r : Row} (hp : p ∈ primes) (hR : RwL p L) (hne : L ≠ []) (hs : Sol p n L r) (hr : Rw p r) (hu : ∀ v, Rw p v → Sol p n L v → ∀ i, i < n → v i = r i) : ∃ s, sSolveF p n L = some s ∧ ∀ i, i < n → s i = r i := by
  have hp2 := prime_bd hp
  obtain ⟨ld, rr⟩ := echF_rr (m := n + 1) hp hR
  have hs' := (sol_ech hp hR).2 hs
  have hl : ∀ i, i < (echF p (n + 1) L).length → ld i < n := fun i hi => no_sol hp2.1 rr hs' hi
  have hall : ∀ c, c < n → ∃ i, i < (echF p (n + 1) L).length ∧ ld i = c := fun c hc => by
    apply Classical.byContradiction
    intro hn
    have hk := kv_ker rr (c := c) (by omega) (fun i hi e => hn ⟨i, hi, e⟩)
    have hk' := (echF_ker hp hR).1 hk
    have hz : kv p (echF p (n + 1) L) ld c n = 0 := kv_no (by omega) (fun i hi e => by have := hl i hi; omega)
    have hsol : Sol p n L (fun i => (r i + kv p (echF p (n + 1) L) ld c i) % p) := sol_iff.2 fun x hx => by
      have h1 := sol_iff.1 hs x hx
      have h2 := hk' x hx
      unfold dot at h2
      rw [sumN, hz, Int.mul_zero, Int.add_zero] at h2
      have e : dot n x (fun i => (r i + kv p (echF p (n + 1) L) ld c i) % p) % p = dot n x (fun i => r i + kv p (echF p (n + 1) L) ld c i) % p := dot_mod fun i _ => cg_mod p _
      have e2 : dot n x (fun i => r i + kv p (echF p (n + 1) L) ld c i) = dot n x r + sumN n fun i => x i * kv p (echF p (n + 1) L) ld c i := by
        unfold dot
        rw [← sumN_add]
        exact sumN_ext fun i _ => Int.mul_add ..
      rw [e, e2, ← h1]
      have := cg_add (p := p) (a := dot n x r) rfl (show (sumN n fun i => x i * kv p (echF p (n + 1) L) ld c i) % p = 0 % p by rw [h2]; simp)
      rw [this, Int.add_zero]
    have := hu _ (fun i => mod_bd _ (by omega)) hsol c hc
    rw [kv_c] at this
    have h3 := hr c
    rcases Int.lt_or_le (r c + 1) p with t | t
    · rw [Int.emod_eq_of_lt (by omega) t] at this; omega
    · rw [show r c + 1 = p by omega, Int.emod_self] at this; omega
  have hge : ∀ c, c < n → ∃ i, i < (echF p (n + 1) L).length ∧ ld i = c ∧ c ≤ i := by
    intro c
    induction c with
    | zero => intro hc; obtain ⟨i, hi, e⟩ := hall 0 hc; exact ⟨i, hi, e, by omega⟩
    | succ c ih =>
      intro hc
      obtain ⟨i, hi, e, hle⟩ := ih (by omega)
      obtain ⟨i', hi', e'⟩ := hall (c + 1) hc
      refine ⟨i', hi', e', ?_⟩
      rcases Nat.lt_trichotomy i i' with t | t | t
      · omega
      · subst t; omega
      · have := rr.sort i' i t hi; omega
  have hlen : (echF p (n + 1) L).length = n := by
    have h1 : n ≤ (echF p (n + 1) L).length := by
      rcases Nat.eq_zero_or_pos n with c | c
      · omega
      · obtain ⟨i, hi, _, hle⟩ := hge (n - 1) (by omega); omega
    rcases Nat.lt_or_ge n (echF p (n + 1) L).length with c | c
    · have := rr.ld_ge n c; have := hl n c; omega
    · omega
  have hld := rr.full hlen (fun i hi => hl i (by omega))
  have e : sSolveF p n L = some fun i => (echF p (n + 1) L).getD i Z n := by
    unfold sSolveF
    rw [if_pos ⟨hne, hlen, fun i hi => by rw [(rr.lead i (by omega)).leadF, hld i hi]⟩]
  refine ⟨_, e, ?_⟩
  have hsol := sSolve_some hp hR e
  exact fun i hi => hu _ (fun i => rr.rw.get (by omega) i n) hsol i hi
end Go.X
namespace Go.X
open Go Go.RowKit
theorem sumN_comm {f : Nat → Nat → Int} {n : Nat} : ∀ m, sumN m (fun i => sumN n fun j => f i j) = sumN n fun j => sumN m fun i => f i j
  | 0 => (sumN_zero fun _ _ => rfl).symm
  | m + 1 => by
    simp only [sumN]
    rw [sumN_comm m, ← sumN_add]
theorem times_lt {a : Alg} {v w : Nat → Int} {k : Nat} (hk : k < a.n.toNat) : timesV a v w k = tsum a v w k a.n.toNat % a.p := by
  unfold timesV; rw [if_pos (by omega)]
theorem times_ge {a : Alg} {v w : Nat → Int} {k : Nat} (hk : a.n ≤ (k : Int)) : timesV a v w k = 0 := by
  unfold timesV; rw [if_neg (by omega)]
theorem times_l {a : Alg} {v : Nat → Int} {m k : Nat} (hm : m < a.n.toNat) (hk : k < a.n.toNat) : timesV a v (basV m) k = dot a.n.toNat (fun i => a.T i m k) v % a.p := by
  rw [times_lt hk]
  unfold tsum dot
  congr 1
  refine sumN_ext fun i _ => ?_
  rw [sumN_one (i := m) hm fun j h => by simp [basV, h]]
  simp [basV, Int.mul_comm]
theorem times_r {a : Alg} {v : Nat → Int} {m k : Nat} (hm : m < a.n.toNat) (hk : k < a.n.toNat) : timesV a (basV m) v k = dot a.n.toNat (fun i => a.T m i k) v % a.p := by
  rw [times_lt hk]
  unfold tsum dot
  congr 1
  rw [sumN_one (i := m) hm fun i h => sumN_zero fun j _ => by simp [basV, h]]
  refine sumN_ext fun j _ => ?_
  simp [basV, Int.mul_comm]
def LU (a : Alg) (v : Nat → Int) : Prop := ∀ m k, m < a.n.toNat → k < a.n.toNat → timesV a v (basV m) k = basV m k
def RU (a : Alg) (v : Nat → Int) : Prop := ∀ m k, m < a.n.toNat → k < a.n.toNat → timesV a (basV m) v k = basV m k
theorem basV_mod {p : Int} (hp : 2 ≤ p) (m k : Nat) : basV m k % p = basV m k := by
  unfold basV; split
  · exact Int.emod_eq_of_lt (by omega) (by omega)
  · simp
theorem unit_eq {a : Alg} {u v : Nat → Int} (hp : 2 ≤ a.p) (hu : Rw a.p u) (hv : Rw a.p v) (hl : LU a v) (hr : RU a u) : ∀ k, k < a.n.toNat → v k = u k := by
  intro k hk
  have e1 : (sumN a.n.toNat fun i => sumN a.n.toNat fun j => v i * (u j * a.T i j k)) % a.p = v k := by
    have : (sumN a.n.toNat fun i => sumN a.n.toNat fun j => v i * (u j * a.T i j k)) % a.p = (sumN a.n.toNat fun i => v i * basV i k) % a.p := sumN_mod fun i hi => by
      rw [sumN_mul]
      have h1 := hr i k hi hk
      rw [times_r hi hk] at h1
      refine cg_mul rfl ?_
      rw [basV_mod hp, ← h1]
      unfold dot
      rw [sumN_ext (n := a.n.toNat) (f := fun j => u j * a.T i j k) (g := fun j => a.T i j k * u j) fun j _ => Int.mul_comm ..]
    rw [this, sumN_one (i := k) hk fun i h => by simp [basV, Ne.symm h]]
    simp only [basV, if_true, Int.mul_one]
    exact rw_mod hv k
  have e2 : (sumN a.n.toNat fun i => sumN a.n.toNat fun j => v i * (u j * a.T i j k)) % a.p = u k := by
    rw [sumN_comm]
    have : (sumN a.n.toNat fun j => sumN a.n.toNat fun i => v i * (u j * a.T i j k)) % a.p = (sumN a.n.toNat fun j => u j * basV j k) % a.p := sumN_mod fun j hj => by
      have h1 := hl j k hj hk
      rw [times_l hj hk] at h1
      rw [sumN_ext (n := a.n.toNat) (f := fun i => v i * (u j * a.T i j k)) (g := fun i => u j * (a.T i j k * v i)) fun i _ => by rw [Int.mul_comm (v i), Int.mul_assoc], sumN_mul]
      refine cg_mul rfl ?_
      rw [basV_mod hp, ← h1]; rfl
    rw [this, sumN_one (i := k) hk fun i h => by simp [basV, Ne.symm h]]
    simp only [basV, if_true, Int.mul_one]
    exact rw_mod hu k
  rw [← e1, e2]
theorem LU.ext {a : Alg} {u v : Nat → Int} (h : LU a u) (e : ∀ i, i < a.n.toNat → v i = u i) : LU a v := fun m k hm hk => by
  rw [times_l hm hk, ← h m k hm hk, times_l hm hk]
  unfold dot
  rw [sumN_ext fun i hi => by rw [e i hi]]
theorem RU.ext {a : Alg} {u v : Nat → Int} (h : RU a u) (e : ∀ i, i < a.n.toNat → v i = u i) : RU a v := fun m k hm hk => by
  rw [times_r hm hk, ← h m k hm hk, times_r hm hk]
  unfold dot
  rw [sumN_ext fun i hi => by rw [e i hi]]
theorem mem_findIn {a : Alg} {i : Nat} {r : Row} : ∀ {k}, r ∈ findIn a i k ↔ ∃ k', k' < k ∧ r = findR a i k'
  | 0 => ⟨(fun h => by cases h), (fun ⟨_, h, _⟩ => by omega)⟩
  | k + 1 => by
    unfold findIn
    rw [List.mem_append, mem_findIn, List.mem_singleton]
    constructor
    · rintro (⟨k', h, e⟩ | e)
      · exact ⟨k', by omega, e⟩
      · exact ⟨k, by omega, e⟩
    · rintro ⟨k', h, e⟩
      by_cases c : k' = k
      · subst c; exact .inr e
      · exact .inl ⟨k', by omega, e⟩
theorem mem_findOut {a : Alg} {r : Row} : ∀ {m}, r ∈ findOut a m ↔ ∃ i k, i < m ∧ k < a.n.toNat ∧ r = findR a i k
  | 0 => ⟨(fun h => by cases h), (fun ⟨_, _, h, _⟩ => by omega)⟩
  | m + 1 => by
    unfold findOut
    rw [List.mem_append, mem_findOut, mem_findIn]
    constructor
    · rintro (⟨i, k, h, h2, e⟩ | ⟨k, h, e⟩)
      · exact ⟨i, k, by omega, h2, e⟩
      · exact ⟨m, k, by omega, h, e⟩
    · rintro ⟨i, k, h, h2, e⟩
      by_cases c : i = m
      · subst c; exact .inr ⟨k, h2, e⟩
      · exact .inl ⟨i, k, by omega, h2, e⟩
theorem sol_find {a : Alg} (hp : 2 ≤ a.p) {v : Row} : Sol a.p a.n.toNat (findOut a a.n.toNat) v ↔ LU a v := by
  have key : ∀ i k, i < a.n.toNat → k < a.n.toNat → (dot a.n.toNat (findR a i k) v % a.p = findR a i k a.n.toNat % a.p ↔ timesV a v (basV i) k = basV i k) := fun i k hi hk => by
    rw [times_l hi hk]
    have e1 : dot a.n.toNat (findR a i k) v = dot a.n.toNat (fun j => a.T j i k) v := sumN_ext fun j hj => by unfold findR; rw [if_pos hj]
    have e2 : findR a i k a.n.toNat % a.p = basV i k := by
      unfold findR
      rw [if_neg (by omega), ← basV_mod hp i k]
      congr 1
      unfold basV
      by_cases c : i = k
      · rw [if_pos c, if_pos c.symm]
      · rw [if_neg c, if_neg (fun e => c e.symm)]
    rw [e1, e2]
  rw [sol_iff]
  constructor
  · intro h m k hm hk
    exact (key m k hm hk).1 (h _ (mem_findOut.2 ⟨m, k, hm, hk, rfl⟩))
  · intro h r hr
    obtain ⟨i, k, hi, hk, rfl⟩ := mem_findOut.1 hr
    exact (key i k hi hk).2 (h i k hi hk)
def iRows (a : Alg) : List Row := arr (2 * a.n.toNat * a.n.toNat) (fullR (uM a) uT a.n.toNat)
theorem iRows_rw {a : Alg} (ha : AlgOk a) : RwL a.p (iRows a) := by
  have hp2 := prime_bd ha.p
  exact fullR_rw (fun q i k => uM_rw (by omega) q i k) (fun q k => uT_rw hp2.1 q k)
theorem iFind_eq (a : Alg) : iFindF a = (iSolveF a.p a.n.toNat (iRows a)).map (vecR a.n.toNat) := rfl
theorem sol_ifind {a : Alg} (ha : AlgOk a) {v : Row} : Sol a.p a.n.toNat (iRows a) v ↔ LU a v ∧ RU a v := by
  have hp2 := prime_bd ha.p
  have hn := ha.n
  have key : ∀ q k, q < 2 * a.n.toNat → k < a.n.toNat → fullR (uM a) uT a.n.toNat (q * a.n.toNat + k) = fun i => if i < a.n.toNat then uM a q i k else uT q k := fun q k hq hk => by
    funext i
    unfold fullR
    have hdiv : (q * a.n.toNat + k) / a.n.toNat = q := by rw [Nat.mul_comm, Nat.mul_add_div (by omega), Nat.div_eq_of_lt hk, Nat.add_zero]
    have hmod : (q * a.n.toNat + k) % a.n.toNat = k := by rw [Nat.mul_comm, Nat.mul_add_mod, Nat.mod_eq_of_lt hk]
    rw [hdiv, hmod]
  have k0 : ∀ m k, m < a.n.toNat → k < a.n.toNat → (dot a.n.toNat (fullR (uM a) uT a.n.toNat (2 * m * a.n.toNat + k)) v % a.p = fullR (uM a) uT a.n.toNat (2 * m * a.n.toNat + k) a.n.toNat % a.p ↔ timesV a v (basV m) k = basV m k) := fun m k hm hk => by
    rw [key (2 * m) k (by omega) hk, times_l hm hk]
    dsimp only
    rw [if_neg (Nat.lt_irrefl _)]
    have e1 : dot a.n.toNat (fun i => if i < a.n.toNat then uM a (2 * m) i k else uT (2 * m) k) v = dot a.n.toNat (fun j => a.T j m k) v := sumN_ext fun j hj => by
      dsimp only
      rw [if_pos hj]
      unfold uM
      rw [if_pos (by omega), show 2 * m / 2 = m by omega, bas_times ha (by omega) (by omega)]
    rw [e1]
    unfold uT
    rw [show 2 * m / 2 = m by omega, basV_mod hp2.1]
  have k1 : ∀ m k, m < a.n.toNat → k < a.n.toNat → (dot a.n.toNat (fullR (uM a) uT a.n.toNat ((2 * m + 1) * a.n.toNat + k)) v % a.p = fullR (uM a) uT a.n.toNat ((2 * m + 1) * a.n.toNat + k) a.n.toNat % a.p ↔ timesV a (basV m) v k = basV m k) := fun m k hm hk => by
    rw [key (2 * m + 1) k (by omega) hk, times_r hm hk]
    dsimp only
    rw [if_neg (Nat.lt_irrefl _)]
    have e1 : dot a.n.toNat (fun i => if i < a.n.toNat then uM a (2 * m + 1) i k else uT (2 * m + 1) k) v = dot a.n.toNat (fun j => a.T m j k) v := sumN_ext fun j hj => by
      dsimp only
      rw [if_pos hj]
      unfold uM
      rw [if_neg (by omega), show (2 * m + 1) / 2 = m by omega, bas_times ha (by omega) (by omega)]
    rw [e1]
    unfold uT
    rw [show (2 * m + 1) / 2 = m by omega, basV_mod hp2.1]
  have mem : ∀ q k, q < 2 * a.n.toNat → k < a.n.toNat → fullR (uM a) uT a.n.toNat (q * a.n.toNat + k) ∈ iRows a := fun q k hq hk => by
    unfold iRows arr
    refine List.mem_map.2 ⟨q * a.n.toNat + k, ?_, rfl⟩
    rw [List.mem_range]
    have h1 : (q + 1) * a.n.toNat ≤ 2 * a.n.toNat * a.n.toNat := Nat.mul_le_mul_right _ (by omega)
    rw [Nat.add_mul, Nat.one_mul] at h1
    omega
  rw [sol_iff]
  constructor
  · intro h
    exact ⟨fun m k hm hk => (k0 m k hm hk).1 (h _ (mem (2 * m) k (by omega) hk)), fun m k hm hk => (k1 m k hm hk).1 (h _ (mem (2 * m + 1) k (by omega) hk))⟩
  · rintro ⟨h0, h1⟩ r hr
    unfold iRows arr at hr
    obtain ⟨y, hy, rfl⟩ := List.mem_map.1 hr
    rw [List.mem_range] at hy
    have hk : y % a.n.toNat < a.n.toNat := Nat.mod_lt _ (by omega)
    have hq : y / a.n.toNat < 2 * a.n.toNat := Nat.div_lt_of_lt_mul (by rw [Nat.mul_comm]; exact hy)
    have e : y = y / a.n.toNat * a.n.toNat + y % a.n.toNat := by rw [Nat.mul_comm]; exact (Nat.div_add_mod ..).symm
    generalize y / a.n.toNat = q at *
    generalize y % a.n.toNat = k at *
    subst e
    rcases Nat.mod_two_eq_zero_or_one q with c | c
    · obtain ⟨m, rfl⟩ : ∃ m, q = 2 * m := ⟨q / 2, by omega⟩
      exact (k0 m k (by omega) hk).2 (h0 m k (by omega) hk)
    · obtain ⟨m, rfl⟩ : ∃ m, q = 2 * m + 1 := ⟨q / 2, by omega⟩
      exact (k1 m k (by omega) hk).2 (h1 m k (by omega) hk)
theorem vecR_lt {n : Nat} {r : Row} {i : Nat} (h : i < n) : vecR n r i = r i := by unfold vecR; rw [if_pos h]
theorem iFind_two {a : Alg} (ha : AlgOk a) {u : Nat → Int} (h : iFindF a = some u) : LU a u ∧ RU a u ∧ Rw a.p u ∧ ∀ i, a.n.toNat ≤ i → u i = 0 := by
  have hp2 := prime_bd ha.p
  rw [iFind_eq] at h
  cases hs : iSolveF a.p a.n.toNat (iRows a) with
  | none => rw [hs] at h; cases h
  | some r =>
    rw [hs] at h
    simp only [Option.map_some, Option.some.injEq] at h
    subst h
    obtain ⟨h1, h2⟩ := (sol_ifind ha).1 (iSolve_some ha.p (iRows_rw ha) hs)
    exact ⟨h1.ext fun i hi => vecR_lt hi, h2.ext fun i hi => vecR_lt hi, vecR_rw (by omega) (iSolve_rw ha.p (iRows_rw ha) hs), fun i hi => by unfold vecR; rw [if_neg (by omega)]⟩
theorem iFind_of {a : Alg} (ha : AlgOk a) {u : Nat → Int} (h1 : LU a u) (h2 : RU a u) : (iFindF a).isSome = true := by
  have := iSolve_none ha.p (iRows_rw ha) ((sol_ifind ha).2 ⟨h1, h2⟩)
  rw [iFind_eq]
  cases hs : iSolveF a.p a.n.toNat (iRows a) with
  | none => rw [hs] at this; cases this
  | some r => rfl
theorem find_two {a : Alg} (ha : AlgOk a) {u : Nat → Int} (h : findF a = some u) : LU a u ∧ RU a u := by
  have hp2 := prime_bd ha.p
  have hn := ha.n
  unfold findF at h
  cases hs : sSolveF a.p a.n.toNat (findOut a a.n.toNat) with
  | none => rw [hs] at h; cases h
  | some r =>
    rw [hs] at h
    dsimp only at h
    split at h
    · rename_i hc
      simp only [Option.some.injEq] at h
      subst h
      have h1 := (sol_find hp2.1).1 (sSolve_some ha.p (m_findOut_rw ha _) hs)
      exact ⟨h1.ext fun i hi => vecR_lt hi, fun m k hm hk => hc m hm k (by omega)⟩
    · cases h
theorem find_of {a : Alg} (ha : AlgOk a) {u : Nat → Int} (h1 : LU a u) (h2 : RU a u) (hu : Rw a.p u) : ∃ s, findF a = some s ∧ (∀ i, i < a.n.toNat → s i = u i) ∧ ∀ i, a.n.toNat ≤ i → s i = 0 := by
  have hp2 := prime_bd ha.p
  have hn := ha.n
  have hne : findOut a a.n.toNat ≠ [] := fun e => by
    have : findR a 0 0 ∈ findOut a a.n.toNat := mem_findOut.2 ⟨0, 0, by omega, by omega, rfl⟩
    rw [e] at this; cases this
  obtain ⟨s, hs, he⟩ := sSolve_of ha.p (m_findOut_rw ha _) hne ((sol_find hp2.1).2 h1) hu fun v hv hsv => unit_eq hp2.1 hu hv ((sol_find hp2.1).1 hsv) h2
  refine ⟨vecR a.n.toNat s, ?_, fun i hi => by rw [vecR_lt hi]; exact he i hi, fun i hi => by unfold vecR; rw [if_neg (by omega)]⟩
  unfold findF
  rw [hs]
  dsimp only
  rw [if_pos]
  intro i hi k hk
  rcases Nat.lt_or_ge k a.n.toNat with c | c
  · exact (h2.ext (v := vecR a.n.toNat s) fun i hi => by rw [vecR_lt hi]; exact he i hi) i k hi c
  · rw [times_ge (by omega)]
    unfold basV; rw [if_neg (by omega)]
theorem unit_same {a : Alg} (ha : AlgOk a) : ((iFindF a).isSome = true ↔ (findF a).isSome = true) ∧ iUnit a = sUnit a := by
  unfold iUnit sUnit
  cases hi : iFindF a with
  | some u =>
    obtain ⟨h1, h2, h3, h4⟩ := iFind_two ha hi
    obtain ⟨s, hs, e1, e2⟩ := find_of ha h1 h2 h3
    rw [hs]
    refine ⟨⟨fun _ => rfl, fun _ => rfl⟩, funext fun i => ?_⟩
    show u i = s i
    rcases Nat.lt_or_ge i a.n.toNat with c | c
    · exact (e1 i c).symm
    · rw [h4 i c, e2 i c]
  | none =>
    cases hs : findF a with
    | none => exact ⟨Iff.rfl, rfl⟩
    | some s =>
      obtain ⟨h1, h2⟩ := find_two ha hs
      have := iFind_of ha h1 h2
      rw [hi] at this; cases this
end Go.X
namespace Go.X
open Go Go.RowKit
theorem VEq.rfl' {v : Nat → Int} : VEq v v := fun _ _ => rfl
theorem shape_iff {a : Alg} : ShapeP a ↔ a.p ∈ primes ∧ (1 ≤ a.n ∧ a.n ≤ 6) ∧ TabP a := by
  unfold ShapeP TabP
  constructor
  · rintro ⟨h1, h2, h3, h4⟩
    refine ⟨h1, h2, fun i j hi hj => ⟨fun k hk => ?_, fun hz k hk => ?_⟩, h3⟩
    · have := h4 i j hi hj k hk
      refine ⟨this.1, fun hn => this.2 ?_⟩
      split <;> omega
    · have := h4 i j hi hj k hk
      rw [if_pos hz] at this
      exact this.2 (by omega)
  · rintro ⟨h1, h2, h3, h4⟩
    refine ⟨h1, h2, h4, fun i j hi hj k hk => ?_⟩
    obtain ⟨g1, g2⟩ := h3 i j hi hj
    refine ⟨(g1 k hk).1, fun hn => ?_⟩
    by_cases c : a.n ≤ (i : Int) ∨ a.n ≤ (j : Int)
    · exact g2 c k hk
    · rw [if_neg c] at hn
      exact (g1 k hk).2 hn
theorem alg_iff {a : Alg} (h : AlgIn a) : IsAlgP a ↔ sAlgP a := by
  unfold IsAlgP sAlgP
  rw [shape_iff]
  constructor
  · rintro ⟨h1, h2, h3, h4, h5⟩
    exact ⟨⟨h1, h2, h3⟩, h4, (unit_same (h.ok h1 h2 h3)).1.1 h5⟩
  · rintro ⟨⟨h1, h2, h3⟩, h4, h5⟩
    exact ⟨h1, h2, h3, h4, (unit_same (h.ok h1 h2 h3)).1.2 h5⟩
theorem comm_iff {a : Alg} (ha : AlgOk a) : CommP a ↔ sCommP a := by
  have hn := ha.n
  constructor
  · intro h i hi j hj
    by_cases c : (i : Int) < a.n
    · exact h i j c hj
    · intro k hk
      rw [ha.z i j k (by omega), ha.z j i k (by omega)]
  · intro h i j hi hj
    exact h i (by omega) j hj
theorem frob_iff {a : Alg} (ha : AlgOk a) : FrobP a ↔ sFrobP a := by
  have hn := ha.n
  have := rank_eq (m := a.n.toNat) ha.p (tabL_rw ha a.n.toNat)
  unfold FrobP sFrobP
  omega
theorem algs_iff {x : Pr} (hi : PrIn x) : AlgsP x ↔ sAlgsP x := by
  unfold AlgsP sAlgsP
  rw [alg_iff hi.c, alg_iff hi.o]
  constructor
  · rintro ⟨h1, h2, h3, h4, h5, h6, h7⟩
    have okc := hi.c.alg ((alg_iff hi.c).2 h1)
    have oko := hi.o.alg ((alg_iff hi.o).2 h2)
    exact ⟨h1, h2, h3, (comm_iff okc).1 h4, (frob_iff okc).1 h5, (frob_iff oko).1 h6, h7⟩
  · rintro ⟨h1, h2, h3, h4, h5, h6, h7⟩
    have okc := hi.c.alg ((alg_iff hi.c).2 h1)
    have oko := hi.o.alg ((alg_iff hi.o).2 h2)
    exact ⟨h1, h2, h3, (comm_iff okc).2 h4, (frob_iff okc).2 h5, (frob_iff oko).2 h6, h7⟩
theorem zipN_ge {p : Int} (hp : 1 ≤ p) {z : Nat → Nat → Int} {v : Nat → Int} {n : Nat} : ∀ d, n + d ≤ 6 → (∀ i : Nat, i < 6 → n ≤ i → VEq (z i) Z) → VEq (zipN p z v (n + d)) (zipN p z v n)
  | 0, _, _ => VEq.rfl'
  | d + 1, hd, hz => fun k hk => by
    have ih := zipN_ge (v := v) hp d (by omega) hz k hk
    have h1 := hz (n + d) (by omega) (by omega) k hk
    have h2 := rw_mod (zipN_rw (z := z) (v := v) hp (n + d)) k
    show (zipN p z v (n + d) k + v (n + d) * z (n + d) k) % p = _
    rw [h1, show v (n + d) * Z k = 0 from Int.mul_zero _, Int.add_zero, h2, ih]
theorem zip6 {p : Int} (hp : 1 ≤ p) {z : Nat → Nat → Int} {v : Nat → Int} {n : Nat} (hn : n ≤ 6) (hz : ∀ i : Nat, i < 6 → n ≤ i → VEq (z i) Z) : VEq (zipN p z v 6) (zipN p z v n) := by
  have := zipN_ge (v := v) hp (6 - n) (by omega) hz
  rwa [show n + (6 - n) = 6 by omega] at this
theorem zip_zero {p : Int} {z : Nat → Nat → Int} {v : Nat → Int} : ∀ n, n ≤ 6 → VEq v Z → VEq (zipN p z v n) Z
  | 0, _, _ => VEq.rfl'
  | n + 1, hn, hv => fun k hk => by
    have ih := zip_zero (p := p) (z := z) n (by omega) hv k hk
    show (zipN p z v n k + v n * z n k) % p = 0
    rw [ih, hv n (by omega), show Z n * z n k = 0 from Int.zero_mul _]; simp [Z]
theorem times_zl {a : Alg} {v w : Nat → Int} (hn : a.n ≤ 6) (hv : VEq v Z) : VEq (timesV a v w) Z := fun k hk => by
  unfold timesV
  split
  · unfold tsum
    rw [sumN_zero fun i hi => sumN_zero fun j _ => by rw [hv i (by omega), show Z i * w j = 0 from Int.zero_mul _, Int.zero_mul]]
    simp [Z]
  · rfl
theorem times_zr {a : Alg} {v w : Nat → Int} (hn : a.n ≤ 6) (hw : VEq w Z) : VEq (timesV a v w) Z := fun k hk => by
  unfold timesV
  split
  · unfold tsum
    rw [sumN_zero fun i hi => sumN_zero fun j hj => by rw [hw j (by omega), show v i * Z j = 0 from Int.mul_zero _, Int.zero_mul]]
    simp [Z]
  · rfl
theorem VEq.trans' {u v w : Nat → Int} (h : VEq u v) (g : VEq v w) : VEq u w := fun i hi => (h i hi).trans (g i hi)
theorem VEq.symm' {u v : Nat → Int} (h : VEq u v) : VEq v u := fun i hi => (h i hi).symm
theorem pair_iff {x : Pr} (hi : PrIn x) : IsPairP x ↔ sIsP x := by
  unfold IsPairP sIsP
  rw [algs_iff hi]
  constructor
  · rintro ⟨h1, h2, h3⟩
    have okc := hi.c.alg ((alg_iff hi.c).2 h1.1)
    have oko := hi.o.alg ((alg_iff hi.o).2 h1.2.1)
    have hc := okc.n
    have ho := oko.n
    have hp2 := prime_bd oko.p
    have hz : ∀ i : Nat, i < 6 → x.c.n.toNat ≤ i → VEq (x.z i) Z := fun i h hle => (h2 i h).1.2 (by omega)
    have z6 : ∀ v, VEq (zipN x.o.p x.z v 6) (zipN x.o.p x.z v x.c.n.toNat) := fun v => zip6 (by omega) (by omega) hz
    refine ⟨h1, fun i h => (h2 i h).1, fun i h => ⟨fun j hj => (z6 _).symm'.trans' ((h2 i (by omega)).2.2 j (by omega)), (h2 i (by omega)).2.1⟩, ?_⟩
    rw [← (unit_same okc).2, ← (unit_same oko).2]
    exact (z6 _).symm'.trans' h3
  · rintro ⟨h1, h2, h3, h4⟩
    have okc := hi.c.alg ((alg_iff hi.c).2 h1.1)
    have oko := hi.o.alg ((alg_iff hi.o).2 h1.2.1)
    have hc := okc.n
    have ho := oko.n
    have hp2 := prime_bd oko.p
    have hz : ∀ i : Nat, i < 6 → x.c.n.toNat ≤ i → VEq (x.z i) Z := fun i h hle => (h2 i h).2 (by omega)
    have z6 : ∀ v, VEq (zipN x.o.p x.z v 6) (zipN x.o.p x.z v x.c.n.toNat) := fun v => zip6 (by omega) (by omega) hz
    refine ⟨h1, fun i h => ⟨h2 i h, fun j hj => ?_, fun j hj => ?_⟩, ?_⟩
    · by_cases c : (i : Int) < x.c.n
      · exact (h3 i c).2 j hj
      · have := hz i h (by omega)
        exact (times_zl (by omega) this).trans' (times_zr (by omega) this).symm'
    · by_cases c : (i : Int) < x.c.n
      · by_cases c2 : (j : Int) < x.c.n
        · exact (z6 _).trans' ((h3 i c).1 j c2)
        · exact (zip_zero 6 (by omega) (fun k _ => okc.z i j k (by omega))).trans' (times_zr (by omega) (hz j hj (by omega))).symm'
      · exact (zip_zero 6 (by omega) (fun k _ => okc.z i j k (by omega))).trans' (times_zl (by omega) (hz i h (by omega))).symm'
    · rw [(unit_same okc).2, (unit_same oko).2]
      exact (z6 _).trans' h4
theorem dot_split {m n : Nat} {r z : Row} : dot (m + n) r z = dot m r z + sumN n fun i => r (m + i) * z (m + i) := by
  unfold dot
  induction n with
  | zero => simp [sumN]
  | succ n ih =>
    rw [← Nat.add_assoc]
    simp only [sumN]
    rw [ih]; omega
def two (n : Nat) (u v : Row) : Row := fun i => if i < n then u i else v (i - n)
theorem dot_two {n : Nat} {r u v : Row} : dot (n + n) r (two n u v) = dot n r u + dot n (fun i => r (n + i)) v := by
  rw [dot_split]
  congr 1
  · exact sumN_ext fun i hi => by unfold two; rw [if_pos hi]
  · refine sumN_ext fun i hi => ?_
    unfold two; rw [if_neg (by omega), show n + i - n = i by omega]
theorem aug_dot {a : Alg} {i : Nat} (hi : i < a.n.toNat) {u v : Row} : dot (a.n.toNat + a.n.toNat) (augR a i) (two a.n.toNat u v) = dot a.n.toNat (tabR a i) u + v i := by
  rw [dot_two]
  congr 1
  · exact sumN_ext fun j hj => by unfold augR; rw [if_pos hj]
  · unfold dot
    rw [sumN_one' (i := i) hi fun k hk hne => ?_]
    · have : augR a i (a.n.toNat + i) = 1 := by
        unfold augR
        rw [if_neg (by omega), show a.n.toNat + i - a.n.toNat = i by omega, if_pos rfl]
      show augR a i (a.n.toNat + i) * v i = v i
      rw [this, Int.one_mul]
    · have : augR a i (a.n.toNat + k) = 0 := by
        unfold augR
        rw [if_neg (by omega), show a.n.toNat + k - a.n.toNat = k by omega, if_neg hne]
      show augR a i (a.n.toNat + k) * v k = 0
      rw [this, Int.zero_mul]
theorem ker_aug {a : Alg} {u v : Row} : Ker a.p (a.n.toNat + a.n.toNat) (augL a) (two a.n.toNat u v) ↔ ∀ i, i < a.n.toNat → (dot a.n.toNat (tabR a i) u + v i) % a.p = 0 := by
  unfold Ker augL arr
  constructor
  · intro h i hi
    rw [← aug_dot hi]
    exact h _ (List.mem_map.2 ⟨i, by simpa using hi, rfl⟩)
  · intro h r hr
    obtain ⟨i, hi, rfl⟩ := List.mem_map.1 hr
    rw [aug_dot (by simpa using hi)]
    exact h i (by simpa using hi)
theorem ker_tab {a : Alg} {u : Row} : Ker a.p a.n.toNat (tabL a a.n.toNat) u ↔ ∀ i, i < a.n.toNat → dot a.n.toNat (tabR a i) u % a.p = 0 := by
  unfold Ker tabL arr
  constructor
  · intro h i hi
    exact h _ (List.mem_map.2 ⟨i, by simpa using hi, rfl⟩)
  · intro h r hr
    obtain ⟨i, hi, rfl⟩ := List.mem_map.1 hr
    exact h i (by simpa using hi)
theorem cop_rr {a : Alg} (ha : AlgOk a) (hf : sFrobP a) : (redF a.p (a.n.toNat + a.n.toNat) (augL a)).length = a.n.toNat ∧ ∀ ld, RR a.p (a.n.toNat + a.n.toNat) (redF a.p (a.n.toNat + a.n.toNat) (augL a)) ld → ∀ i, i < a.n.toNat → ld i = i := by
  have hp2 := prime_bd ha.p
  have hn := ha.n
  have hle : (redF a.p (a.n.toNat + a.n.toNat) (augL a)).length ≤ a.n.toNat := by
    have := (redN_inv (p := a.p) (rows := augL a) (by omega) (augL_rw ha) (a.n.toNat + a.n.toNat)).2.2
    have e : (augL a).length = a.n.toNat := arr_len ..
    unfold redF; omega
  have hkz := kerZ_ech (m := a.n.toNat) ha.p (tabL_rw ha a.n.toNat) (by unfold sFrobP at hf; omega)
  have key : ∀ ld, RR a.p (a.n.toNat + a.n.toNat) (redF a.p (a.n.toNat + a.n.toNat) (augL a)) ld → ∀ c, c < a.n.toNat → ∃ i, i < (redF a.p (a.n.toNat + a.n.toNat) (augL a)).length ∧ ld i = c := by
    intro ld rr c hc
    apply Classical.byContradiction
    intro hno
    have hne : ∀ i, i < (redF a.p (a.n.toNat + a.n.toNat) (augL a)).length → ld i ≠ c := fun i hi e => hno ⟨i, hi, e⟩
    have hk := (redF_ker ha.p (augL_rw ha)).1 (kv_ker rr (by omega) hne)
    have hz : ∀ j, a.n.toNat ≤ j → j < a.n.toNat + a.n.toNat → kv a.p (redF a.p (a.n.toNat + a.n.toNat) (augL a)) ld c j = 0 := fun j hj hj2 => by
      by_cases e : ∃ i, i < (redF a.p (a.n.toNat + a.n.toNat) (augL a)).length ∧ ld i = j
      · obtain ⟨i, hi, rfl⟩ := e
        rw [kv_ld rr hi (hne i hi), (rr.lead i hi).2.2 c (by omega)]; simp
      · exact kv_no (by omega) (fun i hi e' => e ⟨i, hi, e'⟩)
    have hkt : Ker a.p a.n.toNat (tabL a a.n.toNat) (kv a.p (redF a.p (a.n.toNat + a.n.toNat) (augL a)) ld c) := ker_tab.2 fun i hi => by
      have h1 := hk (augR a i) (by unfold augL arr; exact List.mem_map.2 ⟨i, by simpa using hi, rfl⟩)
      rw [dot_split, sumN_zero fun k hk => by rw [hz _ (by omega) (by omega), Int.mul_zero], Int.add_zero] at h1
      rw [← h1]
      congr 1
      exact sumN_ext fun j hj => by unfold augR; rw [if_pos hj]
    have := hkz _ (kv_rw hp2.1) hkt c hc
    rw [kv_c] at this; omega
  have fin : ∀ ld, RR a.p (a.n.toNat + a.n.toNat) (redF a.p (a.n.toNat + a.n.toNat) (augL a)) ld → (redF a.p (a.n.toNat + a.n.toNat) (augL a)).length = a.n.toNat ∧ ∀ i, i < a.n.toNat → ld i = i := by
    intro ld rr
    have kk := key ld rr
    have hge : ∀ c, c < a.n.toNat → ∃ i, i < (redF a.p (a.n.toNat + a.n.toNat) (augL a)).length ∧ ld i = c ∧ c ≤ i := by
      intro c
      induction c with
      | zero => intro hc; obtain ⟨i, hi, e⟩ := kk 0 hc; exact ⟨i, hi, e, by omega⟩
      | succ c ih =>
        intro hc
        obtain ⟨i, hi, e, hle⟩ := ih (by omega)
        obtain ⟨i', hi', e'⟩ := kk (c + 1) hc
        refine ⟨i', hi', e', ?_⟩
        rcases Nat.lt_trichotomy i i' with t | t | t
        · omega
        · subst t; omega
        · have := rr.sort i' i t hi; omega
    have hlen : (redF a.p (a.n.toNat + a.n.toNat) (augL a)).length = a.n.toNat := by
      obtain ⟨i, hi, _, hle⟩ := hge (a.n.toNat - 1) (by omega); omega
    refine ⟨hlen, fun i hi => ?_⟩
    obtain ⟨i', hi', e', hle'⟩ := hge i hi
    have h1 := rr.ld_ge i (by omega)
    rcases Nat.lt_trichotomy i i' with t | t | t
    · have := rr.sort i i' t hi'; omega
    · subst t; exact e'
    · omega
  obtain ⟨ld, rr⟩ := redF_rr (m := a.n.toNat + a.n.toNat) ha.p (augL_rw ha)
  exact ⟨(fin ld rr).1, fun ld rr => (fin ld rr).2⟩
def copB (a : Alg) (k j : Nat) : Int := (redF a.p (a.n.toNat + a.n.toNat) (augL a)).getD k Z (a.n.toNat + j)
theorem cop_dot {a : Alg} (ha : AlgOk a) (hf : sFrobP a) {k : Nat} (hk : k < a.n.toNat) {u v : Row} : dot (a.n.toNat + a.n.toNat) ((redF a.p (a.n.toNat + a.n.toNat) (augL a)).getD k Z) (two a.n.toNat u v) = u k + dot a.n.toNat (copB a k) v := by
  obtain ⟨hl, hld⟩ := cop_rr ha hf
  obtain ⟨ld, rr⟩ := redF_rr (m := a.n.toNat + a.n.toNat) ha.p (augL_rw ha)
  have hld := hld ld rr
  rw [dot_two]
  congr 1
  unfold dot
  rw [sumN_one' (i := k) hk fun i hi hne => ?_]
  · have := (rr.lead k (by omega)).2.1
    rw [hld k hk] at this
    rw [this, Int.one_mul]
  · have := rr.zero i k (by omega) (by omega) hne
    rw [hld i hi] at this
    rw [this, Int.zero_mul]
def neg1 (j : Nat) : Row := fun i => if i = j then -1 else 0
theorem dot_neg1 {n : Nat} {r : Row} {j : Nat} (hj : j < n) : dot n r (neg1 j) = -(r j) := by
  unfold dot
  rw [sumN_one' (i := j) hj fun k _ hne => by unfold neg1; rw [if_neg hne, Int.mul_zero]]
  unfold neg1; rw [if_pos rfl]; omega
theorem sAug_rw {a : Alg} (ha : AlgOk a) (j : Nat) : RwL a.p (arr a.n.toNat (sAug a j)) := fun r hr => by
  have hp2 := prime_bd ha.p
  simp only [arr, List.mem_map] at hr
  obtain ⟨i', _, rfl⟩ := hr
  intro q
  unfold sAug
  split
  · exact tabR_rw ha i' q
  · split <;> omega
theorem sol_col {a : Alg} {j : Nat} {v : Row} : Sol a.p a.n.toNat (arr a.n.toNat (sAug a j)) v ↔ ∀ i, i < a.n.toNat → (dot a.n.toNat (tabR a i) v + neg1 j i) % a.p = 0 := by
  have key : ∀ i, (dot a.n.toNat (sAug a j i) v % a.p = sAug a j i a.n.toNat % a.p ↔ (dot a.n.toNat (tabR a i) v + neg1 j i) % a.p = 0) := fun i => by
    have e1 : dot a.n.toNat (sAug a j i) v = dot a.n.toNat (tabR a i) v := sumN_ext fun q hq => by unfold sAug; rw [if_pos hq]
    have e2 : sAug a j i a.n.toNat = -(neg1 j i) := by
      unfold sAug neg1
      rw [if_neg (Nat.lt_irrefl _)]
      split <;> rfl
    rw [e1, e2, Int.emod_eq_emod_iff_emod_sub_eq_zero, Int.sub_neg]
  rw [sol_iff]
  constructor
  · intro h i hi
    exact (key i).1 (h _ (by unfold arr; exact List.mem_map.2 ⟨i, by simpa using hi, rfl⟩))
  · intro h r hr
    unfold arr at hr
    obtain ⟨i, hi, rfl⟩ := List.mem_map.1 hr
    exact (key i).2 (h i (by simpa using hi))
theorem copB_rw {a : Alg} (ha : AlgOk a) (k : Nat) : Rw a.p (copB a k) := fun j => by
  have hp2 := prime_bd ha.p
  obtain ⟨ld, rr⟩ := redF_rr (m := a.n.toNat + a.n.toNat) ha.p (augL_rw ha)
  exact rr.rw.get (by omega) k _
theorem col_eq {a : Alg} (ha : AlgOk a) (hf : sFrobP a) {j : Nat} (hj : j < a.n.toNat) : ∃ s, sCol a j = some s ∧ ∀ i, i < a.n.toNat → s i = copB a i j := by
  have hp2 := prime_bd ha.p
  have hn := ha.n
  obtain ⟨hl, _⟩ := cop_rr ha hf
  have hkz := kerZ_ech (m := a.n.toNat) ha.p (tabL_rw ha a.n.toNat) (by unfold sFrobP at hf; omega)
  have h1 : Sol a.p a.n.toNat (arr a.n.toNat (sAug a j)) (fun i => copB a i j) := sol_col.2 <| ker_aug.1 <| (redF_ker ha.p (augL_rw ha)).1 fun r hr => by
    obtain ⟨k, hk, rfl⟩ := mem_getD hr
    rw [cop_dot ha hf (by omega), dot_neg1 hj, Int.add_right_neg]; simp
  have hne : arr a.n.toNat (sAug a j) ≠ [] := fun e => by
    have := congrArg List.length e
    rw [arr_len] at this
    simp at this; omega
  refine sSolve_of ha.p (sAug_rw ha j) hne h1 (fun i => copB_rw ha i j) fun v hv hs i hi => ?_
  have h2 := sol_col.1 hs
  have h3 := sol_col.1 h1
  have hk : Ker a.p a.n.toNat (tabL a a.n.toNat) (fun i => (v i - copB a i j) % a.p) := ker_tab.2 fun i hi => by
    have e : dot a.n.toNat (tabR a i) (fun i => (v i - copB a i j) % a.p) % a.p = dot a.n.toNat (tabR a i) (fun i => v i - copB a i j) % a.p := dot_mod fun i _ => cg_mod _ _
    rw [e, dot_sub]
    have e0 : (0 : Int) % a.p = 0 := by simp
    have h2' : (dot a.n.toNat (tabR a i) v + neg1 j i) % a.p = 0 % a.p := by rw [h2 i hi, e0]
    have h3' : (dot a.n.toNat (tabR a i) (fun i => copB a i j) + neg1 j i) % a.p = 0 % a.p := by rw [h3 i hi, e0]
    have := cg_sub h2' h3'
    rw [show dot a.n.toNat (tabR a i) v - dot a.n.toNat (tabR a i) (fun i => copB a i j) = dot a.n.toNat (tabR a i) v + neg1 j i - (dot a.n.toNat (tabR a i) (fun i => copB a i j) + neg1 j i) by omega, this]
    simp
  have h4 := hkz _ (fun i => mod_bd _ (by omega)) hk i hi
  have h5 := (Int.emod_eq_emod_iff_emod_sub_eq_zero (m := v i) (n := a.p) (k := copB a i j)).2 h4
  rw [rw_mod hv, rw_mod (copB_rw ha i)] at h5
  exact h5
theorem sCol_some {a : Alg} (ha : AlgOk a) (hf : sFrobP a) : ∀ j, j < a.n.toNat → (sCol a j).isSome = true := fun j hj => by
  obtain ⟨s, hs, _⟩ := col_eq ha hf hj
  rw [hs]; rfl
theorem iCop_len2 {a : Alg} (ha : AlgOk a) (hf : sFrobP a) : (iCop a).length = a.n.toNat := by
  unfold iCop
  rw [List.length_map]
  exact (cop_rr ha hf).1
theorem cop_same {a : Alg} (ha : AlgOk a) (hf : sFrobP a) {k l : Nat} (hk : k < a.n.toNat) (hl : l < a.n.toNat) : (iCop a).getD k Z l = sCop a k l := by
  obtain ⟨s, hs, he⟩ := col_eq ha hf hl
  have hlen := (cop_rr ha hf).1
  unfold sCop
  rw [hs]
  show _ = s k
  rw [he k hk]
  unfold iCop
  rw [getD_map (by omega)]; rfl
theorem pairC_ext {p : Int} {B C : Nat → Row} {of : Nat → Nat → Nat → Int} {k : Nat} : ∀ {acc : Nat → Int} (l : Nat), (∀ j, j < l → B k j = C k j) → pairC p B of acc k l = pairC p C of acc k l
  | _, 0, _ => rfl
  | acc, l + 1, h => by
    unfold pairC
    rw [pairC_ext l (fun j hj => h j (by omega)), h l (by omega)]
theorem pairR_ext {p : Int} {B C : Nat → Row} {of : Nat → Nat → Nat → Int} {n : Nat} : ∀ k, (∀ i j, i < k → j < n → B i j = C i j) → pairR p B of n k = pairR p C of n k
  | 0, _ => rfl
  | k + 1, h => by
    unfold pairR
    rw [pairR_ext k (fun i j hi hj => h i j (by omega) hj), pairC_ext n (fun j hj => h k j (by omega) hj)]
theorem sand_same {x : Pr} {w : Nat → Int} (ho : AlgOk x.o) (hf : sFrobP x.o) : iSand x w = sSand x w := by
  unfold iSand sSand
  rw [iCop_len2 ho hf]
  exact pairR_ext _ fun i j hi hj => cop_same ho hf hi hj
end Go.X
namespace Go.X
open Go Go.RowKit
theorem args2 {a b : Ty} {l : List D} (h : argsHave [a, b] l) : ∃ x y, l = [x, y] ∧ a.arg x ∧ b.arg y := by
  match l, h with
  | [x, y], h => exact ⟨x, y, rfl, h.1, h.2.1⟩
def AllU8 (c : Nat) (e : Ty) : Prop := ∀ ys, e.Has ys → ∃ f : Nat → Int, ys = cel .u8 c f ∧ Byts f
theorem allU8_int : AllU8 1 (.int .u8) := fun ys h => by
  obtain ⟨n, rfl, hw⟩ := h
  have := bounds_u8 hw
  exact ⟨fun _ => n, rfl, fun _ => this⟩
theorem cel_append {k : IntKind} {a b : Nat} {f g : Nat → Int} : cel k a f ++ cel k b g = cel k (a + b) fun i => if i < a then f i else g (i - a) := by
  refine arr_of (by simp [cel_len]) fun i hi => ?_
  rcases Nat.lt_or_ge i a with h | h
  · rw [List.getElem?_append_left (by rw [cel_len]; exact h), cel_get h]; simp [h]
  · rw [List.getElem?_append_right (by rw [cel_len]; exact h), cel_len, cel_get (by omega)]; simp [show ¬ i < a by omega]
theorem flat_u8 {c : Nat} : ∀ {yss : List (List D)}, (∀ ys ∈ yss, ∃ f : Nat → Int, ys = cel .u8 c f ∧ Byts f) → ∃ f : Nat → Int, yss.flatten = cel .u8 (yss.length * c) f ∧ Byts f
  | [], _ => ⟨fun _ => 0, by simp [cel, arr], fun _ => by show (0:Int) ≤ 0 ∧ (0:Int) ≤ 255; omega⟩
  | y :: r, h => by
    obtain ⟨f, rfl, hf⟩ := h y (List.mem_cons_self ..)
    obtain ⟨g, h2, hg⟩ := flat_u8 fun ys hy => h ys (List.mem_cons_of_mem _ hy)
    refine ⟨fun i => if i < c then f i else g (i - c), ?_, fun i => ?_⟩
    · rw [List.flatten_cons, h2, cel_append, List.length_cons, Nat.succ_mul, Nat.add_comm]
    · dsimp only; split
      · exact hf _
      · exact hg _
theorem allU8_arr {c n : Nat} {e : Ty} (h : AllU8 c e) : AllU8 (n * c) (.arr n e) := fun ys hy => by
  obtain ⟨yss, rfl, rfl, hy⟩ := hy
  exact flat_u8 fun ys hm => h ys (hy ys hm)
def tyVec : Ty := .arr 6 (.int .u8)
def tyTab : Ty := .arr 6 (.arr 6 (.arr 6 (.int .u8)))
def tyMat : Ty := .arr 6 (.arr 6 (.int .u8))
def tyAlg : Ty := .st [.int .i64, .int .i64, tyTab, tyVec]
def tyPair : Ty := .st [tyAlg, tyAlg, tyMat]
theorem arg_vec {d : D} (h : tyVec.arg d) : ∃ v, d = vecD v ∧ Byts v := by
  obtain ⟨xs, rfl, h⟩ := h
  obtain ⟨f, rfl, hf⟩ := allU8_arr allU8_int _ h
  exact ⟨f, rfl, hf⟩
def I64 (x : Int) : Prop := -9223372036854775808 ≤ x ∧ x ≤ 9223372036854775807
theorem arg_i64 {d : D} (h : (Ty.int .i64).arg d) : ∃ n, d = .int .i64 n ∧ I64 n := by
  obtain ⟨n, h, hw⟩ := h
  simp only [List.cons.injEq, and_true] at h
  exact ⟨n, h, bounds_i64 hw⟩
theorem has_alg {xs : List D} (h : tyAlg.Has xs) : ∃ a : Alg, xs = algL a ∧ AlgIn a ∧ I64 a.p ∧ I64 a.n := by
  obtain ⟨_, _, rfl, ⟨p, rfl, hp⟩, _, _, rfl, ⟨n, rfl, hn⟩, _, _, rfl, hT, _, _, rfl, hF, rfl⟩ := h
  obtain ⟨T, rfl, bT⟩ := allU8_arr (n := 6) (allU8_arr (n := 6) (allU8_arr (n := 6) allU8_int)) _ hT
  obtain ⟨F, rfl, bF⟩ := allU8_arr (n := 6) allU8_int _ hF
  let a : Alg := ⟨p, n, fun i j k => if i < 6 ∧ j < 6 ∧ k < 6 then T (i * 36 + j * 6 + k) else 0, fun i => if i < 6 then F i else 0⟩
  have aT : ∀ i j k, i < 6 → j < 6 → k < 6 → a.T i j k = T (i * 36 + j * 6 + k) := fun i j k hi hj hk => if_pos ⟨hi, hj, hk⟩
  have aF : ∀ i, i < 6 → a.f i = F i := fun i hi => if_pos hi
  have bB : AlgB a := by
    refine ⟨fun i j k => ?_, fun i => ?_⟩
    · show 0 ≤ (if _ then _ else (0 : Int)) ∧ (if _ then _ else (0 : Int)) ≤ 255
      split
      · exact bT _
      · omega
    · show 0 ≤ (if _ then _ else (0 : Int)) ∧ (if _ then _ else (0 : Int)) ≤ 255
      split
      · exact bF _
      · omega
  refine ⟨a, ?_, ⟨bB, fun hp hn hT => ?_⟩, bounds_i64 hp, bounds_i64 hn⟩
  · refine arr_of (by simp [cel_len]) fun q hq => ?_
    unfold algF
    by_cases c0 : q = 0
    · subst c0; rfl
    by_cases c1 : q = 1
    · subst c1; rfl
    rw [if_neg c0, if_neg c1]
    rw [List.getElem?_append_right (by simp; omega), List.getElem?_append_right (by simp; omega)]
    simp only [List.length_cons, List.length_nil]
    by_cases c2 : q < 218
    · rw [List.getElem?_append_left (by rw [cel_len]; omega), cel_get (by omega), if_pos c2]
      have e : a.T ((q - 2) / 36) ((q - 2) / 6 % 6) ((q - 2) % 6) = T (q - 2) := by
        rw [aT _ _ _ (by omega) (by omega) (by omega)]; congr 1; omega
      rw [e, Nat.sub_sub]
    · rw [List.getElem?_append_right (by rw [cel_len]; omega), List.append_nil, cel_len, cel_get (by omega), if_neg c2]
      rw [aF _ (by omega)]; congr 3
  · have hp2 := prime_bd hp
    refine ⟨hp, hn, fun i j k => ⟨(bB.1 i j k).1, ?_⟩, fun i => ⟨(bB.2 i).1, ?_⟩, fun i j k h => ?_, fun i h => ?_⟩
    · by_cases c : i < 6 ∧ j < 6 ∧ k < 6
      · exact ((hT.1 i j c.1 c.2.1).1 k c.2.2).1
      · show (if i < 6 ∧ j < 6 ∧ k < 6 then _ else (0 : Int)) < _
        rw [if_neg c]; omega
    · by_cases c : i < 6
      · exact (hT.2 i c).1
      · show (if i < 6 then _ else (0 : Int)) < _
        rw [if_neg c]; omega
    · by_cases c : i < 6 ∧ j < 6 ∧ k < 6
      · rcases h with h | h | h
        · exact (hT.1 i j c.1 c.2.1).2 (.inl h) k c.2.2
        · exact (hT.1 i j c.1 c.2.1).2 (.inr h) k c.2.2
        · exact ((hT.1 i j c.1 c.2.1).1 k c.2.2).2 h
      · show (if i < 6 ∧ j < 6 ∧ k < 6 then _ else (0 : Int)) = 0
        rw [if_neg c]
    · by_cases c : i < 6
      · exact (hT.2 i c).2 h
      · show (if i < 6 then _ else (0 : Int)) = 0
        rw [if_neg c]
theorem AlgIn.s {a : Alg} (h : AlgIn a) : SAlgIn a := ⟨h.b, fun hs => by
  obtain ⟨h1, h2, h3⟩ := shape_iff.1 hs
  exact h.ok h1 h2 h3⟩
theorem PrIn.s {x : Pr} (h : PrIn x) : SPrIn x := ⟨h.c.s, h.o.s, h.z⟩
theorem arg_pair {d : D} (h : tyPair.arg d) : ∃ x : Pr, d = pairD x ∧ PrIn x ∧ I64 x.c.p ∧ I64 x.c.n ∧ I64 x.o.p ∧ I64 x.o.n := by
  obtain ⟨xs, rfl, h⟩ := h
  obtain ⟨_, _, rfl, hc, _, _, rfl, ho, _, _, rfl, hz, rfl⟩ := h
  obtain ⟨c, rfl, gc⟩ := has_alg hc
  obtain ⟨o, rfl, go⟩ := has_alg ho
  obtain ⟨z, rfl, bz⟩ := allU8_arr (n := 6) (allU8_arr (n := 6) allU8_int) _ hz
  refine ⟨⟨c, o, fun i k => if i < 6 ∧ k < 6 then z (i * 6 + k) else 0⟩, ?_, ⟨gc.1, go.1, fun i k => ?_⟩, gc.2.1, gc.2.2, go.2.1, go.2.2⟩
  · refine congrArg D.agg (arr_of (by rw [List.length_append, List.length_append, List.length_append, cel_len, algL, algL, arr_len, arr_len]; rfl) fun q hq => ?_)
    unfold pairF
    have l : ∀ a : Alg, (algL a).length = 224 := fun a => arr_len ..
    by_cases c0 : q < 224
    · rw [List.getElem?_append_left (by rw [l]; exact c0), if_pos c0]
      exact arr_get c0
    rw [if_neg c0, List.getElem?_append_right (by rw [l]; omega), l]
    by_cases c1 : q < 448
    · rw [List.getElem?_append_left (by rw [l]; omega), if_pos c1]
      exact arr_get (by omega)
    rw [if_neg c1, List.getElem?_append_right (by rw [l]; omega), l, List.append_nil, cel_get (by omega)]
    have e : (if (q - 448) / 6 < 6 ∧ (q - 448) % 6 < 6 then z ((q - 448) / 6 * 6 + (q - 448) % 6) else 0) = z (q - 448) := by
      rw [if_pos (by omega), show (q - 448) / 6 * 6 + (q - 448) % 6 = q - 448 by omega]
    have e2 : q - 224 - 224 = q - 448 := by omega
    dsimp only
    rw [e, e2]
  · show 0 ≤ (if _ then _ else (0 : Int)) ∧ (if _ then _ else (0 : Int)) ≤ 255
    split
    · exact bz _
    · omega
end Go.X
namespace Go.X
open Go Go.RowKit
theorem col_ok {a : Alg} (ha : AlgOk a) (hf : sFrobP a) {j : Nat} (hj : j < a.n.toNat) : ∀ i, i < a.n.toNat → (dot a.n.toNat (tabR a i) (fun q => copB a q j) + neg1 j i) % a.p = 0 := by
  have hn := ha.n
  obtain ⟨hl, _⟩ := cop_rr ha hf
  exact ker_aug.1 <| (redF_ker ha.p (augL_rw ha)).1 fun r hr => by
    obtain ⟨k, hk, rfl⟩ := mem_getD hr
    rw [cop_dot ha hf (by omega), dot_neg1 hj, Int.add_right_neg]; simp
theorem dot_bas {n m : Nat} {r : Row} (hm : m < n) : dot n r (basV m) = r m := by
  unfold dot
  rw [sumN_one' (i := m) hm fun k _ hne => by unfold basV; rw [if_neg hne, Int.mul_zero]]
  unfold basV; rw [if_pos rfl]; omega
theorem dot_neg {n : Nat} {r v : Row} : dot n r (fun i => -(v i)) = -(dot n r v) := by
  unfold dot
  induction n with
  | zero => rfl
  | succ n ih => simp only [sumN]; rw [ih, Int.mul_neg]; omega
theorem cop_left {a : Alg} (ha : AlgOk a) (hf : sFrobP a) {k m : Nat} (hk : k < a.n.toNat) (hm : m < a.n.toNat) : (basV m k - dot a.n.toNat (copB a k) (fun i => tabR a i m)) % a.p = 0 := by
  obtain ⟨hl, _⟩ := cop_rr ha hf
  have h1 : Ker a.p (a.n.toNat + a.n.toNat) (augL a) (two a.n.toNat (basV m) (fun i => -(tabR a i m))) := ker_aug.2 fun i hi => by
    rw [dot_bas hm, Int.add_right_neg]; simp
  have h2 := (redF_ker ha.p (augL_rw ha)).2 h1 _ (show (redF a.p (a.n.toNat + a.n.toNat) (augL a)).getD k Z ∈ _ by
    rw [List.getD_eq_getElem?_getD, List.getElem?_eq_getElem (by omega)]; exact List.getElem_mem _)
  rw [cop_dot ha hf hk, dot_neg] at h2
  rw [← h2]; congr 1
theorem tab_sym {a : Alg} (hc : sCommP a) {i j : Nat} (hi : i < 6) (hj : j < 6) : tabR a i j = tabR a j i := by
  have key : ∀ i j : Nat, i < 6 → j < i → tabR a i j = tabR a j i := fun i j hi hj => by
    unfold tabR formV fsum
    congr 1
    exact sumN_ext fun k hk => by rw [hc i hi j hj k hk]
  rcases Nat.lt_trichotomy i j with h | h | h
  · exact (key j i hj h).symm
  · rw [h]
  · exact key i j hi h
theorem dot_comm {n : Nat} {r v : Row} : dot n r v = dot n v r := sumN_ext fun i _ => Int.mul_comm ..
theorem cop_sym {a : Alg} (ha : AlgOk a) (hf : sFrobP a) (hc : sCommP a) {k i : Nat} (hk : k < a.n.toNat) (hi : i < a.n.toNat) : copB a k i = copB a i k := by
  have hp2 := prime_bd ha.p
  have hn := ha.n
  have hkz := kerZ_ech (m := a.n.toNat) ha.p (tabL_rw ha a.n.toNat) (by unfold sFrobP at hf; omega)
  have h1 := col_ok ha hf hk
  have h2 : ∀ q, q < a.n.toNat → (dot a.n.toNat (tabR a q) (copB a k) + neg1 k q) % a.p = 0 := fun q hq => by
    have h3 := cop_left ha hf hk hq
    have e : dot a.n.toNat (tabR a q) (copB a k) = dot a.n.toNat (copB a k) (fun i => tabR a i q) := by
      rw [dot_comm]
      exact sumN_ext fun j hj => by rw [tab_sym hc (i := q) (j := j) (by omega) (by omega)]
    have e2 : neg1 k q = -(basV q k) := by
      unfold neg1 basV
      by_cases c : q = k
      · rw [if_pos c, if_pos c.symm]
      · rw [if_neg c, if_neg (fun h => c h.symm)]; rfl
    rw [e, e2]
    have h4 : (-(basV q k - dot a.n.toNat (copB a k) (fun i => tabR a i q))) % a.p = 0 := by
      have := Int.dvd_of_emod_eq_zero h3
      exact Int.emod_eq_zero_of_dvd (Int.dvd_neg.2 this)
    rw [← h4]; congr 1; omega
  have hz : Ker a.p a.n.toNat (tabL a a.n.toNat) (fun i => (copB a k i - copB a i k) % a.p) := ker_tab.2 fun q hq => by
    have e : dot a.n.toNat (tabR a q) (fun i => (copB a k i - copB a i k) % a.p) % a.p = dot a.n.toNat (tabR a q) (fun i => copB a k i - copB a i k) % a.p := dot_mod fun i _ => cg_mod _ _
    rw [e, dot_sub]
    have e0 : (0 : Int) % a.p = 0 := by simp
    have h2' : (dot a.n.toNat (tabR a q) (copB a k) + neg1 k q) % a.p = 0 % a.p := by rw [h2 q hq, e0]
    have h1' : (dot a.n.toNat (tabR a q) (fun q => copB a q k) + neg1 k q) % a.p = 0 % a.p := by rw [h1 q hq, e0]
    have := cg_sub h2' h1'
    rw [show dot a.n.toNat (tabR a q) (copB a k) - dot a.n.toNat (tabR a q) (fun i => copB a i k) = dot a.n.toNat (tabR a q) (copB a k) + neg1 k q - (dot a.n.toNat (tabR a q) (fun i => copB a i k) + neg1 k q) by omega, this]
    simp
  have h4 := hkz _ (fun i => mod_bd _ (by omega)) hz i hi
  have h5 := (Int.emod_eq_emod_iff_emod_sub_eq_zero (m := copB a k i) (n := a.p) (k := copB a i k)).2 h4
  have r1 := rw_mod (copB_rw ha k) i
  have r2 := rw_mod (copB_rw ha i) k
  rw [r1, r2] at h5
  exact h5
theorem sCop_eq {a : Alg} (ha : AlgOk a) (hf : sFrobP a) {k l : Nat} (hk : k < a.n.toNat) (hl : l < a.n.toNat) : sCop a k l = copB a k l := by
  obtain ⟨s, hs, he⟩ := col_eq ha hf hl
  unfold sCop
  rw [hs]
  exact he k hk
theorem uzI_at {p : Int} {B : Nat → Row} {c : Row} {acc : Nat → Int} {k j : Nat} : ∀ i, uzI p B c acc k i j % p = (acc j + if j = k then sumN i (fun q => B k q * c q) else 0) % p
  | 0 => by simp [uzI, sumN]
  | i + 1 => by
    have ih := uzI_at (p := p) (B := B) (c := c) (acc := acc) (k := k) (j := j) i
    unfold uzI
    split
    · rename_i h
      rw [ih]
      by_cases g : j = k
      · simp only [g, if_true, sumN, h, Int.zero_mul, Int.add_zero]
      · simp only [g, if_false]
    · unfold addV
      rw [cg_mod]
      by_cases g : j = k
      · subst g
        simp only [if_true] at ih ⊢
        have e : basV j j = 1 := by simp [basV]
        rw [e, Int.mul_one]
        have h1 : (uzI p B c acc j i j + B j i * c i % p) % p = (acc j + sumN i (fun q => B j q * c q) + B j i * c i) % p := cg_add ih (cg_mod _ _)
        rw [h1]; simp only [sumN]; congr 1; omega
      · simp only [g, if_false] at ih ⊢
        have e : basV k j = 0 := by simp [basV, g]
        rw [e, Int.mul_zero, Int.add_zero]; exact ih
theorem uzR_at {p : Int} {B : Nat → Row} {c : Row} {n j : Nat} : ∀ m, uzR p B c n m j % p = (if j < m then sumN n (fun q => B j q * c q) else 0) % p
  | 0 => by simp [uzR, Z]
  | m + 1 => by
    have ih := uzR_at (p := p) (B := B) (c := c) (n := n) (j := j) m
    unfold uzR
    rw [uzI_at, cg_add ih rfl]
    by_cases g : j = m
    · subst g; simp
    · by_cases h : j < m
      · simp [g, h, Nat.lt_succ_of_lt h]
      · simp [g, h, show ¬ j < m + 1 by omega]
theorem uzS_at {p : Int} {T : Nat → Row} {c : Row} {acc : Nat → Int} {k j : Nat} : ∀ l, uzS p T c acc k l j % p = (acc j + if j < l then c k * T k j else 0) % p
  | 0 => by simp [uzS]
  | l + 1 => by
    have ih := uzS_at (p := p) (T := T) (c := c) (acc := acc) (k := k) (j := j) l
    unfold uzS addV
    rw [cg_mod, cg_add ih rfl]
    by_cases g : j = l
    · subst g
      have e : basV j j = 1 := by simp [basV]
      simp [e]
    · have e : basV l j = 0 := by simp [basV, g]
      rw [e, Int.mul_zero, Int.add_zero]
      by_cases h : j < l
      · simp [h, Nat.lt_succ_of_lt h]
      · simp [h, show ¬ j < l + 1 by omega]
theorem uzT_at {p : Int} {T : Nat → Row} {c : Row} {n j : Nat} : ∀ m, uzT p T c n m j % p = (if j < n then sumN m (fun k => c k * T k j) else 0) % p
  | 0 => by simp [uzT, Z, sumN]
  | m + 1 => by
    have ih := uzT_at (p := p) (T := T) (c := c) (n := n) (j := j) m
    unfold uzT
    rw [uzS_at, cg_add ih rfl]
    by_cases g : j < n
    · simp [g, sumN]
    · simp [g]
theorem unzip_same {x : Pr} (ha : AlgOk x.c) (hf : sFrobP x.c) (hc : sCommP x.c) (w : Nat → Int) : iUnzip x w = sUnzip x w := by
  have hp2 := prime_bd ha.p
  funext j
  have r1 : Rw x.c.p (iUnzip x w) := uzR_rw (by omega) _
  have r2 : Rw x.c.p (sUnzip x w) := uzT_rw (by omega) _
  rw [← rw_mod r1 j, ← rw_mod r2 j]
  unfold iUnzip sUnzip
  rw [uzR_at, uzT_at, iCop_len2 ha hf]
  congr 1
  by_cases h : j < x.c.n.toNat
  · rw [if_pos h, if_pos h]
    refine sumN_ext fun q hq => ?_
    rw [cop_same ha hf h hq, sCop_eq ha hf h hq, sCop_eq ha hf hq h, cop_sym ha hf hc h hq, Int.mul_comm]
  · rw [if_neg h, if_neg h]
end Go.X
