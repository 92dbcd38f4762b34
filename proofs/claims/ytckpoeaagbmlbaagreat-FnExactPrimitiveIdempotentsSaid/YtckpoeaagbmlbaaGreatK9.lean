import Derived.Test.YtckpoeaagbmlbaaGreatK8
import Derived.Test.YtckpoeaagbmlbaaGreatK3
import Derived.Test.YtckpoeaagbmlbaaGreatK4
import Derived.Test.YtckpoeaagbmlbaaGreatK7
import Derived.Test.YtckpoeaagbmlbaaGreatK5
set_option linter.all false
namespace Go.X
open Go Go.RowKit
section
variable {a : Alg}
theorem no_lead {p : Int} {m : Nat} {L : List Row} {ld : Nat → Nat} (h : RR p m L ld) (hl : L.length < m) : ∃ c, c < m ∧ ∀ i, i < L.length → ld i ≠ c := by
  apply Classical.byContradiction
  intro hno
  have hit : ∀ c, c < m → ∃ i, i < L.length ∧ ld i = c := fun c hc => by
    apply Classical.byContradiction
    intro g
    exact hno ⟨c, hc, fun i hi e => g ⟨i, hi, e⟩⟩
  have := rr_seq (m := m) (f := ld) (g := fun i => i) (A := L.length) (B := m) h.sort (fun i j hij _ => hij) (fun i hi => ⟨ld i, (h.lead i hi).1, rfl⟩) (fun j hj => hit j hj) L.length
  have := this.2 hl
  omega
def sumE (p : Int) (E : List (Nat → Int)) (z : Row) (m : Nat) : Nat → Int := fun i => sumN m (fun j => z j * E.getD j Z i) % p
theorem sumE_succ (p : Int) (E : List (Nat → Int)) (z : Row) (m : Nat) : sumE p E z (m + 1) = vadd p (sumE p E z m) (vsc p (z m) (E.getD m Z)) := funext fun i => by
  show (sumN m (fun j => z j * E.getD j Z i) + z m * E.getD m Z i) % p = (sumN m (fun j => z j * E.getD j Z i) % p + z m * E.getD m Z i % p) % p
  exact (cg_add (cg_mod p _) (cg_mod p _)).symm
theorem Orth.two {E : List (Nat → Int)} (h : CA a) (hE : Orth a E) {i j : Nat} (hi : i < E.length) (hj : j < E.length) (hij : i ≠ j) : timesV a (E.getD i Z) (E.getD j Z) = Z := by
  have hp := List.pairwise_iff_getElem.1 hE.pair
  have g : ∀ k (hk : k < E.length), E.getD k Z = E[k] := fun k hk => by rw [List.getD_eq_getElem?_getD, List.getElem?_eq_getElem hk]; rfl
  rw [g i hi, g j hj]
  rcases Nat.lt_or_gt_of_ne hij with c | c
  · exact hp i j hi hj c
  · rw [mul_comm' h]; exact hp j i hj hi c
theorem getD_memE {E : List (Nat → Int)} {i : Nat} (hi : i < E.length) : E.getD i Z ∈ E := by
  rw [List.getD_eq_getElem?_getD, List.getElem?_eq_getElem hi]; exact List.getElem_mem _
theorem mul_sumE (h : CA a) {E : List (Nat → Int)} (hE : Orth a E) (z : Row) {c : Nat} (hc : c < E.length) : ∀ m, m ≤ E.length → timesV a (E.getD c Z) (sumE a.p E z m) = if c < m then vsc a.p (z c) (E.getD c Z) else Z
  | 0, _ => by
    have e : sumE a.p E z 0 = Z := funext fun i => by show (0 : Int) % a.p = 0; simp
    rw [e, mul_Z h, if_neg (by omega)]
  | m + 1, hm => by
    rw [sumE_succ, mul_add' h, mul_sc' h, mul_sumE h hE z hc m (by omega)]
    have hci := hE.inn _ (getD_memE hc)
    by_cases e : c = m
    · subst e
      rw [if_neg (by omega), if_pos (by omega), hE.idem _ (getD_memE hc), Z_vadd (vsc_rw h.p1)]
    · rw [hE.two h hc (by omega) e, vsc_Z]
      by_cases g : c < m
      · rw [if_pos g, if_pos (by omega), vadd_Z (vsc_rw h.p1)]
      · rw [if_neg g, if_neg (by omega), vadd_Z (Z_rw h.p1)]
theorem orth_len (h : CA a) {E : List (Nat → Int)} (hE : Orth a E) : E.length ≤ a.n.toNat := by
  apply Classical.byContradiction
  intro hgt
  have hp2 := h.p2
  let L : List Row := arr a.n.toNat fun k j => E.getD j Z k
  have hL : RwL a.p L := fun r hr => by
    simp only [L, arr, List.mem_map] at hr
    obtain ⟨k, _, rfl⟩ := hr
    intro j
    by_cases hj : j < E.length
    · exact (hE.inn _ (getD_memE hj)).1 k
    · have e : E.getD j Z = Z := by rw [List.getD_eq_getElem?_getD, List.getElem?_eq_none (by omega)]; rfl
      show 0 ≤ E.getD j Z k ∧ E.getD j Z k < a.p
      rw [e]
      show 0 ≤ (0 : Int) ∧ (0 : Int) < a.p; omega
  obtain ⟨ld, rr⟩ := redF_rr (m := E.length) h.ok.p hL
  have hlen : (redF a.p E.length L).length ≤ a.n.toNat := by
    have := (redN_inv (p := a.p) (rows := L) (by omega) hL E.length).2.2
    have e : L.length = a.n.toNat := arr_len ..
    unfold redF; omega
  obtain ⟨c, hc, hne⟩ := no_lead rr (by omega)
  have hk := (redF_ker h.ok.p hL).1 (kv_ker rr hc hne)
  have h1 := mul_sumE h hE (kv a.p (redF a.p E.length L) ld c) hc E.length (Nat.le_refl _)
  have e : sumE a.p E (kv a.p (redF a.p E.length L) ld c) E.length = Z := funext fun i => by
    show sumN E.length (fun j => kv a.p (redF a.p E.length L) ld c j * E.getD j Z i) % a.p = 0
    by_cases hi : i < a.n.toNat
    · have := hk (fun j => E.getD j Z i) (by
        simp only [L, arr, List.mem_map]
        exact ⟨i, by simpa using hi, rfl⟩)
      unfold dot at this
      rw [← this]
      congr 1
      exact sumN_ext fun j _ => Int.mul_comm ..
    · rw [sumN_zero fun j hj => by rw [(hE.inn _ (getD_memE hj)).2 i (by omega), Int.mul_zero]]; simp
  rw [e, mul_Z h, if_pos hc, kv_c, vsc_1 (hE.inn _ (getD_memE hc)).1] at h1
  obtain ⟨i, hi⟩ := hE.nz _ (getD_memE hc)
  exact hi (congrFun h1.symm i)
def nzB (v : Nat → Int) : Bool := !decide (VEq v Z)
def sharesL (a : Alg) (b e : Nat → Int) : List (Nat → Int) := ((List.range a.p.toNat).map (share a b e)).filter nzB
def stageL (a : Alg) (b : Nat → Int) (E : List (Nat → Int)) : List (Nat → Int) := E.flatMap (sharesL a b)
def primL (a : Alg) (fixed : List (Nat → Int)) : List (Nat → Int) := fixed.foldl (fun E b => stageL a b E) [sUnit a]
theorem mem_shares {b e f : Nat → Int} (h : f ∈ sharesL a b e) : ∃ c : Nat, (c : Int) < a.p ∧ f = share a b e c ∧ ∃ i, f i ≠ 0 := by
  unfold sharesL at h
  rw [List.mem_filter, List.mem_map] at h
  obtain ⟨⟨c, hc, rfl⟩, hn⟩ := h
  refine ⟨c, by have := List.mem_range.1 hc; omega, rfl, ?_⟩
  apply Classical.byContradiction
  intro g
  have : VEq (share a b e c) Z := fun i _ => by
    apply Classical.byContradiction
    intro g2; exact g ⟨i, g2⟩
  simp [nzB, this] at hn
theorem stage_orth (h : CA a) {b : Nat → Int} (hb : InA a b) (hf : pw a b a.p.toNat = b) {E : List (Nat → Int)} (hE : Orth a E) : Orth a (stageL a b E) := by
  refine ⟨fun f hm => ?_, fun f hm => ?_, fun f hm => ?_, ?_⟩
  · obtain ⟨e, he, hm⟩ := List.mem_flatMap.1 hm
    obtain ⟨c, _, rfl, _⟩ := mem_shares hm
    exact share_in h hb (hE.inn e he) c
  · obtain ⟨e, he, hm⟩ := List.mem_flatMap.1 hm
    obtain ⟨c, hc, rfl, _⟩ := mem_shares hm
    exact share_idem h hb (hE.inn e he) (hE.idem e he) hf hc
  · obtain ⟨e, he, hm⟩ := List.mem_flatMap.1 hm
    obtain ⟨c, hc, rfl, hn⟩ := mem_shares hm
    exact hn
  · unfold stageL
    rw [List.pairwise_flatMap]
    refine ⟨fun e he => ?_, ?_⟩
    · unfold sharesL
      refine List.Pairwise.filter _ ?_
      rw [List.pairwise_map]
      refine List.Pairwise.imp_of_mem (fun {c d} hc hd hcd => ?_) List.pairwise_lt_range
      have := List.mem_range.1 hc
      have := List.mem_range.1 hd
      exact share_orth h hb (hE.inn e he) hf (by omega) (by omega) (by omega)
    · refine List.Pairwise.imp_of_mem (fun {e f} he hf' hef x hx y hy => ?_) hE.pair
      obtain ⟨c, _, rfl, _⟩ := mem_shares hx
      obtain ⟨d, _, rfl, _⟩ := mem_shares hy
      rw [← share_e h hb (hE.inn e he) (hE.idem e he) c, ← share_e h hb (hE.inn f hf') (hE.idem f hf') d]
      rw [mul_assoc' h, mul_left_comm' h (share a b e c), ← mul_assoc' h, hef, Z_mul h]
theorem unit_orth (h : CA a) : Orth a [sUnit a] := by
  refine ⟨fun e he => ?_, fun e he => ?_, fun e he => ?_, List.pairwise_singleton ..⟩
  · rw [List.mem_singleton.1 he]; exact in_one h
  · rw [List.mem_singleton.1 he]; exact one_mul' h (in_one h)
  · rw [List.mem_singleton.1 he]
    apply Classical.byContradiction
    intro g
    have e0 : sUnit a = Z := funext fun i => by
      apply Classical.byContradiction
      intro g2; exact g ⟨i, g2⟩
    have hn := h.ok.n
    have h1 := mul_one' h (in_bas h (i := 0) (by omega))
    rw [e0, mul_Z h] at h1
    have := congrFun h1 0
    simp [Z, basV] at this
theorem prim_orth (h : CA a) {fixed : List (Nat → Int)} (hf : ∀ b ∈ fixed, InA a b ∧ pw a b a.p.toNat = b) : Orth a (primL a fixed) := by
  have key : ∀ (fixed E : List (Nat → Int)), (∀ b ∈ fixed, InA a b ∧ pw a b a.p.toNat = b) → Orth a E → Orth a (fixed.foldl (fun E b => stageL a b E) E) := by
    intro fixed
    induction fixed with
    | nil => intro E _ hE; exact hE
    | cons b r ih =>
      intro E hf hE
      exact ih _ (fun x hx => hf x (List.mem_cons_of_mem _ hx)) (stage_orth h (hf b (List.mem_cons_self ..)).1 (hf b (List.mem_cons_self ..)).2 hE)
  exact key _ _ hf (unit_orth h)
end
end Go.X
namespace Go.X
open Go Go.RowKit
end Go.X
