import Derived.Test.YtiefibobgdbcdaaK1
import Derived.Test.YtiefibobgdbcdaaM1
set_option linter.all false
namespace Go.X
open Go Go.RowKit
end Go.X
namespace Go.X
open Go Go.RowKit
end Go.X
namespace Go.X
open Go Go.RowKit
structure Grp where
  n : Int
  t : Nat → Nat → Int
def grpF (g : Grp) : Nat → D := fun q => if q = 0 then .int .i64 g.n else .int .u8 (g.t ((q - 1) / 6) ((q - 1) % 6))
def grpL (g : Grp) : List D := arr 37 (grpF g)
abbrev grpD (g : Grp) : D := .agg (grpL g)
theorem grpF_t (g : Grp) {i j : Nat} (hi : i < 6) (hj : j < 6) : grpF g (1 + i * 6 + j) = .int .u8 (g.t i j) := by
  unfold grpF
  rw [if_neg (by omega), show (1 + i * 6 + j - 1) / 6 = i from by omega, show (1 + i * 6 + j - 1) % 6 = j from by omega]
def GrpAt (l : List (List D)) (e off : Nat) (g : Grp) : Prop := ∀ q, q < 37 → get2 l e (off + q) = some (grpF g q)
theorem GrpAt.n {l : List (List D)} {e off : Nat} {g : Grp} (h : GrpAt l e off g) : get2 l e off = some (.int .i64 g.n) := h 0 (by omega)
theorem GrpAt.t {l : List (List D)} {e off : Nat} {g : Grp} (h : GrpAt l e off g) {i j : Nat} (hi : i < 6) (hj : j < 6) :
    get2 l e (off + 1 + ((i : Nat) : Int).toNat * 6 + ((j : Nat) : Int).toNat * 1) = some (.int .u8 (g.t i j)) := by
  rw [← grpF_t g hi hj, ← h _ (by omega)]; congr 1; omega
theorem grpAt_one (g : Grp) : GrpAt [grpL g] 0 0 g := fun q hq => by
  show (grpL g)[0 + q]? = _
  rw [Nat.zero_add]; exact arr_get hq
theorem GrpAt.all {l : List (List D)} {e off : Nat} {g : Grp} (h : GrpAt l e off g) : sub2 l e off 37 = some (grpL g) := by
  unfold sub2
  have h0 := h 36 (by omega)
  unfold get2 at h0
  cases hl : l[e]? with
  | none => rw [hl] at h0; cases h0
  | some r =>
    rw [hl] at h0
    have hlen : off + 36 < r.length := (List.getElem?_eq_some_iff.1 (show r[off + 36]? = some _ from h0)).1
    show cut r off 37 = _
    unfold cut
    rw [if_pos (by omega)]
    refine congrArg some (arr_of (by rw [List.length_take, List.length_drop]; omega) fun q hq => ?_)
    have hq2 := h q hq
    unfold get2 at hq2
    rw [hl] at hq2
    rw [List.getElem?_take, if_pos hq, List.getElem?_drop]
    exact hq2
def mN (g : Grp) (i j : Nat) : Nat := (g.t i j).toNat
def entP (g : Grp) : Prop := ∀ i j : Nat, i < 6 → j < 6 → if (i : Int) < g.n ∧ (j : Int) < g.n then g.t i j < g.n else g.t i j = 0
def GP (g : Grp) : Prop := (1 ≤ g.n ∧ g.n ≤ 6) ∧ entP g ∧ ∀ i : Nat, (i : Int) < g.n → (g.t 0 i = i ∧ g.t i 0 = i) ∧ (∃ j : Nat, (j : Int) < g.n ∧ g.t i j = 0 ∧ g.t j i = 0) ∧
  ∀ j k : Nat, (j : Int) < g.n → (k : Int) < g.n → g.t (mN g i j) k = g.t i (mN g j k)
structure GrpB (g : Grp) : Prop where
  b : ∀ i j, 0 ≤ g.t i j ∧ g.t i j ≤ 255
def invN (g : Grp) (i : Nat) : Nat := (idxF (fun j => decide (g.t i j = 0 ∧ g.t j i = 0)) g.n.toNat).toNat
def cj (g : Grp) (x i : Nat) : Nat := mN g (mN g x i) (invN g x)
section
variable {g : Grp} (hb : GrpB g) (h : GP g)
include hb h
theorem GP.tN {i j : Nat} (hi : i < g.n.toNat) (hj : j < g.n.toNat) : g.t i j = (mN g i j : Nat) ∧ mN g i j < g.n.toNat := by
  have h1 := hb.b i j
  have h2 := h.2.1 i j (by have := h.1; omega) (by have := h.1; omega)
  rw [if_pos ⟨by omega, by omega⟩] at h2
  unfold mN
  omega
theorem GP.one {i : Nat} (hi : i < g.n.toNat) : mN g 0 i = i ∧ mN g i 0 = i := by
  have h1 := (h.2.2 i (by omega)).1
  unfold mN
  omega
theorem GP.as {i j k : Nat} (hi : i < g.n.toNat) (hj : j < g.n.toNat) (hk : k < g.n.toNat) : mN g (mN g i j) k = mN g i (mN g j k) := congrArg Int.toNat ((h.2.2 i (by omega)).2.2 j k (by omega) (by omega))
theorem GP.inv {i : Nat} (hi : i < g.n.toNat) : invN g i < g.n.toNat ∧ mN g i (invN g i) = 0 ∧ mN g (invN g i) i = 0 ∧ idxF (fun j => decide (g.t i j = 0 ∧ g.t j i = 0)) g.n.toNat = (invN g i : Nat) := by
  obtain ⟨j, hj, h1, h2⟩ := (h.2.2 i (by omega)).2.1
  rcases idxF_cases (fun j => decide (g.t i j = 0 ∧ g.t j i = 0)) g.n.toNat with ⟨e, hn⟩ | ⟨q, hq, e, hn, _⟩
  · have := of_decide_eq_false (hn j (by omega))
    exact absurd ⟨h1, h2⟩ this
  · have hn := of_decide_eq_true hn
    unfold invN
    rw [e]
    unfold mN
    rw [Int.toNat_natCast, hn.1, hn.2]
    exact ⟨hq, rfl, rfl, rfl⟩
theorem GP.zero : 0 < g.n.toNat := by have := h.1; omega
theorem GP.invU {i j : Nat} (hi : i < g.n.toNat) (hj : j < g.n.toNat) (e : mN g i j = 0) : j = invN g i := by
  obtain ⟨h1, h2, h3, _⟩ := GP.inv hb h hi
  have := GP.as hb h h1 hi hj
  rw [h3, e, (GP.one hb h hj).1, (GP.one hb h h1).2] at this
  exact this
theorem GP.inv1 {i : Nat} (hi : i < g.n.toNat) : idxF (fun j => decide (g.t i j = 0)) g.n.toNat = (invN g i : Nat) := by
  obtain ⟨h1, h2, h3, _⟩ := GP.inv hb h hi
  refine idxF_some h1 (decide_eq_true (by rw [(GP.tN hb h hi h1).1, h2]; rfl)) fun j hj => decide_eq_false fun e => ?_
  have hj2 : j < g.n.toNat := by omega
  have : mN g i j = 0 := by unfold mN; rw [e]; rfl
  have := GP.invU hb h hi hj2 this
  omega
theorem GP.cj_lt {x i : Nat} (hx : x < g.n.toNat) (hi : i < g.n.toNat) : cj g x i < g.n.toNat :=
  (GP.tN hb h (GP.tN hb h hx hi).2 (GP.inv hb h hx).1).2
theorem GP.cj_0 {i : Nat} (hi : i < g.n.toNat) : cj g 0 i = i := by
  have h0 := GP.zero hb h
  have e : invN g 0 = 0 := (GP.invU hb h h0 h0 (GP.one hb h h0).1).symm
  unfold cj
  rw [e, (GP.one hb h hi).1, (GP.one hb h hi).2]
theorem GP.inv_mul {x y : Nat} (hx : x < g.n.toNat) (hy : y < g.n.toNat) : invN g (mN g y x) = mN g (invN g x) (invN g y) := by
  obtain ⟨x1, x2, x3, _⟩ := GP.inv hb h hx
  obtain ⟨y1, y2, y3, _⟩ := GP.inv hb h hy
  have hyx := (GP.tN hb h hy hx).2
  have hxy := (GP.tN hb h x1 y1).2
  refine (GP.invU hb h hyx hxy ?_).symm
  rw [GP.as hb h hy hx hxy, ← GP.as hb h hx x1 y1, x2, (GP.one hb h y1).1, y2]
theorem GP.cj_cj {x y i : Nat} (hx : x < g.n.toNat) (hy : y < g.n.toNat) (hi : i < g.n.toNat) : cj g y (cj g x i) = cj g (mN g y x) i := by
  obtain ⟨x1, _⟩ := GP.inv hb h hx
  obtain ⟨y1, _⟩ := GP.inv hb h hy
  have hxi := (GP.tN hb h hx hi).2
  unfold cj
  rw [GP.inv_mul hb h hx hy, ← GP.as hb h hy hxi x1, ← GP.as hb h hy hx hi, GP.as hb h (GP.tN hb h (GP.tN hb h hy hx).2 hi).2 x1 y1]
theorem GP.cj_back {x i : Nat} (hx : x < g.n.toNat) (hi : i < g.n.toNat) : cj g (invN g x) (cj g x i) = i := by
  obtain ⟨x1, _, x3, _⟩ := GP.inv hb h hx
  rw [GP.cj_cj hb h hx x1 hi, x3, GP.cj_0 hb h hi]
end
def clsB (g : Grp) (i j : Nat) : Bool := (List.range g.n.toNat).any fun x => cj g x i == j
def clsL (g : Grp) (i : Nat) : List Nat := (List.range g.n.toNat).filter (clsB g i)
theorem clsB_iff {g : Grp} {i j : Nat} : clsB g i j = true ↔ ∃ x, x < g.n.toNat ∧ cj g x i = j := by
  unfold clsB
  rw [List.any_eq_true]
  exact ⟨fun ⟨x, hx, e⟩ => ⟨x, List.mem_range.1 hx, by simpa using e⟩, fun ⟨x, hx, e⟩ => ⟨x, List.mem_range.2 hx, by simpa using e⟩⟩
section
variable {g : Grp} (hb : GrpB g) (h : GP g)
include hb h
theorem cls_refl {i : Nat} (hi : i < g.n.toNat) : clsB g i i = true := clsB_iff.2 ⟨0, GP.zero hb h, GP.cj_0 hb h hi⟩
theorem cls_sym {i j : Nat} (hi : i < g.n.toNat) (e : clsB g i j = true) : clsB g j i = true := by
  obtain ⟨x, hx, rfl⟩ := clsB_iff.1 e
  exact clsB_iff.2 ⟨invN g x, (GP.inv hb h hx).1, GP.cj_back hb h hx hi⟩
theorem cls_lt {i j : Nat} (hi : i < g.n.toNat) (e : clsB g i j = true) : j < g.n.toNat := by
  obtain ⟨x, hx, rfl⟩ := clsB_iff.1 e
  exact GP.cj_lt hb h hx hi
theorem cls_trans {i j k : Nat} (hi : i < g.n.toNat) (e : clsB g i j = true) (f : clsB g j k = true) : clsB g i k = true := by
  obtain ⟨x, hx, rfl⟩ := clsB_iff.1 e
  obtain ⟨y, hy, rfl⟩ := clsB_iff.1 f
  exact clsB_iff.2 ⟨mN g y x, (GP.tN hb h hy hx).2, (GP.cj_cj hb h hx hy hi).symm⟩
theorem cls_imp {i : Nat} (hi : i < g.n.toNat) : compI (sortI ((List.range g.n.toNat).map fun x => ((cj g x i : Nat) : Int))) = (clsL g i).map Int.ofNat := by
  refine asc_unique (compI_asc (sortI_asc _)) ?_ fun y => ?_
  · unfold clsL
    rw [List.pairwise_map]
    refine List.Pairwise.filter _ (List.Pairwise.imp (fun {a b} hab => ?_) List.pairwise_lt_range)
    show (a : Int) < (b : Int)
    omega
  · rw [compI_mem, sortI_mem, List.mem_map, List.mem_map]
    constructor
    · rintro ⟨x, hx, rfl⟩
      have hx := List.mem_range.1 hx
      exact ⟨cj g x i, List.mem_filter.2 ⟨List.mem_range.2 (GP.cj_lt hb h hx hi), clsB_iff.2 ⟨x, hx, rfl⟩⟩, rfl⟩
    · rintro ⟨j, hj, rfl⟩
      obtain ⟨x, hx, e⟩ := clsB_iff.1 (List.mem_filter.1 hj).2
      exact ⟨x, List.mem_range.2 hx, by rw [e]; rfl⟩
end
def repB (g : Grp) (i : Nat) : Bool := !(List.range i).any fun j => clsB g j i
def metB (g : Grp) (i j : Nat) : Bool := (List.range i).any fun k => clsB g k j
theorem met_rep {g : Grp} {i : Nat} : repB g i = !metB g i i := rfl
theorem met_s {g : Grp} {i j : Nat} : metB g (i + 1) j = (metB g i j || clsB g i j) := by
  unfold metB
  rw [List.range_succ, List.any_append]; simp
theorem met_iff {g : Grp} {i j : Nat} : metB g i j = true ↔ ∃ k, k < i ∧ clsB g k j = true := by
  unfold metB
  rw [List.any_eq_true]
  exact ⟨fun ⟨x, hx, e⟩ => ⟨x, List.mem_range.1 hx, e⟩, fun ⟨x, hx, e⟩ => ⟨x, List.mem_range.2 hx, e⟩⟩
section
variable {g : Grp} (hb : GrpB g) (h : GP g)
include hb h
theorem met_skip {i : Nat} (hi : i < g.n.toNat) (e : metB g i i = true) : ∀ j, metB g (i + 1) j = metB g i j := fun j => by
  rw [met_s]
  cases c : clsB g i j with
  | false => rw [Bool.or_false]
  | true =>
    obtain ⟨k, hk, hc⟩ := met_iff.1 e
    rw [met_iff.2 ⟨k, hk, cls_trans hb h (by omega) hc c⟩]; rfl
theorem cls_head {i : Nat} (hi : i < g.n.toNat) : (((clsL g i).getD 0 0 == i) = repB g i) ∧ 0 < (clsL g i).length := by
  have hm : i ∈ clsL g i := List.mem_filter.2 ⟨List.mem_range.2 hi, cls_refl hb h hi⟩
  have hp : (clsL g i).Pairwise (· < ·) := List.Pairwise.filter _ List.pairwise_lt_range
  have hall : ∀ j, j ∈ clsL g i ↔ j < g.n.toNat ∧ clsB g i j = true := fun j => by unfold clsL; rw [List.mem_filter, List.mem_range]
  cases hl : clsL g i with
  | nil => rw [hl] at hm; cases hm
  | cons y r =>
    rw [hl] at hm hp hall
    refine ⟨?_, by simp⟩
    rw [List.pairwise_cons] at hp
    rw [Bool.eq_iff_iff]
    have hy := (hall y).1 (List.mem_cons_self ..)
    show (y == i) = true ↔ _
    rw [beq_iff_eq]
    unfold repB
    rw [Bool.not_eq_true', Bool.eq_false_iff, ne_eq, List.any_eq_true]
    constructor
    · rintro rfl ⟨j, hj, e⟩
      have hj := List.mem_range.1 hj
      have e2 := cls_sym hb h (show j < g.n.toNat by omega) e
      rcases List.mem_cons.1 ((hall j).2 ⟨by omega, e2⟩) with c | c
      · omega
      · have := hp.1 j c; omega
    · intro hno
      rcases List.mem_cons.1 hm with c | c
      · exact c.symm
      · exfalso
        have := hp.1 i c
        exact hno ⟨y, List.mem_range.2 this, cls_sym hb h hi hy.2⟩
end
def clsS (g : Grp) : List (List Nat) := ((List.range g.n.toNat).filter (repB g)).map (clsL g)
end Go.X
namespace Go.X
open Go Go.RowKit
end Go.X
