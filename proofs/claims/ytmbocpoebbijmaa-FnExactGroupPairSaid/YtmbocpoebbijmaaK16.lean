import Derived.Test.YtmbocpoebbijmaaK15
import Derived.Test.YtmbocpoebbijmaaK1
set_option linter.all false
namespace Go.X
open Go Go.RowKit
def updT (T : Nat → Nat → Nat → Int) (i j k : Nat) (x : Int) : Nat → Nat → Nat → Int := fun a b c => if a = i ∧ b = j ∧ c = k then x else T a b c
theorem algL_setT {a : Alg} {i j k : Nat} {x : Int} (hi : i < 6) (hj : j < 6) (hk : k < 6) :
    (algL a).set (0 + 2 + ((i : Nat) : Int).toNat * 36 + ((j : Nat) : Int).toNat * 6 + ((k : Nat) : Int).toNat * 1) (.int .u8 x) = algL { a with T := updT a.T i j k x } := by
  rw [show 0 + 2 + ((i : Nat) : Int).toNat * 36 + ((j : Nat) : Int).toNat * 6 + ((k : Nat) : Int).toNat * 1 = 2 + i * 36 + j * 6 + k by omega]
  unfold algL
  rw [arr_set]
  refine arr_ext fun q hq => ?_
  unfold upd algF updT
  dsimp only
  by_cases e : q = 2 + i * 36 + j * 6 + k
  · subst e
    rw [if_pos rfl, if_neg (by omega), if_neg (by omega), if_pos (by omega), if_pos (by omega)]
  · rw [if_neg e]
    by_cases e0 : q = 0
    · rw [if_pos e0, if_pos e0]
    · rw [if_neg e0, if_neg e0]
      by_cases e1 : q = 1
      · rw [if_pos e1, if_pos e1]
      · rw [if_neg e1, if_neg e1]
        by_cases e2 : q < 218
        · rw [if_pos e2, if_pos e2, if_neg (by omega)]
        · rw [if_neg e2, if_neg e2]
theorem algL_setF {a : Alg} {x : Int} : (algL a).set (0 + 218 + (0 : Int).toNat * 1) (.int .u8 x) = algL { a with f := upd a.f 0 x } := by
  rw [show 0 + 218 + (0 : Int).toNat * 1 = 218 from rfl]
  unfold algL
  rw [arr_set]
  refine arr_ext fun q hq => ?_
  unfold upd algF
  dsimp only
  by_cases e : q = 218
  · subst e
    rw [if_pos rfl, if_neg (by omega), if_neg (by omega), if_neg (by omega), if_pos (by omega)]
  · rw [if_neg e]
    by_cases e0 : q = 0
    · rw [if_pos e0, if_pos e0]
    · rw [if_neg e0, if_neg e0]
      by_cases e1 : q = 1
      · rw [if_pos e1, if_pos e1]
      · rw [if_neg e1, if_neg e1]
        by_cases e2 : q < 218
        · rw [if_pos e2, if_pos e2]
        · rw [if_neg e2, if_neg e2, if_neg (by omega)]
def alg0 (p n : Int) (f : Nat → Int) : Alg := ⟨p, n, fun _ _ _ => 0, f⟩
theorem algZ_arr : algZ = arr 224 fun q => if q < 2 then .int .i64 0 else .int .u8 0 := by
  refine arr_of algZ_len fun q hq => ?_
  unfold algZ
  match q with
  | 0 => rfl
  | 1 => rfl
  | q + 2 =>
    rw [List.getElem?_cons_succ, List.getElem?_cons_succ, List.getElem?_replicate, if_pos (by omega), if_neg (by omega)]
theorem alg0_L {p n : Int} : (algZ.set 0 (.int .i64 p)).set 1 (.int .i64 n) = algL (alg0 p n fun _ => 0) := by
  rw [algZ_arr, arr_set, arr_set]
  refine arr_ext fun q hq => ?_
  unfold upd algF alg0
  dsimp only
  by_cases e1 : q = 1
  · rw [if_pos e1, if_neg (by omega), if_pos e1]
  · rw [if_neg e1]
    by_cases e0 : q = 0
    · rw [if_pos e0, if_pos e0]
    · rw [if_neg e0, if_neg e0, if_neg e1, if_neg (show ¬ q < 2 by omega), ite_self]
theorem alg0_F {p n : Int} {f : Nat → Int} : splice ((algZ.set 0 (.int .i64 p)).set 1 (.int .i64 n)) 218 (vecL f) = algL (alg0 p n f) := by
  rw [alg0_L]
  show splice (arr 224 (algF (alg0 p n fun _ => 0))) 218 (arr 6 fun i => .int .u8 (f i)) = _
  rw [arr_splice (by omega)]
  refine arr_ext fun q hq => ?_
  unfold algF alg0
  by_cases e : 218 ≤ q
  · rw [if_pos ⟨e, by omega⟩, if_neg (by omega), if_neg (by omega), if_neg (by omega)]
  · rw [if_neg (fun h => e h.1)]
    by_cases e0 : q = 0
    · rw [if_pos e0, if_pos e0]
    · rw [if_neg e0, if_neg e0]
      by_cases e1 : q = 1
      · rw [if_pos e1, if_pos e1]
      · rw [if_neg e1, if_neg e1, if_pos (by omega), if_pos (by omega)]
def oneV : Nat → Int := fun i => if i = 0 then 1 else 0
def gaT (g : Grp) (i j : Nat) : Nat → Nat → Nat → Int := fun a b c => if (a < i ∨ (a = i ∧ b < j)) ∧ b < g.n.toNat ∧ c = mN g a b then 1 else 0
theorem gaT_0 {g : Grp} : gaT g 0 0 = fun _ _ _ => 0 := by
  funext a b c
  unfold gaT
  rw [if_neg (by omega)]
theorem gaT_s {g : Grp} {i j : Nat} (h : j < g.n.toNat) : updT (gaT g i j) i j (mN g i j) 1 = gaT g i (j + 1) := by
  funext a b c
  unfold updT gaT
  by_cases e : a = i ∧ b = j
  · obtain ⟨rfl, rfl⟩ := e
    by_cases e2 : c = mN g a b
    · rw [if_pos ⟨rfl, rfl, e2⟩, if_pos ⟨by omega, h, e2⟩]
    · rw [if_neg (fun h => e2 h.2.2), if_neg (fun h => e2 h.2.2), if_neg (fun h => e2 h.2.2)]
  · rw [if_neg (fun h => e ⟨h.1, h.2.1⟩)]
    by_cases e3 : (a < i ∨ (a = i ∧ b < j)) ∧ b < g.n.toNat ∧ c = mN g a b
    · rw [if_pos e3, if_pos ⟨by omega, e3.2⟩]
    · rw [if_neg e3, if_neg (fun h => e3 ⟨by omega, h.2⟩)]
theorem gaT_r {g : Grp} {i : Nat} : gaT g i g.n.toNat = gaT g (i + 1) 0 := by
  funext a b c
  unfold gaT
  by_cases e3 : (a < i ∨ (a = i ∧ b < g.n.toNat)) ∧ b < g.n.toNat ∧ c = mN g a b
  · rw [if_pos e3, if_pos ⟨by omega, e3.2⟩]
  · rw [if_neg e3, if_neg (fun h => e3 ⟨by omega, h.2⟩)]
def gaF (p : Int) (g : Grp) (f : Nat → Int) (i j : Nat) : Alg := ⟨p, g.n, gaT g i j, f⟩
def gaA (p : Int) (g : Grp) : Alg := gaF p g oneV g.n.toNat 0
def cS (g : Grp) (q : Nat) : List Nat := (clsS g).getD q []
def cyN (g : Grp) (x : Nat) (L : List Nat) (e : Nat) : Nat → Int
  | 0 => 0
  | r + 1 => cyN g x L e r + if mN g x (L.getD r 0) = e then 1 else 0
def cxN (g : Grp) (K L : List Nat) (e : Nat) : Nat → Int
  | 0 => 0
  | q + 1 => cxN g K L e q + cyN g (K.getD q 0) L e L.length
theorem cyN_b {g : Grp} {x : Nat} {L : List Nat} {e : Nat} : ∀ r, 0 ≤ cyN g x L e r ∧ cyN g x L e r ≤ r
  | 0 => ⟨Int.le_refl _, Int.le_refl _⟩
  | r + 1 => by
    have := cyN_b (g := g) (x := x) (L := L) (e := e) r
    unfold cyN
    split <;> omega
theorem cxN_b {g : Grp} {K L : List Nat} {e : Nat} (h : L.length ≤ 6) : ∀ q, 0 ≤ cxN g K L e q ∧ cxN g K L e q ≤ q * 6
  | 0 => ⟨Int.le_refl _, Int.le_refl _⟩
  | q + 1 => by
    have := cxN_b (g := g) (K := K) (L := L) (e := e) h q
    have := cyN_b (g := g) (x := K.getD q 0) (L := L) (e := e) L.length
    unfold cxN
    omega
def ctE (p : Int) (g : Grp) (a b c : Nat) : Int := cxN g (cS g a) (cS g b) ((cS g c).getD 0 0) (cS g a).length % p
def ctT (p : Int) (g : Grp) (i j k : Nat) : Nat → Nat → Nat → Int := fun a b c => if (a < i ∨ (a = i ∧ (b < j ∨ (b = j ∧ c < k)))) ∧ b < (clsS g).length ∧ c < (clsS g).length then ctE p g a b c else 0
theorem ctT_0 {p : Int} {g : Grp} : ctT p g 0 0 0 = fun _ _ _ => 0 := by
  funext a b c
  unfold ctT
  rw [if_neg (by omega)]
theorem ctT_s {p : Int} {g : Grp} {i j k : Nat} (hj : j < (clsS g).length) (hk : k < (clsS g).length) : updT (ctT p g i j k) i j k (ctE p g i j k) = ctT p g i j (k + 1) := by
  funext a b c
  unfold updT ctT
  by_cases e : a = i ∧ b = j ∧ c = k
  · obtain ⟨rfl, rfl, rfl⟩ := e
    rw [if_pos ⟨rfl, rfl, rfl⟩, if_pos ⟨by omega, hj, hk⟩]
  · rw [if_neg e]
    by_cases e3 : (a < i ∨ (a = i ∧ (b < j ∨ (b = j ∧ c < k)))) ∧ b < (clsS g).length ∧ c < (clsS g).length
    · rw [if_pos e3, if_pos ⟨by omega, e3.2⟩]
    · rw [if_neg e3, if_neg (fun h => e3 ⟨by omega, h.2⟩)]
theorem ctT_r {p : Int} {g : Grp} {i j : Nat} : ctT p g i j (clsS g).length = ctT p g i (j + 1) 0 := by
  funext a b c
  unfold ctT
  by_cases e3 : (a < i ∨ (a = i ∧ (b < j ∨ (b = j ∧ c < (clsS g).length)))) ∧ b < (clsS g).length ∧ c < (clsS g).length
  · rw [if_pos e3, if_pos ⟨by omega, e3.2⟩]
  · rw [if_neg e3, if_neg (fun h => e3 ⟨by omega, h.2⟩)]
theorem ctT_q {p : Int} {g : Grp} {i : Nat} : ctT p g i (clsS g).length 0 = ctT p g (i + 1) 0 0 := by
  funext a b c
  unfold ctT
  by_cases e3 : (a < i ∨ (a = i ∧ (b < (clsS g).length ∨ (b = (clsS g).length ∧ c < 0)))) ∧ b < (clsS g).length ∧ c < (clsS g).length
  · rw [if_pos e3, if_pos ⟨by omega, e3.2⟩]
  · rw [if_neg e3, if_neg (fun h => e3 ⟨by omega, h.2⟩)]
def ctF (p : Int) (g : Grp) (f : Nat → Int) (i j k : Nat) : Alg := ⟨p, (clsS g).length, ctT p g i j k, f⟩
def ctA (p : Int) (g : Grp) : Alg := ctF p g oneV (clsS g).length 0 0
theorem clsS_len (g : Grp) : (clsS g).length ≤ g.n.toNat := by
  unfold clsS
  rw [List.length_map]
  have := List.length_filter_le (repB g) (List.range g.n.toNat)
  rw [List.length_range] at this; exact this
theorem cS_mem {g : Grp} {q : Nat} (h : q < (clsS g).length) : ∃ i, i < g.n.toNat ∧ cS g q = clsL g i := by
  have hm : cS g q ∈ clsS g := by
    unfold cS
    rw [List.getD_eq_getElem?_getD, List.getElem?_eq_getElem h]; exact List.getElem_mem h
  obtain ⟨i, hi, e⟩ := List.mem_map.1 hm
  exact ⟨i, List.mem_range.1 (List.mem_filter.1 hi).1, e.symm⟩
theorem cS_lt {g : Grp} {q : Nat} (h : q < (clsS g).length) : ∀ x ∈ cS g q, x < g.n.toNat := by
  obtain ⟨i, hi, e⟩ := cS_mem h
  rw [e]
  exact fun x hx => List.mem_range.1 (List.mem_filter.1 hx).1
theorem cS_len {g : Grp} (hb : GrpB g) (hg : GP g) {q : Nat} (h : q < (clsS g).length) : 0 < (cS g q).length ∧ (cS g q).length ≤ 6 := by
  obtain ⟨i, hi, e⟩ := cS_mem h
  rw [e]
  refine ⟨(cls_head hb hg hi).2, ?_⟩
  have h1 := List.length_filter_le (clsB g i) (List.range g.n.toNat)
  rw [List.length_range] at h1
  have := hg.1
  show ((List.range g.n.toNat).filter (clsB g i)).length ≤ 6
  omega
theorem cS_at {g : Grp} {q r : Nat} (h : q < (clsS g).length) (hr : r < (cS g q).length) : (cS g q).getD r 0 < g.n.toNat := by
  refine cS_lt h _ ?_
  rw [List.getD_eq_getElem?_getD, List.getElem?_eq_getElem hr]; exact List.getElem_mem hr
theorem clD_len (g : Grp) : (clD g).length = (clsS g).length := List.length_map ..
theorem get2_clD {g : Grp} {q : Nat} (h : q < (clsS g).length) : get2 (clD g) ((q : Nat) : Int).toNat 0 = some (.lst 1 (iN (cS g q))) := by
  have e : (clsS g)[q]? = some (cS g q) := by unfold cS; rw [List.getD_eq_getElem?_getD, List.getElem?_eq_getElem h]; rfl
  unfold get2 clD
  rw [Int.toNat_natCast, List.getElem?_map, e]
  rfl
def C_built (P : Program) (N : FN) : Prop := ∀ {sz : Nat} {l : List (List D)} {e off : Nat} {g : Grp} {p : Int}, GrpAt l e off g → GrpB g → GP g → Can P N.impl_built [.int .i64 p, .int .i64 g.n, vecD oneV, .fn N.impl_Group_times [.pd sz l e off] []] (.val (algD (gaA p g)))
def C_gAlg (P : Program) (N : FN) : Prop := ∀ {sz : Nat} {l : List (List D)} {e off : Nat} {g : Grp} {p : Int}, GrpAt l e off g → GrpB g → GP g → Can P N.impl_Group_algebra [.pd sz l e off, .int .i64 p] (.val (algD (gaA p g)))
def C_sAlgG (P : Program) (N : FN) : Prop := ∀ {g : Grp} {p : Int}, GrpB g → GP g → Can P N.spec_l06Algebra [.int .i64 p, grpD g] (.val (algD (gaA p g)))
def C_gClsAlg (P : Program) (N : FN) : Prop := ∀ {sz : Nat} {l : List (List D)} {e off : Nat} {g : Grp} {p : Int}, GrpAt l e off g → GrpB g → GP g → p ∈ primes → Can P N.impl_Group_classAlgebra [.pd sz l e off, .int .i64 p] (.val (algD (ctA p g)))
def C_sClsAlg (P : Program) (N : FN) : Prop := ∀ {g : Grp} {p : Int}, GrpB g → GP g → p ∈ primes → Can P N.spec_l06ClassAlgebra [.int .i64 p, grpD g] (.val (algD (ctA p g)))
end Go.X
