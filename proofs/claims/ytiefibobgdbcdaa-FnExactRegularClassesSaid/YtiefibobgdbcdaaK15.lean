import Derived.Test.YtiefibobgdbcdaaK14
import Derived.Test.YtiefibobgdbcdaaK1
set_option linter.all false
namespace Go.X
open Go Go.RowKit
def cS (g : Grp) (q : Nat) : List Nat := (clsS g).getD q []
theorem clsS_len (g : Grp) : (clsS g).length ≤ g.n.toNat := by
  unfold clsS
  rw [List.length_map]
  have := List.length_filter_le (repB g) (List.range g.n.toNat)
  rw [List.length_range] at this; exact this
theorem cS_mem {g : Grp} {q : Nat} (h : q < (clsS g).length) : ∃ i, i < g.n.toNat ∧ cS g q = clsL g i := by
  have hm : cS g q ∈ clsS g := by
    unfold cS
    rw [List.getD_eq_getElem?_getD, List.getElem?_eq_getElem h]; exact List.getElem_mem h
  obtain ⟨i, hi, e⟩ := List.mem_map.1 hm
  exact ⟨i, List.mem_range.1 (List.mem_filter.1 hi).1, e.symm⟩
theorem cS_lt {g : Grp} {q : Nat} (h : q < (clsS g).length) : ∀ x ∈ cS g q, x < g.n.toNat := by
  obtain ⟨i, hi, e⟩ := cS_mem h
  rw [e]
  exact fun x hx => List.mem_range.1 (List.mem_filter.1 hx).1
theorem cS_len {g : Grp} (hb : GrpB g) (hg : GP g) {q : Nat} (h : q < (clsS g).length) : 0 < (cS g q).length ∧ (cS g q).length ≤ 6 := by
  obtain ⟨i, hi, e⟩ := cS_mem h
  rw [e]
  refine ⟨(cls_head hb hg hi).2, ?_⟩
  have h1 := List.length_filter_le (clsB g i) (List.range g.n.toNat)
  rw [List.length_range] at h1
  have := hg.1
  show ((List.range g.n.toNat).filter (clsB g i)).length ≤ 6
  omega
theorem cS_at {g : Grp} {q r : Nat} (h : q < (clsS g).length) (hr : r < (cS g q).length) : (cS g q).getD r 0 < g.n.toNat := by
  refine cS_lt h _ ?_
  rw [List.getD_eq_getElem?_getD, List.getElem?_eq_getElem hr]; exact List.getElem_mem hr
theorem clD_len (g : Grp) : (clD g).length = (clsS g).length := List.length_map ..
theorem get2_clD {g : Grp} {q : Nat} (h : q < (clsS g).length) : get2 (clD g) ((q : Nat) : Int).toNat 0 = some (.lst 1 (iN (cS g q))) := by
  have e : (clsS g)[q]? = some (cS g q) := by unfold cS; rw [List.getD_eq_getElem?_getD, List.getElem?_eq_getElem h]; rfl
  unfold get2 clD
  rw [Int.toNat_natCast, List.getElem?_map, e]
  rfl
end Go.X
