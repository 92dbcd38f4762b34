import Derived.Test.YtiefibobgdbcdaaDoorK14
import Derived.Shelf.Strings.OnBuilder
set_option linter.all false
namespace Go.X
open Go Go.RowKit Go.Shelf Go.Proofs
set_option maxRecDepth 100000
def JoinAt (P : Program) (f : FuncId) : Prop := ∃ ρ : Ren, Lays.n156 P ρ ∧ Builder.Extra P ρ ∧ ρ.f 156 = f
section
variable {P : Program} {N : FN}
theorem joinAt_plain {f : FuncId} (h : JoinAt P f) : Plain P f := by
  obtain ⟨ρ, L, _, rfl⟩ := h
  exact ⟨_, L.f156, by kernel_rfl, by kernel_rfl⟩
theorem sees_strs {W : World} {F : Nat → Prop} {xs : List ByteArray} {v : Value} (h : Sees W F (.lst 1 (strsL xs)) v) :
    (xs = [] ∧ ∃ a cap, v = .slice a 0 cap) ∨ ∃ k off cap, v = .slice (some ⟨k, off, none⟩) xs.length cap ∧ xs.length ≤ cap ∧ F k ∧ ∀ (j : Nat) x, xs[j]? = some x → W.cell? ⟨k, off + j, none⟩ = some (.string x) := by
  obtain ⟨l, hl⟩ : ∃ l, l = strsL xs := ⟨_, rfl⟩
  rw [← hl] at h
  cases h with
  | lnil _ a cap =>
    refine .inl ⟨?_, a, cap, rfl⟩
    have := congrArg List.length hl
    rw [strs_len] at this
    exact List.length_eq_zero_iff.1 this.symm
  | lst vals hF hb hcap hc hs =>
    rename_i k off cap c T fz
    subst hl
    rw [strs_len] at hcap ⊢
    refine .inr ⟨k, off, cap, rfl, hcap, hF, fun j x hx => ?_⟩
    have e0 : (strsL xs)[j]? = some [.str x] := by unfold strsL; rw [List.getElem?_map, hx]; rfl
    obtain ⟨_, h2⟩ := hc j _ e0
    obtain ⟨h3, h4⟩ := h2 0 (by omega)
    have h5 := hs j _ 0 _ e0 rfl
    have e : vals j 0 = .string x := by generalize vals j 0 = z at h5; cases h5; rfl
    rw [e, Nat.mul_one, Nat.add_zero] at h3
    rw [cell_of_row W k _ c T fz hb]
    exact h3
theorem c_Join (h : JoinAt P N.strings_Join) : C_Join P N := by
  intro xs h1 h2
  have hp := joinAt_plain h
  obtain ⟨ρ, L, X, he⟩ := h
  refine CanD.can ⟨⟨_, hp.choose_spec.1⟩, fun W F vs hF hl hs => hp.goes ?_⟩ rfl
  obtain ⟨x, y, rfl⟩ : ∃ x y, vs = #[x, y] := by
    obtain ⟨l⟩ := vs
    match l, hl with
    | [x, y], _ => exact ⟨x, y, rfl⟩
  have hy := hs 1 _ y rfl rfl
  obtain rfl : y = .string comma := by cases hy; rfl
  rw [← he]
  have fin : ∀ {e : Ending} {w' : World}, e = .returned (.string (joinB xs)) ∧ Below W.heap.size W w' → ∃ v, e = .returned v ∧ Below W.heap.size W w' ∧ ResAt W w' F (.val (.str (joinB xs))) v := fun ⟨e1, e2⟩ => ⟨_, e1, e2, F, fun _ h => .inl h, .str _⟩
  rcases sees_strs (hs 0 _ x rfl rfl) with ⟨rfl, a, cap, rfl⟩ | ⟨k, off, cap, rfl, hcap, hFk, hcells⟩
  · refine (Any.strings_Join_none L X a cap comma W).mono fun e w' ⟨e1, e2⟩ => fin ⟨e1, ?_⟩
    rw [e2]; exact Below.refl _ _
  · refine (Any.strings_Join L X k off cap xs comma W hcells (hF k hFk) (by omega) hcap ?_).mono fun e w' h => fin h
    have : (joinB xs).size = (Lib.join (xs.map (·.data.toList)) comma.data.toList).length := by
      show (Lib.join (xs.map (·.data.toList)) comma.data.toList).toArray.size = _
      simp
    omega
end
end Go.X
