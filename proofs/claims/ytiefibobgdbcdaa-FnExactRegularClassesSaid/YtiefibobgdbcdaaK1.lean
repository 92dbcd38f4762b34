import Derived.Test.YtiefibobgdbcdaaM1
set_option linter.all false
namespace Go.X
open Go Go.RowKit
def grpZ : List D := .int .i64 0 :: List.replicate 36 (.int .u8 0)
theorem grpZ_len : grpZ.length = 37 := by unfold grpZ; rw [List.length_cons, List.length_replicate]
end Go.X
namespace Go.X
open Go Go.RowKit
theorem asc_unique : ∀ {L M : List Int}, L.Pairwise (· < ·) → M.Pairwise (· < ·) → (∀ x, x ∈ L ↔ x ∈ M) → L = M
  | [], [], _, _, _ => rfl
  | [], y :: M, _, _, h => absurd ((h y).2 (List.mem_cons_self ..)) (by simp)
  | x :: L, [], _, _, h => absurd ((h x).1 (List.mem_cons_self ..)) (by simp)
  | x :: L, y :: M, hL, hM, h => by
    rw [List.pairwise_cons] at hL hM
    have hxy : x = y := by
      rcases Int.lt_trichotomy x y with c | c | c
      · rcases List.mem_cons.1 ((h x).1 (List.mem_cons_self ..)) with e | e
        · exact e
        · have := hM.1 x e; omega
      · exact c
      · rcases List.mem_cons.1 ((h y).2 (List.mem_cons_self ..)) with e | e
        · exact e.symm
        · have := hL.1 y e; omega
    subst hxy
    rw [asc_unique hL.2 hM.2 fun z => ?_]
    refine ⟨fun hz => ?_, fun hz => ?_⟩
    · rcases List.mem_cons.1 ((h z).1 (List.mem_cons_of_mem _ hz)) with e | e
      · subst e; have := hL.1 z hz; omega
      · exact e
    · rcases List.mem_cons.1 ((h z).2 (List.mem_cons_of_mem _ hz)) with e | e
      · subst e; have := hM.1 z hz; omega
      · exact e
def insI (v : Int) : List Int → List Int
  | [] => [v]
  | x :: r => if v < x then v :: x :: r else x :: insI v r
def sortI (L : List Int) : List Int := L.foldl (fun S v => insI v S) []
theorem insI_mem {v x : Int} : ∀ {S : List Int}, x ∈ insI v S ↔ x = v ∨ x ∈ S
  | [] => by simp [insI]
  | y :: r => by
    unfold insI
    split
    · rw [List.mem_cons]
    · rw [List.mem_cons, insI_mem (S := r), List.mem_cons]
      constructor
      · rintro (h | h | h)
        · exact .inr (.inl h)
        · exact .inl h
        · exact .inr (.inr h)
      · rintro (h | h | h)
        · exact .inr (.inl h)
        · exact .inl h
        · exact .inr (.inr h)
theorem insI_len (v : Int) : ∀ S : List Int, (insI v S).length = S.length + 1
  | [] => rfl
  | y :: r => by
    unfold insI
    split
    · rfl
    · rw [List.length_cons, insI_len v r, List.length_cons]
theorem insI_asc {v : Int} : ∀ {S : List Int}, S.Pairwise (· ≤ ·) → (insI v S).Pairwise (· ≤ ·)
  | [], _ => by simp [insI]
  | y :: r, h => by
    rw [List.pairwise_cons] at h
    unfold insI
    split
    · rename_i c
      rw [List.pairwise_cons, List.pairwise_cons]
      refine ⟨fun z hz => ?_, h⟩
      rcases List.mem_cons.1 hz with e | e
      · subst e; omega
      · have := h.1 z e; omega
    · rename_i c
      rw [List.pairwise_cons]
      refine ⟨fun z hz => ?_, insI_asc h.2⟩
      rcases insI_mem.1 hz with e | e
      · subst e; omega
      · exact h.1 z e
theorem sortI_facts : ∀ (L S : List Int), S.Pairwise (· ≤ ·) → (L.foldl (fun S v => insI v S) S).Pairwise (· ≤ ·) ∧ (L.foldl (fun S v => insI v S) S).length = S.length + L.length ∧ ∀ x, x ∈ L.foldl (fun S v => insI v S) S ↔ x ∈ L ∨ x ∈ S
  | [], S, h => ⟨h, rfl, fun x => by simp⟩
  | v :: r, S, h => by
    obtain ⟨h1, h2, h3⟩ := sortI_facts r (insI v S) (insI_asc h)
    refine ⟨h1, by rw [List.foldl_cons, h2, insI_len, List.length_cons]; omega, fun x => ?_⟩
    rw [List.foldl_cons, h3, insI_mem, List.mem_cons]
    constructor
    · rintro (h | h | h)
      · exact .inl (.inr h)
      · exact .inl (.inl h)
      · exact .inr h
    · rintro ((h | h) | h)
      · exact .inr (.inl h)
      · exact .inl h
      · exact .inr (.inr h)
theorem sortI_snoc (L : List Int) (v : Int) : sortI (L ++ [v]) = insI v (sortI L) := by unfold sortI; rw [List.foldl_append]; rfl
theorem sortI_asc (L : List Int) : (sortI L).Pairwise (· ≤ ·) := (sortI_facts L [] List.Pairwise.nil).1
theorem sortI_len (L : List Int) : (sortI L).length = L.length := by have := (sortI_facts L [] List.Pairwise.nil).2.1; simpa [sortI] using this
theorem sortI_mem (L : List Int) (x : Int) : x ∈ sortI L ↔ x ∈ L := by have := (sortI_facts L [] List.Pairwise.nil).2.2 x; simpa [sortI] using this
def compI : List Int → List Int
  | [] => []
  | [x] => [x]
  | x :: y :: r => if x = y then compI (y :: r) else x :: compI (y :: r)
theorem compI_mem : ∀ {L : List Int} {x : Int}, x ∈ compI L ↔ x ∈ L
  | [], x => Iff.rfl
  | [y], x => Iff.rfl
  | y :: z :: r, x => by
    unfold compI
    split
    · rename_i e
      subst e
      rw [compI_mem (L := y :: r), List.mem_cons (b := y) (l := y :: r)]
      exact ⟨.inr, fun h => h.elim (fun e => by rw [e]; exact List.mem_cons_self ..) id⟩
    · rw [List.mem_cons, compI_mem (L := z :: r), List.mem_cons (b := y)]
theorem compI_asc : ∀ {L : List Int}, L.Pairwise (· ≤ ·) → (compI L).Pairwise (· < ·)
  | [], _ => List.Pairwise.nil
  | [y], _ => List.pairwise_singleton ..
  | y :: z :: r, h => by
    have h2 := List.pairwise_cons.1 h
    unfold compI
    split
    · exact compI_asc h2.2
    · rename_i c
      rw [List.pairwise_cons]
      refine ⟨fun w hw => ?_, compI_asc h2.2⟩
      have hw2 := compI_mem.1 hw
      have h3 := h2.1 z (List.mem_cons_self ..)
      rcases List.mem_cons.1 hw2 with e | e
      · subst e; omega
      · have := (List.pairwise_cons.1 h2.2).1 w e
        omega
end Go.X
namespace Go.X
open Go Go.RowKit
end Go.X
namespace Go.X
open Go Go.RowKit
end Go.X
