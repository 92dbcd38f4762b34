import Derived.Test.YtmbocpoebbijmaaK14
import Derived.Test.YtmbocpoebbijmaaK13
set_option linter.all false
namespace Go.X
open Go Go.RowKit
def iL (L : List Int) : List (List D) := L.map fun x => [.int .i64 x]
theorem iL_len (L : List Int) : (iL L).length = L.length := List.length_map ..
theorem iL_app (L : List Int) (x : Int) : iL L ++ [[.int .i64 x]] = iL (L ++ [x]) := by unfold iL; rw [List.map_append]; rfl
theorem get_iL {L : List Int} {i : Nat} {v : Int} (h : i < L.length) (hv : L.getD i 0 = v) : (iL L)[((i : Nat) : Int).toNat]? = some [.int .i64 v] := by
  have e : L[i]? = some v := by rw [← hv, List.getD_eq_getElem?_getD, List.getElem?_eq_getElem h]; rfl
  unfold iL
  rw [Int.toNat_natCast, List.getElem?_map, e]
  rfl
theorem get2_iL {L : List Int} {i : Nat} {v : Int} (h : i < L.length) (hv : L.getD i 0 = v) : get2 (iL L) ((i : Nat) : Int).toNat 0 = some (.int .i64 v) := by
  unfold get2
  rw [get_iL h hv]; rfl
theorem get2_iLp {L : List Int} {i : Nat} {v : Int} (h : i < L.length) (hv : L.getD i 0 = v) : get2 (iL L) (((i + 1 : Nat) : Int) - 1).toNat 0 = some (.int .i64 v) := by
  rw [show (((i + 1 : Nat) : Int) - 1) = ((i : Nat) : Int) by omega]
  exact get2_iL h hv
theorem iL_set {L : List Int} {i : Nat} {r : List D} {x : Int} (h : r.length = 1) : (iL L).set ((i : Nat) : Int).toNat (r.set 0 (.int .i64 x)) = iL (L.set i x) := by
  match r, h with
  | [y], _ =>
    unfold iL
    rw [Int.toNat_natCast, List.map_set]; rfl
def midI (S : List Int) (v : Int) (R : List Int) (j : Nat) : List Int := S.take j ++ v :: (S.drop j ++ R)
theorem gI_left {A B : List Int} {i : Nat} (h : i < A.length) : (A ++ B).getD i 0 = A.getD i 0 := by
  rw [List.getD_eq_getElem?_getD, List.getD_eq_getElem?_getD, List.getElem?_append_left h]
theorem gI_right {A B : List Int} {i : Nat} (h : A.length ≤ i) : (A ++ B).getD i 0 = B.getD (i - A.length) 0 := by
  rw [List.getD_eq_getElem?_getD, List.getD_eq_getElem?_getD, List.getElem?_append_right h]
theorem gI_take {A : List Int} {i j : Nat} (h : i < j) : (A.take j).getD i 0 = A.getD i 0 := by
  rw [List.getD_eq_getElem?_getD, List.getD_eq_getElem?_getD, List.getElem?_take, if_pos h]
theorem gI_drop {A : List Int} {i j : Nat} : (A.drop j).getD i 0 = A.getD (j + i) 0 := by
  rw [List.getD_eq_getElem?_getD, List.getD_eq_getElem?_getD, List.getElem?_drop]
theorem dropI {L : List Int} {j : Nat} (h : j < L.length) : L.drop j = L.getD j 0 :: L.drop (j + 1) := by
  rw [List.drop_eq_getElem_cons h, List.getD_eq_getElem?_getD, List.getElem?_eq_getElem h]; rfl
theorem takeI {L : List Int} {j : Nat} (h : j < L.length) : L.take (j + 1) = L.take j ++ [L.getD j 0] := by
  rw [List.take_add_one, List.getD_eq_getElem?_getD, List.getElem?_eq_getElem h]; rfl
theorem midI_len {S : List Int} {v : Int} {R : List Int} {j : Nat} (h : j ≤ S.length) : (midI S v R j).length = S.length + 1 + R.length := by
  unfold midI
  rw [List.length_append, List.length_cons, List.length_append, List.length_take, List.length_drop]; omega
theorem midI_at {S : List Int} {v : Int} {R : List Int} {j : Nat} (h : j ≤ S.length) : (midI S v R j).getD j 0 = v := by
  unfold midI
  rw [gI_right (by rw [List.length_take]; omega), List.length_take, show j - min j S.length = 0 by omega]; rfl
theorem midI_be {S : List Int} {v : Int} {R : List Int} {j : Nat} (h : j + 1 ≤ S.length) : (midI S v R (j + 1)).getD j 0 = S.getD j 0 := by
  unfold midI
  rw [gI_left (by rw [List.length_take]; omega), gI_take (by omega)]
theorem midI_swap {S : List Int} {v : Int} {R : List Int} {j : Nat} (h : j + 1 ≤ S.length) : ((midI S v R (j + 1)).set (j + 1) (S.getD j 0)).set j v = midI S v R j := by
  have e : S.drop j = S.getD j 0 :: S.drop (j + 1) := dropI (by omega)
  have e2 : S.take (j + 1) = S.take j ++ [S.getD j 0] := takeI (by omega)
  have hl : (S.take j).length = j := by rw [List.length_take]; omega
  unfold midI
  rw [e2, e, List.append_assoc]
  have s1 : (S.take j ++ ([S.getD j 0] ++ v :: (S.drop (j + 1) ++ R))).set (j + 1) (S.getD j 0) = S.take j ++ (S.getD j 0 :: S.getD j 0 :: (S.drop (j + 1) ++ R)) := by
    rw [List.set_append_right _ _ (by omega), hl, show j + 1 - j = 1 by omega]; rfl
  rw [s1, List.set_append_right _ _ (by omega), hl, Nat.sub_self]; rfl
theorem midI_end {S : List Int} {v : Int} {R : List Int} {j : Nat} (h : j = S.length) : midI S v R j = S ++ v :: R := by
  subst h
  unfold midI
  rw [List.take_length, List.drop_length]; rfl
theorem insI_mid {v : Int} {R : List Int} : ∀ {S : List Int} {j : Nat}, j ≤ S.length → (∀ k, k < j → S.getD k 0 ≤ v) → (j < S.length → v < S.getD j 0) → insI v S ++ R = midI S v R j
  | [], 0, _, _, _ => rfl
  | x :: r, 0, _, _, h => by
    have : v < x := h (by simp)
    unfold insI midI
    rw [if_pos this]; rfl
  | x :: r, j + 1, h1, h2, h3 => by
    have h4 : x ≤ v := h2 0 (by omega)
    have ih := insI_mid (v := v) (R := R) (S := r) (j := j) (by simp at h1; omega) (fun k hk => h2 (k + 1) (by omega)) (fun hj => h3 (by simp; omega))
    unfold insI
    rw [if_neg (by omega), List.cons_append, ih]
    rfl
theorem ascI_le {S : List Int} (h : S.Pairwise (· ≤ ·)) {a b : Nat} (hab : a ≤ b) (hb : b < S.length) : S.getD a 0 ≤ S.getD b 0 := by
  rcases Nat.lt_or_ge a b with c | c
  · have := (List.pairwise_iff_getElem.1 h) a b (by omega) hb c
    rw [List.getD_eq_getElem?_getD, List.getElem?_eq_getElem (by omega), List.getD_eq_getElem?_getD, List.getElem?_eq_getElem hb]
    exact this
  · rw [show a = b by omega]; exact Int.le_refl _
theorem compI_2 {A : List Int} {x y : Int} : compI (A ++ [x, y]) = if y = x then compI (A ++ [x]) else compI (A ++ [x]) ++ [y] := by
  induction A with
  | nil =>
    show (if x = y then compI [y] else x :: compI [y]) = _
    by_cases h : x = y
    · rw [if_pos h, if_pos h.symm, h]; rfl
    · rw [if_neg h, if_neg (fun e => h e.symm)]; rfl
  | cons a A ih =>
    match A, ih with
    | [], ih =>
      show (if a = x then compI [x, y] else a :: compI [x, y]) = if y = x then (if a = x then compI [x] else a :: compI [x]) else (if a = x then compI [x] else a :: compI [x]) ++ [y]
      have ih : compI [x, y] = if y = x then compI [x] else compI [x] ++ [y] := ih
      rw [ih]
      split <;> split <;> rfl
    | b :: r, ih =>
      show (if a = b then compI (b :: (r ++ [x, y])) else a :: compI (b :: (r ++ [x, y]))) = if y = x then (if a = b then compI (b :: (r ++ [x])) else a :: compI (b :: (r ++ [x]))) else (if a = b then compI (b :: (r ++ [x])) else a :: compI (b :: (r ++ [x]))) ++ [y]
      have ih : compI (b :: (r ++ [x, y])) = if y = x then compI (b :: (r ++ [x])) else compI (b :: (r ++ [x])) ++ [y] := ih
      rw [ih]
      split <;> split <;> rfl
theorem compI_take {L : List Int} {m : Nat} (h : m + 1 < L.length) : compI (L.take (m + 2)) = if L.getD (m + 1) 0 = L.getD m 0 then compI (L.take (m + 1)) else compI (L.take (m + 1)) ++ [L.getD (m + 1) 0] := by
  rw [takeI (j := m + 1) h, takeI (j := m) (by omega), List.append_assoc]
  exact compI_2
theorem compI_len : ∀ L : List Int, (compI L).length ≤ L.length
  | [] => Nat.le_refl _
  | [_] => Nat.le_refl _
  | x :: y :: r => by
    unfold compI
    have := compI_len (y :: r)
    split
    · simp only [List.length_cons] at this ⊢; omega
    · simp only [List.length_cons] at this ⊢; omega
theorem compI_one {L : List Int} (h : L.length ≤ 1) : compI L = L := by
  match L, h with
  | [], _ => rfl
  | [x], _ => rfl
theorem set_end {C : List Int} {L : List Int} {x : Int} (h : C.length < L.length) : (C ++ L.drop C.length).set C.length x = (C ++ [x]) ++ L.drop (C.length + 1) := by
  rw [List.set_append_right _ _ (Nat.le_refl _), Nat.sub_self, dropI h, List.append_assoc]; rfl
def C_nan (P : Program) (N : FN) : Prop := ∀ {x : Int}, Can P N.cmp_isNaN_int64 [.int .i64 x] (.val (.bool false))
def C_less (P : Program) (N : FN) : Prop := ∀ {x y : Int}, Can P N.cmp_Less_int64 [.int .i64 x, .int .i64 y] (.val (.bool (decide (x < y))))
def C_insI (P : Program) (N : FN) : Prop := ∀ {L : List Int}, L.length ≤ 12 → Can P N.slices_insertionSortOrdered_int64 [.ownA 1 (iL L), .int .i64 0, .int .i64 L.length] (.post (some (iL (sortI L))) (.tup []))
def C_pdqI (P : Program) (N : FN) : Prop := ∀ {L : List Int} {k : Int}, L.length ≤ 12 → Can P N.slices_pdqsortOrdered_int64 [.ownA 1 (iL L), .int .i64 0, .int .i64 L.length, .int .i64 k] (.post (some (iL (sortI L))) (.tup []))
def C_SortI (P : Program) (N : FN) : Prop := ∀ {L : List Int}, L.length ≤ 12 → Can P N.slices_Sort_Lint64_int64 [.ownA 1 (iL L)] (.post (some (iL (sortI L))) (.tup []))
def C_CompI (P : Program) (N : FN) : Prop := ∀ {L : List Int}, L.length ≤ 12 → Can P N.slices_Compact_Lint64_int64 [.ownA 1 (iL L)] (.post none (.own 1 (iL (compI L))))
def iN (L : List Nat) : List (List D) := L.map fun x => [.int .i64 ((x : Nat) : Int)]
def clD (g : Grp) : List (List D) := (clsS g).map fun c => [.lst 1 (iN c)]
def C_classOf (P : Program) (N : FN) : Prop := ∀ {sz : Nat} {l : List (List D)} {e off : Nat} {g : Grp} {i : Nat}, GrpAt l e off g → GrpB g → GP g → i < g.n.toNat → Can P N.impl_Group_classOf [.pd sz l e off, .int .i64 i] (.own 1 (iN (clsL g i)))
def C_classes (P : Program) (N : FN) : Prop := ∀ {sz : Nat} {l : List (List D)} {e off : Nat} {g : Grp}, GrpAt l e off g → GrpB g → GP g → Can P N.impl_Group_classes [.pd sz l e off] (.own 1 (clD g))
def C_sInvG (P : Program) (N : FN) : Prop := ∀ {g : Grp} {i : Nat}, GrpB g → GP g → i < g.n.toNat → Can P N.spec_l06Inverse [grpD g, .int .i64 i] (.val (.int .i64 (invN g i)))
def mulL (g : Grp) (L : List Nat) : Nat := L.foldl (mN g) 0
def C_sTimesG (P : Program) (N : FN) : Prop := ∀ {g : Grp} {L : List Nat}, GrpB g → GP g → L.length ≤ 3 → (∀ x ∈ L, x < g.n.toNat) → Can P N.spec_l06Times [grpD g, .lst 1 (iN L)] (.val (.int .i64 (mulL g L)))
def C_sClasses (P : Program) (N : FN) : Prop := ∀ {g : Grp}, GrpB g → GP g → Can P N.spec_l06Classes [grpD g] (.own 1 (clD g))
def codG (x y : Bool) : Int := if x then (if y then 0 else 2) else 1
def C_primed (P : Program) (N : FN) : Prop := ∀ {g : Grp} {p : Int}, GrpB g → Can P N.impl_primed [.int .i64 p, grpD g] (.val (.int .i64 (codG (dB (GP g)) (decide (p ∈ primes)))))
def C_sCodeG (P : Program) (N : FN) : Prop := ∀ {g : Grp} {p : Int}, GrpB g → Can P N.spec_l06Code [.int .i64 p, grpD g] (.val (.int .i64 (codG (dB (GP g)) (decide (p ∈ primes)))))
end Go.X
