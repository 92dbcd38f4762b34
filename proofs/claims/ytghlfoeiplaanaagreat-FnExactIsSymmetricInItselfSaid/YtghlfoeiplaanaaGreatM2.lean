import Derived.Test.YtghlfoeiplaanaaGreatM1
set_option linter.all false
namespace Go.X
open Go Go.RowKit
theorem sz_ {p : Prop} (h : p := by first | omega | assumption | (simp only [List.length_take, List.length_drop, cel_len, row_len, rowsL_len, mapN_len, arr_len, List.length_append, List.length_cons, List.length_nil, List.length_map, List.length_replicate, maxRow]; omega)) : p := h
theorem om_ {p : Prop} (h : p := by omega) : p := h
theorem sd_ {p : Prop} (h : p := by first
  | exact rfl | omega | assumption
  | (and_intros <;> first | exact rfl | omega | decide | (simp only [List.length_take, List.length_drop, cel_len, row_len, rowsL_len, mapN_len, arr_len, List.length_append, List.length_cons, List.length_nil, List.length_map, List.length_replicate, maxRow]; omega))
  | (simp only [List.length_take, List.length_drop, cel_len, row_len, rowsL_len, mapN_len, arr_len, List.length_append, List.length_cons, List.length_nil, List.length_map, List.length_replicate, maxRow]; omega)
  | (simp only [List.length_take, List.length_drop, cel_len, row_len, rowsL_len, mapN_len, arr_len, List.length_append, List.length_cons, List.length_nil, List.length_map, List.length_replicate, maxRow]; done)
  | exact ⟨rfl, rfl, rfl, by (simp only [List.length_take, List.length_drop, cel_len, row_len, rowsL_len, mapN_len, arr_len, List.length_append, List.length_cons, List.length_nil, List.length_map, List.length_replicate, maxRow]; omega), fun p hp => by cases hp; rfl⟩
  | decide | exact Nat.lt_of_lt_of_eq (m := 6) (by omega) rfl | exact .inl rfl | exact .inr flat_row | exact .inr (flat2 (flat_cel _ _ _) (.bool _)) | exact .inr (.int _ _) | exact .inr (.bool _) | exact .inr (flat_cel _ _ _) | exact st_prog rfl | exact row_app rfl
  | (refine congrArg (fun x => AV.d (D.int .i64 x)) ?_; first | omega | (simp only [List.length_take, List.length_drop, cel_len, row_len, rowsL_len, mapN_len, arr_len, List.length_append, List.length_cons, List.length_nil, List.length_map, List.length_replicate, maxRow]; omega))
  | exact rowsL_app) : p := h
theorem rd1_ {p : Prop} (h : p := by with_reducible first
  | exact rfl | exact rd_celP (by omega) | exact rd_cel (by omega) | exact rd_idx (by omega) | exact rd_all | exact rd_stall rfl | exact rd_rowP (by omega) | exact rd_row (by omega) | exact get_rowsN (by omega) | exact get_rows (by omega) | exact get_row (by omega) | exact rd_rowsN (by omega) | exact rd_rows (by omega)
  | exact AlgAt.p ‹_› | exact AlgAt.n ‹_› | exact AlgAt.T ‹_› (by omega) (by omega) (by omega) | exact AlgAt.f ‹_› (by omega) | exact AlgAt.vecT ‹_› (by omega) (by omega) | exact AlgAt.vecf ‹_› | exact AlgAt.p (algAt_one _) | exact AlgAt.n (algAt_one _) | exact AlgAt.T (algAt_one _) (by omega) (by omega) (by omega) | exact AlgAt.f (algAt_one _) (by omega) | exact (algAt_one _).all | exact AlgAt.vecT (algAt_one _) (by omega) (by omega) | exact AlgAt.vecf (algAt_one _)) : p := h
theorem rd_ {p : Prop} (h : p := by first
  | exact rd1_
  | exact rd_celP (by omega) | exact rd_cel (by omega) | exact rd_idx (by omega) | exact rd_all | exact rd_stall rfl | exact rd_rowP (by omega) | exact rd_row (by omega) | exact get_rowsN (by omega) | exact get_rows (by omega) | exact get_row (by omega) | exact rd_rowsN (by omega) | exact rd_rows (by omega)
  | exact AlgAt.p ‹_› | exact AlgAt.n ‹_› | exact AlgAt.T ‹_› (by omega) (by omega) (by omega) | exact AlgAt.f ‹_› (by omega) | exact AlgAt.vecT ‹_› (by omega) (by omega) | exact AlgAt.vecf ‹_› | exact AlgAt.p (algAt_one _) | exact AlgAt.n (algAt_one _) | exact AlgAt.T (algAt_one _) (by omega) (by omega) (by omega) | exact AlgAt.f (algAt_one _) (by omega) | exact (algAt_one _).all | exact AlgAt.vecT (algAt_one _) (by omega) (by omega) | exact AlgAt.vecf (algAt_one _)
  | exact rfl) : p := h
theorem ifs_ : (∀ b : Bool, ((!b) = true) = (b = false)) ∧ (∀ b : Bool, ((!b) = false) = (b = true)) ∧ (∀ (p : Prop) [Decidable p], (decide p = true) = p) ∧ (∀ (p : Prop) [Decidable p], (decide p = false) = ¬ p) ∧
    (∀ a b : Int, ((a == b) = true) = (a = b)) ∧ (∀ a b : Int, ((a != b) = true) = ¬ (a = b)) ∧ (∀ a b : Int, ((a == b) = false) = ¬ (a = b)) ∧ (∀ a b : Int, ((a != b) = false) = (a = b)) ∧
    (∀ p : Prop, (¬ ¬ p) = p) ∧ ((!true) = false) ∧ ((!false) = true) ∧ ((false = true) = False) ∧ ((true = false) = False) ∧ (∀ a b : Int, (¬ (a < b)) = (b ≤ a)) ∧ (∀ a b : Int, (¬ (a ≤ b)) = (b < a)) ∧
    (∀ (α : Type) (a : α) (l : List α), (a :: l).length = l.length + 1) ∧ (∀ (α : Type) (l m : List α), (l ++ m).length = l.length + m.length) ∧ (∀ (α : Type) (l : List α) (n : Nat), (l.take n).length = min n l.length) ∧
    (∀ (α : Type) (l : List α) (n : Nat), (l.drop n).length = l.length - n) ∧ (∀ α : Type, ([] : List α).length = 0) ∧ (∀ m f, (row m f).length = m) ∧ (∀ m L, (rowsL m L).length = L.length) ∧
    (∀ k m f, (cel k m f).length = m) ∧ (∀ i g L, (mapN i g L).length = L.length) ∧ ((¬ True) = False) ∧ ((¬ False) = True) ∧ (∀ (α : Type) (a b : α), (a ≠ b) = ¬ (a = b)) := by
  refine ⟨fun b => by cases b <;> simp, fun b => by cases b <;> simp, fun p _ => by simp, fun p _ => by simp, fun a b => by simp, fun a b => by simp, fun a b => by simp, fun a b => by simp, fun p => by simp [Classical.not_not], rfl, rfl, by simp, by simp, fun a b => by simp, fun a b => by simp,
    fun α a l => by simp, fun α l m => by simp, fun α l n => by simp, fun α l n => by simp, fun α => by simp, row_len, rowsL_len, cel_len, mapN_len, by simp, by simp, fun α a b => rfl⟩
class IfG (g : Prop) (X Y A B : outParam Prop) : Prop where
  go : (X → A) → (Y → B) → g
instance {X Y A B : Prop} : IfG ((X → A) ∧ (Y → B)) X Y A B := ⟨fun a b => ⟨a, b⟩⟩
theorem if_ {g X Y A B p q : Prop} [i : IfG g X Y A B] (ha : p → A) (hb : q → B) (hp : X = p := by first | (conv => lhs; simp only [ifs_, Cm.int, reduceCtorEq, reduceIte]) | exact rfl) (hq : Y = q := by first | (conv => lhs; simp only [ifs_, Cm.int, reduceCtorEq, reduceIte]) | exact rfl) : g :=
  i.go (fun h => ha (hp ▸ h)) (fun h => hb (hq ▸ h))
class VS (g : Prop) (s r : outParam Prop) : Prop where
  go : s → r → g
instance {p q : Prop} : VS (p ∧ q) p q := ⟨fun a b => ⟨a, b⟩⟩
section
variable {x y : Int} {i n : Nat} {K : Int → Prop}
instance : VS (Ar.int .add .i64 x y K) (-9223372036854775808 ≤ x + y ∧ x + y ≤ 9223372036854775807) (K (x + y)) := ⟨ar_add⟩
instance : VS (Ar.int .sub .i64 x y K) (-9223372036854775808 ≤ x - y ∧ x - y ≤ 9223372036854775807) (K (x - y)) := ⟨ar_sub⟩
instance : VS (Ar.int .mul .i64 x y K) (-9223372036854775808 ≤ x * y ∧ x * y ≤ 9223372036854775807) (K (x * y)) := ⟨ar_mul⟩
instance : VS (wrapK .i64 x K) (-9223372036854775808 ≤ x ∧ x ≤ 9223372036854775807) (K x) := ⟨wk_i64⟩
instance : VS (wrapK .u8 x K) (0 ≤ x ∧ x ≤ 255) (K x) := ⟨wk_u8⟩
end
theorem vs_ {g s r : Prop} [i : VS g s r] (hr : r) (hs : s := by exact sd_) : g := i.go hs hr
class DivG (g : Prop) (o : outParam Ar) (x y : outParam Int) (K : outParam (Int → Prop)) : Prop where
  go : Ar.int o .i64 x y K → g
instance {o : Ar} {x y : Int} {K : Int → Prop} : DivG (Ar.int o .i64 x y K) o x y K := ⟨id⟩
def ArTo (o : Ar) (x y z : Int) : Prop := ∀ K : Int → Prop, K z → Ar.int o .i64 x y K
theorem dv_ {g : Prop} {o : Ar} {x y z : Int} {K : Int → Prop} [i : DivG g o x y K] (hk : K z) (h : ArTo o x y z := by first
  | exact fun _ => ar_remN om_ | exact fun _ => ar_quoN om_ | exact fun _ => ar_rem sz_ | exact fun _ => ar_quo sz_) : g := i.go (h K hk)
theorem dvT_ {g : Prop} {o : Ar} {x y z : Int} {K : Int → Prop} [i : DivG g o x y K] (hk : K z) (h : ArTo o x y z := by first
  | exact fun _ => ar_remN om_ | exact fun _ => ar_quoN om_ | exact fun _ => ar_rem sz_ | exact fun _ => ar_remT om_ | exact fun _ => ar_quo sz_) : g := i.go (h K hk)
theorem fin_ {p : Prop} (h : p := by first | exact True.intro | (with_reducible exact rfl) | exact congrArg D.agg (cel_prog (by omega)) | exact Eq.refl _) : p := h
theorem ex_ {α : Type} {p q : α → Prop} {a : α} (hq : q a) (h : p a := by exact rd_) : ∃ x, p x ∧ q x := ⟨a, h, hq⟩
theorem ex2_ {α β : Type} {p q : α → β → Prop} {a : α} {b : β} (hq : q a b) (h : p a b := by exact rd_) : ∃ x y, p x y ∧ q x y := ⟨a, b, h, hq⟩
theorem lp_ {p : Prop} (h : p := by first | omega | (and_intros <;> first | omega | (intros; omega) | rfl | simp) | (intros; omega) | simp) : p := h
end Go.X
