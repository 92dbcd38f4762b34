import Derived.Test.YtiefibobgdbcdaaX5
set_option linter.all false
namespace Go.X
open Go Go.RowKit
def rO (d : Nat) (o : XOp) : RO := ⟨some d, d + 1, o, none, [], none⟩
def arr {α : Type} (m : Nat) (f : Nat → α) : List α := (List.range m).map f
theorem arr_len {α : Type} (m : Nat) (f : Nat → α) : (arr m f).length = m := by simp [arr]
theorem arr_get {α : Type} {m : Nat} {f : Nat → α} {i : Nat} (h : i < m) : (arr m f)[i]? = some (f i) := by simp [arr, h]
theorem arr_none {α : Type} {m : Nat} {f : Nat → α} {i : Nat} (h : m ≤ i) : (arr m f)[i]? = none := by simp [arr, h]
def upd {α : Type} (f : Nat → α) (i : Nat) (x : α) : Nat → α := fun j => if j = i then x else f j
theorem arr_ext {α : Type} {m : Nat} {f g : Nat → α} (h : ∀ i, i < m → f i = g i) : arr m f = arr m g := by
  apply List.ext_getElem?
  intro i
  rcases Nat.lt_or_ge i m with hi | hi
  · rw [arr_get hi, arr_get hi, h i hi]
  · rw [arr_none hi, arr_none hi]
theorem arr_of {α : Type} {m : Nat} {f : Nat → α} {l : List α} (hl : l.length = m) (h : ∀ i, i < m → l[i]? = some (f i)) : l = arr m f := by
  apply List.ext_getElem?
  intro i
  rcases Nat.lt_or_ge i m with hi | hi
  · rw [arr_get hi, h i hi]
  · rw [arr_none hi, List.getElem?_eq_none (by omega)]
theorem arr_set {α : Type} {m : Nat} {f : Nat → α} {i : Nat} {x : α} : (arr m f).set i x = arr m (upd f i x) := by
  refine arr_of (by simp [arr_len]) fun j hj => ?_
  rw [List.getElem?_set]
  unfold upd
  by_cases e : i = j
  · subst e; simp [arr_len, hj]
  · rw [if_neg e, if_neg (fun h => e h.symm), arr_get hj]
theorem arr_cut {m o n : Nat} {f : Nat → D} (h : o + n ≤ m) : cut (arr m f) o n = some (arr n fun i => f (o + i)) := by
  unfold cut
  rw [if_pos (by rw [arr_len]; exact h)]
  congr 1
  refine arr_of (by simp [arr_len]; omega) fun i hi => ?_
  rw [List.getElem?_take, if_pos hi, List.getElem?_drop, arr_get (by omega)]
theorem arr_splice {m o n : Nat} {f g : Nat → D} (h : o + n ≤ m) : splice (arr m f) o (arr n g) = arr m fun i => if o ≤ i ∧ i < o + n then g (i - o) else f i := by
  refine arr_of (by rw [splice_len (by rw [arr_len, arr_len]; exact h), arr_len]) fun i hi => ?_
  unfold splice
  rw [arr_len]
  by_cases c1 : i < o
  · rw [List.getElem?_append_left (by simp [arr_len]; omega), List.getElem?_take, if_pos c1, if_neg (by omega), arr_get hi]
  · have h1 : ((arr m f).take o).length = o := by simp [arr_len]; omega
    rw [List.getElem?_append_right (by omega), h1]
    by_cases c2 : i < o + n
    · rw [if_pos (by omega), List.getElem?_append_left (by rw [arr_len]; omega), arr_get (by omega)]
    · rw [if_neg (by omega), List.getElem?_append_right (by rw [arr_len]; omega), arr_len, List.getElem?_drop, arr_get (by omega)]
      congr 2; omega
theorem arr_replicate {α : Type} (m : Nat) (x : α) : List.replicate m x = arr m fun _ => x := arr_of (by simp) fun i hi => by simp [hi]
theorem arr_append {α : Type} (m : Nat) (f : Nat → α) (x : α) : arr m f ++ [x] = arr (m + 1) fun i => if i < m then f i else x := by
  refine arr_of (by simp [arr_len]) fun i hi => ?_
  rcases Nat.lt_or_ge i m with h | h
  · rw [List.getElem?_append_left (by rw [arr_len]; exact h), arr_get h, if_pos h]
  · rw [List.getElem?_append_right (by rw [arr_len]; exact h), arr_len, if_neg (by omega), show i - m = 0 from by omega]; rfl
theorem arr_succ {α : Type} (m : Nat) (f : Nat → α) : arr (m + 1) f = arr m f ++ [f m] := by
  rw [arr_append]; exact arr_ext fun i hi => by split <;> first | rfl | (congr 1; omega)
theorem arr_map {α β : Type} (m : Nat) (f : Nat → α) (g : α → β) : (arr m f).map g = arr m fun i => g (f i) := by simp [arr]
def sumN : Nat → (Nat → Int) → Int
  | 0, _ => 0
  | n + 1, f => sumN n f + f n
theorem sumN_ext {f g : Nat → Int} : ∀ {n : Nat}, (∀ i, i < n → f i = g i) → sumN n f = sumN n g
  | 0, _ => rfl
  | n + 1, h => by simp only [sumN]; rw [sumN_ext fun i hi => h i (by omega), h n (by omega)]
theorem mod_bd (x : Int) {p : Int} (hp : 1 ≤ p) : 0 ≤ x % p ∧ x % p < p := ⟨Int.emod_nonneg _ (by omega), Int.emod_lt_of_pos _ (by omega)⟩
theorem ar_remN {i n : Nat} {K : Int → Prop} (hn : 1 ≤ n) (hk : K ((i % n : Nat) : Int)) : Ar.int .rem .i64 (i : Int) (n : Int) K :=
  ar_rem ⟨by omega, by omega⟩ (by rw [← Int.natCast_emod]; exact hk)
theorem ar_quoN {i n : Nat} {K : Int → Prop} (hn : 1 ≤ n ∧ i ≤ 1000000000) (hk : K ((i / n : Nat) : Int)) : Ar.int .quo .i64 (i : Int) (n : Int) K :=
  ar_quo ⟨by omega, by omega, by omega⟩ (by rw [← Int.natCast_ediv]; exact hk)
def cel (k : IntKind) (m : Nat) (f : Nat → Int) : List D := arr m fun i => .int k (f i)
theorem cel_len (k : IntKind) (m : Nat) (f : Nat → Int) : (cel k m f).length = m := arr_len ..
theorem cel_get {k : IntKind} {m : Nat} {f : Nat → Int} {i : Nat} (h : i < m) : (cel k m f)[i]? = some (.int k (f i)) := arr_get h
theorem cel_ext {k : IntKind} {m : Nat} {f g : Nat → Int} (h : ∀ i, i < m → f i = g i) : cel k m f = cel k m g := arr_ext fun i hi => by rw [h i hi]
theorem cel_set {k : IntKind} {m : Nat} {f : Nat → Int} {i : Nat} {x : Int} : (cel k m f).set i (.int k x) = cel k m (upd f i x) := by
  unfold cel
  rw [arr_set]
  refine arr_ext fun j _ => ?_
  unfold upd; split <;> rfl
def prog (i : Nat) (f g : Nat → Int) : Nat → Int := fun j => if j < i then f j else g j
theorem prog_zero (f g : Nat → Int) : prog 0 f g = g := by funext j; simp [prog]
theorem prog_get (i : Nat) (f g : Nat → Int) : prog i f g i = g i := by simp [prog]
theorem prog_upd (i : Nat) (f g : Nat → Int) : upd (prog i f g) i (f i) = prog (i + 1) f g := by
  funext j; unfold upd prog
  by_cases h : j = i
  · subst h; simp
  · rw [if_neg h]; by_cases h2 : j < i <;> simp [h2] <;> omega
theorem cel_prog {k : IntKind} {m i : Nat} {f g : Nat → Int} (h : m ≤ i) : cel k m (prog i f g) = cel k m f := cel_ext fun j hj => by unfold prog; rw [if_pos (by omega)]
theorem flat_cel (k : IntKind) (m : Nat) (f : Nat → Int) : Flat (.agg (cel k m f)) := .agg fun x hx => by
  simp only [cel, arr, List.mem_map] at hx
  obtain ⟨i, _, rfl⟩ := hx
  exact .int _ _
theorem flat2 {x y : D} (hx : Flat x) (hy : Flat y) : ∀ z ∈ [x, y], Flat z := by
  intro z hz
  simp only [List.mem_cons, List.not_mem_nil, or_false] at hz
  rcases hz with rfl | rfl
  · exact hx
  · exact hy
theorem rd_cel {k : IntKind} {m i : Nat} {f : Nat → Int} (h : i < m) : get2 [cel k m f] 0 (0 + ((i : Nat) : Int).toNat * 1) = some (.int k (f i)) := by
  simp [get2, cel_get h]
theorem rd_celP {k : IntKind} {m i : Nat} {f g : Nat → Int} (h : i < m) : get2 [cel k m (prog i f g)] 0 (0 + ((i : Nat) : Int).toNat * 1) = some (.int k (g i)) := by
  rw [rd_cel h, prog_get]
theorem rd_idx {k : IntKind} {m i : Nat} {f : Nat → Int} (h : i < m) : (cel k m f)[((i : Nat) : Int).toNat * 1]? = some (.int k (f i)) := by
  simp [cel_get h]
theorem rd_all {k : IntKind} {m : Nat} {f : Nat → Int} : sub2 [cel k m f] 0 0 m = some (cel k m f) := by
  simp only [sub2, cut, cel_len, List.getElem?_cons_zero, Option.bind_some, Nat.zero_add, Nat.le_refl, if_true, List.drop_zero]
  rw [List.take_of_length_le (by rw [cel_len]; omega)]
theorem rd_stall {k : IntKind} {m : Nat} {f : Nat → Int} {z : List D} (hz : z.length = m) : sub2 ([z].set 0 (splice z 0 (cel k m f))) 0 0 m = some (cel k m f) := by
  have e : splice z 0 (cel k m f) = cel k m f := by
    unfold splice
    rw [List.take_zero, List.nil_append, cel_len, List.drop_eq_nil_of_le (by omega), List.append_nil]
  rw [e]; exact rd_all
theorem st_prog {k : IntKind} {m i z : Nat} {f g : Nat → Int} {x : Int} (hx : x = f i) : Chunk.data z ([cel k m (prog i f g)].set 0 ((cel k m (prog i f g)).set (0 + ((i : Nat) : Int).toNat * 1) (.int k x))) = .data z [cel k m (prog (i + 1) f g)] := by
  subst hx
  simp only [Nat.zero_add, Int.toNat_natCast, Nat.mul_one]
  rw [cel_set, prog_upd]; rfl
theorem zeros6 {k : IntKind} {f : Nat → Int} (h : ∀ i, i < 6 → f i = 0) : Chunk.data 6 [[.int k 0, .int k 0, .int k 0, .int k 0, .int k 0, .int k 0]] = Chunk.data 6 [cel k 6 f] := by
  rw [cel_ext (g := fun _ => 0) h]; rfl
def row (m : Nat) (f : Nat → Int) : List (List D) := arr m fun i => [.int .i64 (f i)]
abbrev rowD (m : Nat) (f : Nat → Int) : D := .lst 1 (row m f)
theorem row_len (m : Nat) (f : Nat → Int) : (row m f).length = m := arr_len ..
theorem row_ext {m : Nat} {f g : Nat → Int} (h : ∀ i, i < m → f i = g i) : row m f = row m g := arr_ext fun i hi => by rw [h i hi]
theorem flat_row {m : Nat} {f : Nat → Int} : ∀ e ∈ row m f, ∀ x ∈ e, Flat x := by
  intro e he x hx
  simp only [row, arr, List.mem_map] at he
  obtain ⟨i, _, rfl⟩ := he
  simp only [List.mem_singleton] at hx
  subst hx; exact .int _ _
theorem rd_row {m i : Nat} {f : Nat → Int} (h : i < m) : get2 (row m f) ((i : Nat) : Int).toNat 0 = some (.int .i64 (f i)) := by
  simp [get2, row, arr_get h]
theorem row_app {m z : Nat} {f : Nat → Int} {x : Int} (hx : x = f m) : Chunk.data z (row m f ++ [[.int .i64 x]]) = .data z (row (m + 1) f) := by
  subst hx; unfold row; rw [arr_succ]
theorem row_set {m i z : Nat} {f g : Nat → Int} {x : Int} (hx : ∀ j, j < m → (if j = i then x else f j) = g j) : Chunk.data z ((row m f).set ((i : Nat) : Int).toNat (([.int .i64 (f i)] : List D).set 0 (.int .i64 x))) = .data z (row m g) := by
  rw [Int.toNat_natCast]
  congr 1
  unfold row
  rw [arr_set]
  refine arr_ext fun j hj => ?_
  rw [← hx j hj]
  unfold upd
  split <;> rfl
abbrev vecL (v : Nat → Int) : List D := cel .u8 6 v
def Byts (v : Nat → Int) : Prop := ∀ i, 0 ≤ v i ∧ v i ≤ 255
structure Alg where
  p : Int
  n : Int
  T : Nat → Nat → Nat → Int
  f : Nat → Int
def algF (a : Alg) : Nat → D := fun q => if q = 0 then .int .i64 a.p else if q = 1 then .int .i64 a.n else if q < 218 then .int .u8 (a.T ((q - 2) / 36) ((q - 2) / 6 % 6) ((q - 2) % 6)) else .int .u8 (a.f (q - 218))
def algL (a : Alg) : List D := arr 224 (algF a)
theorem algF_T (a : Alg) {i j k : Nat} (hi : i < 6) (hj : j < 6) (hk : k < 6) : algF a (2 + i * 36 + j * 6 + k) = .int .u8 (a.T i j k) := by
  unfold algF
  rw [if_neg (by omega), if_neg (by omega), if_pos (by omega)]
  rw [show (2 + i * 36 + j * 6 + k - 2) / 36 = i from by omega, show (2 + i * 36 + j * 6 + k - 2) / 6 % 6 = j from by omega, show (2 + i * 36 + j * 6 + k - 2) % 6 = k from by omega]
theorem algF_f (a : Alg) {i : Nat} (hi : i < 6) : algF a (218 + i) = .int .u8 (a.f i) := by
  unfold algF
  rw [if_neg (by omega), if_neg (by omega), if_neg (by omega), show 218 + i - 218 = i from by omega]
def AlgAt (l : List (List D)) (e off : Nat) (a : Alg) : Prop := ∀ q, q < 224 → get2 l e (off + q) = some (algF a q)
theorem AlgAt.p {l : List (List D)} {e off : Nat} {a : Alg} (h : AlgAt l e off a) : get2 l e off = some (.int .i64 a.p) := h 0 (by omega)
theorem AlgAt.n {l : List (List D)} {e off : Nat} {a : Alg} (h : AlgAt l e off a) : get2 l e (off + 1) = some (.int .i64 a.n) := h 1 (by omega)
theorem AlgAt.T {l : List (List D)} {e off : Nat} {a : Alg} (h : AlgAt l e off a) {i j k : Nat} (hi : i < 6) (hj : j < 6) (hk : k < 6) :
    get2 l e (off + 2 + ((i : Nat) : Int).toNat * 36 + ((j : Nat) : Int).toNat * 6 + ((k : Nat) : Int).toNat * 1) = some (.int .u8 (a.T i j k)) := by
  rw [← algF_T a hi hj hk, ← h _ (by omega)]; congr 1; omega
theorem AlgAt.f {l : List (List D)} {e off : Nat} {a : Alg} (h : AlgAt l e off a) {i : Nat} (hi : i < 6) : get2 l e (off + 218 + ((i : Nat) : Int).toNat * 1) = some (.int .u8 (a.f i)) := by
  rw [← algF_f a hi, ← h _ (by omega)]; congr 1; omega
theorem sub2_of {l : List (List D)} {e o n : Nat} {f : Nat → D} (h : ∀ q, q < n → get2 l e (o + q) = some (f q)) (hn : 0 < n) : sub2 l e o n = some (arr n f) := by
  unfold sub2
  have h0 := h 0 hn
  unfold get2 at h0
  cases hr : l[e]? with
  | none => rw [hr] at h0; cases h0
  | some r =>
    simp only [Option.bind_some]
    have hget : ∀ q, q < n → r[o + q]? = some (f q) := fun q hq => by
      have := h q hq; unfold get2 at this; rw [hr] at this; simpa using this
    have hlen : o + n ≤ r.length := by
      have := (List.getElem?_eq_some_iff.1 (hget (n - 1) (by omega))).1; omega
    unfold cut
    rw [if_pos hlen]
    congr 1
    refine arr_of (by simp; omega) fun i hi => ?_
    rw [List.getElem?_take, if_pos hi, List.getElem?_drop, hget i hi]
theorem AlgAt.vecT {l : List (List D)} {e off : Nat} {a : Alg} (h : AlgAt l e off a) {i j : Nat} (hi : i < 6) (hj : j < 6) : sub2 l e (off + 2 + ((i : Nat) : Int).toNat * 36 + ((j : Nat) : Int).toNat * 6) 6 = some (vecL (a.T i j)) :=
  sub2_of (fun q hq => by rw [← algF_T a hi hj hq, ← h _ (by omega)]; congr 1; omega) (by omega)
theorem AlgAt.vecf {l : List (List D)} {e off : Nat} {a : Alg} (h : AlgAt l e off a) : sub2 l e (off + 218) 6 = some (vecL a.f) :=
  sub2_of (fun q hq => by rw [← algF_f a hq, ← h _ (by omega)]; congr 1; omega) (by omega)
theorem AlgAt.all {l : List (List D)} {e off : Nat} {a : Alg} (h : AlgAt l e off a) : sub2 l e off 224 = some (algL a) := sub2_of h (by omega)
theorem algAt_one (a : Alg) : AlgAt [algL a] 0 0 a := fun q hq => by
  simp [get2, algL, arr_get hq]
def AlgB (a : Alg) : Prop := (∀ i j k, 0 ≤ a.T i j k ∧ a.T i j k ≤ 255) ∧ ∀ i, 0 ≤ a.f i ∧ a.f i ≤ 255
abbrev Row := Nat → Int
def Z : Row := fun _ => 0
def rowsL (m : Nat) (L : List Row) : List (List D) := L.map fun r => [.lst 1 (row m r)]
theorem rowsL_len (m : Nat) (L : List Row) : (rowsL m L).length = L.length := by simp [rowsL]
theorem rd_rows {m i : Nat} {L : List Row} (h : i < L.length) : get2 (rowsL m L) ((i : Nat) : Int).toNat 0 = some (rowD m (L.getD i Z)) := by
  simp [get2, rowsL, List.getElem?_eq_getElem h]
theorem rowsL_app {m z : Nat} {L : List Row} {r : Row} : Chunk.data z (rowsL m L ++ [[rowD m r]]) = .data z (rowsL m (L ++ [r])) := by simp [rowsL]
def mapN (i : Nat) (g : Row → Row) (L : List Row) : List Row := (L.take i).map g ++ L.drop i
theorem mapN_len (i : Nat) (g : Row → Row) (L : List Row) : (mapN i g L).length = L.length := by simp [mapN]; omega
theorem mapN_get {i : Nat} {g : Row → Row} {L : List Row} (h : i < L.length) : (mapN i g L).getD i Z = L.getD i Z := by
  have h1 : (List.map g (L.take i)).length = i := by simp; omega
  simp only [mapN, List.getD_eq_getElem?_getD]
  rw [List.getElem?_append_right (by omega), h1, List.getElem?_drop]; simp
theorem rd_rowP {m i : Nat} {f g : Nat → Int} (h : i < m) : get2 (row m (prog i f g)) ((i : Nat) : Int).toNat 0 = some (.int .i64 (g i)) := by
  rw [rd_row h, prog_get]
theorem rd_rowsN {m i : Nat} {g : Row → Row} {L : List Row} (h : i < L.length) : get2 (rowsL m (mapN i g L)) ((i : Nat) : Int).toNat 0 = some (rowD m (L.getD i Z)) := by
  rw [rd_rows (by rw [mapN_len]; exact h), mapN_get h]
theorem get_rows {m i : Nat} {L : List Row} (h : i < L.length) : (rowsL m L)[((i : Nat) : Int).toNat]? = some [rowD m (L.getD i Z)] := by
  simp [rowsL, List.getElem?_eq_getElem h]
theorem get_rowsN {m i : Nat} {g : Row → Row} {L : List Row} (h : i < L.length) : (rowsL m (mapN i g L))[((i : Nat) : Int).toNat]? = some [rowD m (L.getD i Z)] := by
  rw [get_rows (by rw [mapN_len]; exact h), mapN_get h]
theorem get_row {m i : Nat} {f : Nat → Int} (h : i < m) : (row m f)[((i : Nat) : Int).toNat]? = some [.int .i64 (f i)] := by
  simp [row, arr_get h]
def idxF (q : Nat → Bool) (n : Nat) : Int := match (List.range n).find? q with
  | some k => k
  | none => -1
theorem idxF_some {q : Nat → Bool} {n i : Nat} (hi : i < n) (hq : q i = true) (h : ∀ j, j < i → q j = false) : idxF q n = i := by
  unfold idxF
  have : (List.range n).find? q = some i := by
    rw [List.find?_eq_some_iff_getElem]
    exact ⟨hq, i, by simpa using hi, by simp, fun j hj => by simp [h j hj]⟩
  rw [this]
theorem idxF_none {q : Nat → Bool} {n : Nat} (h : ∀ j, j < n → q j = false) : idxF q n = -1 := by
  unfold idxF
  have : (List.range n).find? q = none := by
    rw [List.find?_eq_none]
    intro j hj
    simp [h j (by simpa using hj)]
  rw [this]
theorem idxF_cases (q : Nat → Bool) (n : Nat) : (idxF q n = -1 ∧ ∀ j, j < n → q j = false) ∨ ∃ i, i < n ∧ idxF q n = (i : Nat) ∧ q i = true ∧ ∀ j, j < i → q j = false := by
  cases h : (List.range n).find? q with
  | none =>
    left
    have h' := List.find?_eq_none.1 h
    have : ∀ j, j < n → q j = false := fun j hj => by have := h' j (by simpa using hj); simpa using this
    exact ⟨idxF_none this, this⟩
  | some k =>
    right
    obtain ⟨hq, i, hi, e, hj⟩ := List.find?_eq_some_iff_getElem.1 h
    simp at e hi
    subst e
    have hj' : ∀ j, j < i → q j = false := fun j hlt => by have := hj j hlt; simpa using this
    exact ⟨i, hi, idxF_some hi hq hj', hq, hj'⟩
def Small (v : Nat → Int) (n p : Int) : Prop := ∀ i : Nat, i < 6 → v i < p ∧ (n ≤ (i : Int) → v i = 0)
instance (v : Nat → Int) (n p : Int) : Decidable (Small v n p) := by unfold Small; infer_instance
theorem all_succ {Q : Nat → Prop} {i : Nat} (h : ∀ j, j < i → Q j) (hi : Q i) : ∀ j, j < i + 1 → Q j := fun j hj => by
  rcases Nat.lt_or_ge j i with h1 | h1
  · exact h j h1
  · exact (show i = j by omega) ▸ hi
def basV (i : Nat) : Nat → Int := fun j => if j = i then 1 else 0
def tsum (a : Alg) (v w : Nat → Int) (k i : Nat) : Int := sumN i fun i => sumN a.n.toNat fun j => v i * w j * a.T i j k
def timesV (a : Alg) (v w : Nat → Int) : Nat → Int := fun k => if (k : Int) < a.n then tsum a v w k a.n.toNat % a.p else 0
def lessR (p by_ : Int) (r o : Nat → Int) : Nat → Int := fun i => (r i - by_ * o i) % p
def scaleR (p by_ : Int) (r : Nat → Int) : Nat → Int := fun i => r i * by_ % p
def leadF (m : Nat) (r : Nat → Int) : Int := idxF (fun i => r i != 0) m
def invF (p x : Int) : Int := match (List.range p.toNat).find? (fun k => decide (1 ≤ k) && (((k : Nat) : Int) * (x % p) % p == 1)) with
  | some k => k
  | none => 0
def primes : List Int := [2, 3, 5, 7, 11, 13]
theorem mem_primes {p : Int} : p ∈ primes ↔ p = 2 ∨ p = 3 ∨ p = 5 ∨ p = 7 ∨ p = 11 ∨ p = 13 := by simp [primes]
theorem idx_primes (p : Int) : 0 ≤ idxF (fun i => primes.getD i 0 == p) 6 ↔ p ∈ primes := by
  rw [mem_primes]
  rcases idxF_cases (fun i => primes.getD i 0 == p) 6 with ⟨h1, h2⟩ | ⟨i, hi, h1, h2, _⟩
  · rw [h1]
    have a0 := h2 0 (by omega); have a1 := h2 1 (by omega); have a2 := h2 2 (by omega); have a3 := h2 3 (by omega); have a4 := h2 4 (by omega); have a5 := h2 5 (by omega)
    simp [primes] at a0 a1 a2 a3 a4 a5
    omega
  · rw [h1]
    simp only [beq_iff_eq] at h2
    have : i = 0 ∨ i = 1 ∨ i = 2 ∨ i = 3 ∨ i = 4 ∨ i = 5 := by omega
    rcases this with rfl | rfl | rfl | rfl | rfl | rfl <;> simp [primes] at h2 <;> omega
theorem prime_bd {p : Int} (hp : p ∈ primes) : 2 ≤ p ∧ p ≤ 13 := by
  have : ∀ p ∈ primes, 2 ≤ p ∧ p ≤ 13 := by decide
  exact this p hp
theorem inv_mul {p x : Int} (hp : p ∈ primes) (hx : 0 < x ∧ x < p) : invF p x * x % p = 1 ∧ 0 < invF p x ∧ invF p x < p := by
  have : ∀ p ∈ primes, ∀ x ∈ (List.range 13).map Int.ofNat, 0 < x → x < p → invF p x * x % p = 1 ∧ 0 < invF p x ∧ invF p x < p := by decide +kernel
  have := prime_bd hp
  rename_i h0
  exact h0 p hp x (by rw [List.mem_map]; exact ⟨x.toNat, by simp; omega, by simp; omega⟩) hx.1 hx.2
end Go.X
namespace Go.X
open Go Go.RowKit
structure FN where
  f : Nat → FuncId
def FN.spec_l01Prime (N : FN) : FuncId := N.f 7
def FN.spec_l01In (N : FN) : FuncId := N.f 8
def FN.laws_toByteA6 (N : FN) : FuncId := N.f 30
def FN.laws_toByteA6A6 (N : FN) : FuncId := N.f 31
def FN.slices_Index_Lint64_int64 (N : FN) : FuncId := N.f 43
def FN.slices_Contains_Lint64_int64 (N : FN) : FuncId := N.f 44
def FN.impl_isPrime (N : FN) : FuncId := N.f 45
def FN.impl_in (N : FN) : FuncId := N.f 46
def FN.slices_IndexFunc_LLint64_Lint64 (N : FN) : FuncId := N.f 55
def FN.slices_IndexFunc_Lint64_int64 (N : FN) : FuncId := N.f 62
def ir_spec_l01Prime (N : FN) : CF := ⟨1, 25, [(.tmp 2)], (.seq (.reg false [] [(rO 2 (.mov (.c (.bool false))))]) (.seq (.reg false [] [(rO 3 (.mov (.t 0))), (rO 4 (.cmp .eql (.t 3) (.c (.int .i64 2)))), (rO 5 (.mov (.t 4))), ⟨(some 6), 7, (.mov (.t 0)), (some (5, false)), [], none⟩, ⟨(some 7), 8, (.cmp .eql (.t 6) (.c (.int .i64 3))), (some (5, false)), [], none⟩, (rO 8 (.pick (.t 5) (.c (.bool true)) (.t 7))), (rO 9 (.mov (.t 8))), ⟨(some 10), 11, (.mov (.t 0)), (some (9, false)), [], none⟩, ⟨(some 11), 12, (.cmp .eql (.t 10) (.c (.int .i64 5))), (some (9, false)), [], none⟩, (rO 12 (.pick (.t 9) (.c (.bool true)) (.t 11))), (rO 13 (.mov (.t 12))), ⟨(some 14), 15, (.mov (.t 0)), (some (13, false)), [], none⟩, ⟨(some 15), 16, (.cmp .eql (.t 14) (.c (.int .i64 7))), (some (13, false)), [], none⟩, (rO 16 (.pick (.t 13) (.c (.bool true)) (.t 15))), (rO 17 (.mov (.t 16))), ⟨(some 18), 19, (.mov (.t 0)), (some (17, false)), [], none⟩, ⟨(some 19), 20, (.cmp .eql (.t 18) (.c (.int .i64 11))), (some (17, false)), [], none⟩, (rO 20 (.pick (.t 17) (.c (.bool true)) (.t 19))), (rO 21 (.mov (.t 20))), ⟨(some 22), 23, (.mov (.t 0)), (some (21, false)), [], none⟩, ⟨(some 23), 24, (.cmp .eql (.t 22) (.c (.int .i64 13))), (some (21, false)), [], none⟩, (rO 24 (.pick (.t 21) (.c (.bool true)) (.t 23))), (rO 2 (.mov (.t 24)))]) .ret))⟩
def ir_spec_l01In (N : FN) : CF := ⟨3, 15, [(.tmp 6)], (.seq (.reg false [] [(rO 6 (.mov (.c (.bool false))))]) (.seq (.reg false [] [(rO 7 (.mov (.t 0))), (rO 8 (.mov (.t 1))), (rO 9 (.cmp .geq (.t 7) (.t 8))), (rO 10 (.mov (.t 9))), ⟨(some 11), 12, (.mov (.t 0)), (some (10, true)), [], none⟩, ⟨(some 12), 13, (.mov (.t 2)), (some (10, true)), [], none⟩, ⟨(some 13), 14, (.cmp .leq (.t 11) (.t 12)), (some (10, true)), [], none⟩, (rO 14 (.pick (.t 10) (.t 13) (.c (.bool false)))), (rO 6 (.mov (.t 14)))]) .ret))⟩
def ir_laws_toByteA6 (N : FN) : CF := ⟨1, 15, [(.cell 2 (some 6))], (.seq (.reg false [2, 3] [(rO 1 (.box (.t 0))), (rO 2 (.alloc [(.int .u8 0), (.int .u8 0), (.int .u8 0), (.int .u8 0), (.int .u8 0), (.int .u8 0)]))]) (.seq (.reg false [4] [(rO 3 (.alloc [(.int .u8 0), (.int .u8 0), (.int .u8 0), (.int .u8 0), (.int .u8 0), (.int .u8 0)]))]) (.seq (.seq (.reg false [] [(rO 4 (.mov (.c (.int .i64 0))))]) (.block 0 (.loop (.seq (.seq (.reg false [] [(rO 5 (.mov (.t 4))), (rO 6 (.cmp .lss (.t 5) (.c (.int .i64 6))))]) (.cond (.t 6) .skip (.exit 0))) (.seq (.block 1 (.reg false [] [(rO 9 (.mov (.t 4))), (rO 10 (.mov (.t 4))), (rO 11 (.iaddrA 6 1 (.t 1) (.t 10))), (rO 12 (.load none (.t 11))), (rO 13 (.iaddrA 6 1 (.t 3) (.t 9))), ⟨none, 21, (.store none (.t 13) (.t 12)), none, [], none⟩])) (.reg false [] [(rO 7 (.mov (.t 4))), (rO 8 (.arith .add (.t 7) (.c (.int .i64 1)))), (rO 4 (.mov (.t 8)))])))))) (.seq (.reg false [] [(rO 14 (.load (some 6) (.t 3))), ⟨none, 17, (.store (some 6) (.t 2) (.t 14)), none, [], none⟩]) .ret))))⟩
def ir_laws_toByteA6A6 (N : FN) : CF := ⟨1, 16, [(.cell 2 (some 36))], (.seq (.reg false [2, 3] [(rO 1 (.box (.t 0))), (rO 2 (.alloc [(.int .u8 0), (.int .u8 0), (.int .u8 0), (.int .u8 0), (.int .u8 0), (.int .u8 0), (.int .u8 0), (.int .u8 0), (.int .u8 0), (.int .u8 0), (.int .u8 0), (.int .u8 0), (.int .u8 0), (.int .u8 0), (.int .u8 0), (.int .u8 0), (.int .u8 0), (.int .u8 0), (.int .u8 0), (.int .u8 0), (.int .u8 0), (.int .u8 0), (.int .u8 0), (.int .u8 0), (.int .u8 0), (.int .u8 0), (.int .u8 0), (.int .u8 0), (.int .u8 0), (.int .u8 0), (.int .u8 0), (.int .u8 0), (.int .u8 0), (.int .u8 0), (.int .u8 0), (.int .u8 0)]))]) (.seq (.reg false [4] [(rO 3 (.alloc [(.int .u8 0), (.int .u8 0), (.int .u8 0), (.int .u8 0), (.int .u8 0), (.int .u8 0), (.int .u8 0), (.int .u8 0), (.int .u8 0), (.int .u8 0), (.int .u8 0), (.int .u8 0), (.int .u8 0), (.int .u8 0), (.int .u8 0), (.int .u8 0), (.int .u8 0), (.int .u8 0), (.int .u8 0), (.int .u8 0), (.int .u8 0), (.int .u8 0), (.int .u8 0), (.int .u8 0), (.int .u8 0), (.int .u8 0), (.int .u8 0), (.int .u8 0), (.int .u8 0), (.int .u8 0), (.int .u8 0), (.int .u8 0), (.int .u8 0), (.int .u8 0), (.int .u8 0), (.int .u8 0)]))]) (.seq (.seq (.reg false [] [(rO 4 (.mov (.c (.int .i64 0))))]) (.block 0 (.loop (.seq (.seq (.reg false [] [(rO 5 (.mov (.t 4))), (rO 6 (.cmp .lss (.t 5) (.c (.int .i64 6))))]) (.cond (.t 6) .skip (.exit 0))) (.seq (.block 1 (.reg false [14] [(rO 9 (.mov (.t 4))), (rO 10 (.mov (.t 4))), (rO 11 (.iaddrA 6 6 (.t 1) (.t 10))), (rO 12 (.load (some 6) (.t 11))), (rO 13 (.call N.laws_toByteA6 [(.t 12)])), (rO 14 (.iaddrA 6 6 (.t 3) (.t 9))), ⟨none, 23, (.store (some 6) (.t 14) (.t 13)), none, [], none⟩])) (.reg false [] [(rO 7 (.mov (.t 4))), (rO 8 (.arith .add (.t 7) (.c (.int .i64 1)))), (rO 4 (.mov (.t 8)))])))))) (.seq (.reg false [] [(rO 15 (.load (some 36) (.t 3))), ⟨none, 18, (.store (some 36) (.t 2) (.t 15)), none, [], none⟩]) .ret))))⟩
def ir_slices_Index_Lint64_int64 (N : FN) : CF := ⟨2, 19, [(.tmp 4)], (.seq (.reg false [] [(rO 4 (.mov (.c (.int .i64 0))))]) (.seq (.seq (.reg false [] [(rO 6 (.mov (.t 0))), (rO 7 (.len (.t 6))), (rO 8 (.mov (.c (.int .i64 0))))]) (.block 0 (.loop (.seq (.reg false [] [(rO 9 (.cmp .lss (.t 8) (.t 7)))]) (.seq (.cond (.t 9) .skip (.exit 0)) (.seq (.block 1 (.seq (.reg false [] [(rO 10 (.mov (.t 8))), (rO 5 (.mov (.t 10)))]) (.seq (.reg false [] [(rO 11 (.mov (.t 1))), (rO 12 (.mov (.t 0))), (rO 13 (.mov (.t 5))), (rO 14 (.iaddrS 1 (.t 12) (.t 13))), (rO 15 (.load none (.t 14))), (rO 16 (.cmp .eql (.t 11) (.t 15)))]) (.cond (.t 16) (.seq (.reg false [] [(rO 17 (.mov (.t 5))), (rO 4 (.mov (.t 17)))]) .ret) .skip)))) (.reg false [] [(rO 18 (.arith .add (.t 8) (.c (.int .i64 1)))), (rO 8 (.mov (.t 18)))]))))))) (.seq (.reg false [] [(rO 4 (.mov (.c (.int .i64 (-1)))))]) .ret)))⟩
def ir_slices_Contains_Lint64_int64 (N : FN) : CF := ⟨2, 9, [(.tmp 4)], (.seq (.reg false [] [(rO 4 (.mov (.c (.bool false))))]) (.seq (.reg false [8] [(rO 5 (.mov (.t 0))), (rO 6 (.mov (.t 1))), (rO 7 (.call N.slices_Index_Lint64_int64 [(.t 5), (.t 6)])), (rO 8 (.cmp .geq (.t 7) (.c (.int .i64 0)))), (rO 4 (.mov (.t 8)))]) .ret))⟩
def ir_impl_isPrime (N : FN) : CF := ⟨1, 6, [(.tmp 2)], (.seq (.reg false [] [(rO 2 (.mov (.c (.bool false))))]) (.seq (.reg false [4, 6] [(rO 3 (.bslice 1 [(.c (.int .i64 2)), (.c (.int .i64 3)), (.c (.int .i64 5)), (.c (.int .i64 7)), (.c (.int .i64 11)), (.c (.int .i64 13))])), (rO 4 (.mov (.t 0))), (rO 5 (.call N.slices_Contains_Lint64_int64 [(.t 3), (.t 4)])), (rO 2 (.mov (.t 5)))]) .ret))⟩
def ir_impl_in (N : FN) : CF := ⟨3, 15, [(.tmp 6)], (.seq (.reg false [] [(rO 6 (.mov (.c (.bool false))))]) (.seq (.reg false [] [(rO 7 (.mov (.t 0))), (rO 8 (.mov (.t 1))), (rO 9 (.cmp .geq (.t 7) (.t 8))), (rO 10 (.mov (.t 9))), ⟨(some 11), 12, (.mov (.t 0)), (some (10, true)), [], none⟩, ⟨(some 12), 13, (.mov (.t 2)), (some (10, true)), [], none⟩, ⟨(some 13), 14, (.cmp .leq (.t 11) (.t 12)), (some (10, true)), [], none⟩, (rO 14 (.pick (.t 10) (.t 13) (.c (.bool false)))), (rO 6 (.mov (.t 14)))]) .ret))⟩
def ir_slices_IndexFunc_LLint64_Lint64 (N : FN) : CF := ⟨2, 19, [(.tmp 4)], (.seq (.reg false [] [(rO 4 (.mov (.c (.int .i64 0))))]) (.seq (.seq (.reg false [] [(rO 6 (.mov (.t 0))), (rO 7 (.len (.t 6))), (rO 8 (.mov (.c (.int .i64 0))))]) (.block 0 (.loop (.seq (.reg false [] [(rO 9 (.cmp .lss (.t 8) (.t 7)))]) (.seq (.cond (.t 9) .skip (.exit 0)) (.seq (.block 1 (.seq (.reg false [] [(rO 10 (.mov (.t 8))), (rO 5 (.mov (.t 10)))]) (.seq (.reg false [16, 17] [(rO 11 (.mov (.t 1))), (rO 12 (.mov (.t 0))), (rO 13 (.mov (.t 5))), (rO 14 (.iaddrS 1 (.t 12) (.t 13))), (rO 15 (.loadS (.t 14))), (rO 16 (.callV (.t 11) [(.t 15)]))]) (.cond (.t 16) (.seq (.reg false [] [(rO 17 (.mov (.t 5))), (rO 4 (.mov (.t 17)))]) .ret) .skip)))) (.reg false [] [(rO 18 (.arith .add (.t 8) (.c (.int .i64 1)))), (rO 8 (.mov (.t 18)))]))))))) (.seq (.reg false [] [(rO 4 (.mov (.c (.int .i64 (-1)))))]) .ret)))⟩
def ir_slices_IndexFunc_Lint64_int64 (N : FN) : CF := ⟨2, 19, [(.tmp 4)], (.seq (.reg false [] [(rO 4 (.mov (.c (.int .i64 0))))]) (.seq (.seq (.reg false [] [(rO 6 (.mov (.t 0))), (rO 7 (.len (.t 6))), (rO 8 (.mov (.c (.int .i64 0))))]) (.block 0 (.loop (.seq (.reg false [] [(rO 9 (.cmp .lss (.t 8) (.t 7)))]) (.seq (.cond (.t 9) .skip (.exit 0)) (.seq (.block 1 (.seq (.reg false [] [(rO 10 (.mov (.t 8))), (rO 5 (.mov (.t 10)))]) (.seq (.reg false [17] [(rO 11 (.mov (.t 1))), (rO 12 (.mov (.t 0))), (rO 13 (.mov (.t 5))), (rO 14 (.iaddrS 1 (.t 12) (.t 13))), (rO 15 (.load none (.t 14))), (rO 16 (.callV (.t 11) [(.t 15)]))]) (.cond (.t 16) (.seq (.reg false [] [(rO 17 (.mov (.t 5))), (rO 4 (.mov (.t 17)))]) .ret) .skip)))) (.reg false [] [(rO 18 (.arith .add (.t 8) (.c (.int .i64 1)))), (rO 8 (.mov (.t 18)))]))))))) (.seq (.reg false [] [(rO 4 (.mov (.c (.int .i64 (-1)))))]) .ret)))⟩
end Go.X
namespace Go.X
open Go Go.RowKit
def Rw (p : Int) (r : Row) : Prop := ∀ i, 0 ≤ r i ∧ r i < p
def RwL (p : Int) (L : List Row) : Prop := ∀ r ∈ L, Rw p r
theorem getD_mem {L : List Row} {i : Nat} (h : i < L.length) : L.getD i Z ∈ L := by
  rw [List.getD_eq_getElem?_getD, List.getElem?_eq_getElem h]; exact List.getElem_mem h
theorem RwL.get {p : Int} {L : List Row} (h : RwL p L) (hp : 1 ≤ p) (i : Nat) : Rw p (L.getD i Z) := by
  rcases Nat.lt_or_ge i L.length with hi | hi
  · exact h _ (getD_mem hi)
  · rw [List.getD_eq_getElem?_getD, List.getElem?_eq_none hi]
    intro j; simp [Z]; omega
theorem lessR_rw {p k : Int} {r o : Row} (hp : 1 ≤ p) : Rw p (lessR p k r o) := fun _ => mod_bd _ hp
def elimR (p : Int) (c : Nat) (piv : Row) (r : Row) : Row := lessR p (r c) r piv
end Go.X
namespace Go.X
theorem cg_add {p a b c d : Int} (h1 : a % p = b % p) (h2 : c % p = d % p) : (a + c) % p = (b + d) % p := by rw [Int.add_emod, h1, h2, ← Int.add_emod]
theorem cg_mul {p a b c d : Int} (h1 : a % p = b % p) (h2 : c % p = d % p) : (a * c) % p = (b * d) % p := by rw [Int.mul_emod, h1, h2, ← Int.mul_emod]
theorem cg_mod (p a : Int) : a % p % p = a % p := Int.emod_emod_of_dvd a (Int.dvd_refl p)
theorem rw_mod {p : Int} {r : Row} (h : Rw p r) (i : Nat) : r i % p = r i := Int.emod_eq_of_lt (h i).1 (h i).2
theorem sumN_mod {p : Int} {f g : Nat → Int} : ∀ {n : Nat}, (∀ i, i < n → f i % p = g i % p) → sumN n f % p = sumN n g % p
  | 0, _ => rfl
  | n + 1, h => cg_add (sumN_mod fun i hi => h i (by omega)) (h n (by omega))
theorem sumN_add (f g : Nat → Int) : ∀ n, sumN n (fun i => f i + g i) = sumN n f + sumN n g
  | 0 => rfl
  | n + 1 => by simp only [sumN, sumN_add f g n]; omega
theorem sumN_mul (k : Int) (f : Nat → Int) : ∀ n, sumN n (fun i => k * f i) = k * sumN n f
  | 0 => by simp [sumN]
  | n + 1 => by simp only [sumN, sumN_mul k f n, Int.mul_add]
theorem sumN_zero : ∀ {n : Nat} {f : Nat → Int}, (∀ i, i < n → f i = 0) → sumN n f = 0
  | 0, _, _ => rfl
  | n + 1, f, h => by simp only [sumN]; rw [sumN_zero fun i hi => h i (by omega), h n (by omega)]; rfl
def dot (m : Nat) (r z : Row) : Int := sumN m fun i => r i * z i
theorem getD_map {f : Row → Row} {L : List Row} {i : Nat} (h : i < L.length) : (L.map f).getD i Z = f (L.getD i Z) := by
  simp [h]
theorem getD_left {L M : List Row} {i : Nat} (h : i < L.length) : (L ++ M).getD i Z = L.getD i Z := by
  simp only [List.getD_eq_getElem?_getD]; rw [List.getElem?_append_left h]
theorem getD_right {L M : List Row} {i : Nat} (h : L.length ≤ i) : (L ++ M).getD i Z = M.getD (i - L.length) Z := by
  simp only [List.getD_eq_getElem?_getD]; rw [List.getElem?_append_right h]
def IsLead (m : Nat) (r : Row) (l : Nat) : Prop := l < m ∧ r l = 1 ∧ ∀ j, j < l → r j = 0
theorem IsLead.leadF {m l : Nat} {r : Row} (h : IsLead m r l) : leadF m r = l := idxF_some h.1 (by rw [h.2.1]; rfl) fun j hj => by rw [h.2.2 j hj]; rfl
structure RR (p : Int) (m : Nat) (L : List Row) (ld : Nat → Nat) : Prop where
  rw : RwL p L
  lead : ∀ i, i < L.length → IsLead m (L.getD i Z) (ld i)
  zero : ∀ i j, i < L.length → j < L.length → i ≠ j → L.getD j Z (ld i) = 0
  sort : ∀ i j, i < j → j < L.length → ld i < ld j
theorem elim_get {p : Int} {c : Nat} {piv r : Row} (i : Nat) : elimR p c piv r i = (r i - r c * piv i) % p := rfl
theorem elim_zero {p : Int} {c i : Nat} {piv r : Row} (hr : Rw p r) (h : piv i = 0) : elimR p c piv r i = r i := by
  rw [elim_get, h, Int.mul_zero, Int.sub_zero]; exact rw_mod hr i
theorem elim_piv {p : Int} {c : Nat} {piv r : Row} (h : piv c = 1) : elimR p c piv r c = 0 := by
  rw [elim_get, h, Int.mul_one, Int.sub_self]; simp
theorem RR.push {p : Int} {m c : Nat} {out : List Row} {ld : Nat → Nat} {piv : Row} (h : RR p m out ld) (hp : 1 ≤ p) (hlt : ∀ i, i < out.length → ld i < c) (hpv : IsLead m piv c) (hpr : Rw p piv) (hz : ∀ i, i < out.length → piv (ld i) = 0) :
    RR p m (out.map (elimR p c piv) ++ [piv]) (fun i => if i < out.length then ld i else c) := by
  have hl : (out.map (elimR p c piv)).length = out.length := by simp
  have g1 : ∀ i, i < out.length → (out.map (elimR p c piv) ++ [piv]).getD i Z = elimR p c piv (out.getD i Z) := fun i hi => by rw [getD_left (by omega), getD_map hi]
  have g2 : ∀ i, i = out.length → (out.map (elimR p c piv) ++ [piv]).getD i Z = piv := fun i hi => by
    rw [getD_right (by omega), hl, show i - out.length = 0 by omega]; rfl
  have hlen : (out.map (elimR p c piv) ++ [piv]).length = out.length + 1 := by simp
  refine ⟨fun r hr => ?_, fun i hi => ?_, fun i j hi hj hij => ?_, fun i j hij hj => ?_⟩
  · rcases List.mem_append.1 hr with hr | hr
    · obtain ⟨x, _, rfl⟩ := List.mem_map.1 hr; exact lessR_rw hp
    · simp only [List.mem_singleton] at hr; subst hr; exact hpr
  · rw [hlen] at hi
    by_cases c1 : i < out.length
    · rw [g1 i c1, if_pos c1]
      obtain ⟨a1, a2, a3⟩ := h.lead i c1
      have hr := h.rw _ (getD_mem c1)
      refine ⟨a1, by rw [elim_zero hr (hz i c1)]; exact a2, fun j hj => ?_⟩
      rw [elim_zero hr (hpv.2.2 j (by have := hlt i c1; omega))]; exact a3 j hj
    · rw [g2 i (by omega), if_neg c1]; exact hpv
  · rw [hlen] at hi hj
    by_cases c1 : i < out.length <;> by_cases c2 : j < out.length
    · rw [g1 j c2, if_pos c1, elim_zero (h.rw _ (getD_mem c2)) (hz i c1)]; exact h.zero i j c1 c2 hij
    · rw [g2 j (by omega), if_pos c1]; exact hz i c1
    · rw [g1 j c2, if_neg c1]; exact elim_piv hpv.2.1
    · omega
  · rw [hlen] at hj
    by_cases c2 : j < out.length
    · rw [if_pos (by omega), if_pos c2]; exact h.sort i j hij c2
    · rw [if_neg c2, if_pos (by omega)]; exact hlt i (by omega)
end Go.X
namespace Go.X
def ldN (m : Nat) (r : Row) : Nat := (leadF m r).toNat
def redBy (p : Int) (m : Nat) (out : List Row) (r : Row) : Nat → Row
  | 0 => r
  | k + 1 => lessR p (redBy p m out r k (ldN m (out.getD k Z))) (redBy p m out r k) (out.getD k Z)
def insN (p : Int) (m at_ : Nat) (own : Row) (out : List Row) : Nat → List Row × Bool
  | 0 => ([], false)
  | k + 1 =>
    let s := insN p m at_ own out k
    let s' := if s.2 = false ∧ (at_ : Int) < leadF m (out.getD k Z) then (s.1 ++ [own], true) else s
    (s'.1 ++ [elimR p at_ own (out.getD k Z)], s'.2)
def echOwn (p : Int) (m : Nat) (out : List Row) (r : Row) : Row :=
  scaleR p (invF p (redBy p m out r out.length (ldN m (redBy p m out r out.length)))) (redBy p m out r out.length)
def echStep (p : Int) (m : Nat) (out : List Row) (r : Row) : List Row :=
  if leadF m (redBy p m out r out.length) < 0 then out else
  let s := insN p m (ldN m (redBy p m out r out.length)) (echOwn p m out r) out out.length
  if s.2 then s.1 else s.1 ++ [echOwn p m out r]
def echN (p : Int) (m : Nat) (rows : List Row) : Nat → List Row
  | 0 => []
  | i + 1 => echStep p m (echN p m rows i) (rows.getD i Z)
def echF (p : Int) (m : Nat) (rows : List Row) : List Row := echN p m rows rows.length
section
variable {p : Int} {m : Nat} {out : List Row} {ld : Nat → Nat} {r : Row}
theorem RR.ldN (h : RR p m out ld) {i : Nat} (hi : i < out.length) : ldN m (out.getD i Z) = ld i := by
  unfold Go.X.ldN; rw [(h.lead i hi).leadF]; rfl
end
end Go.X
namespace Go.X
open Go Go.RowKit
noncomputable def dB (p : Prop) : Bool := @decide p (Classical.propDecidable p)
theorem dB_iff {p : Prop} : dB p = true ↔ p := by unfold dB; exact @decide_eq_true_iff p (Classical.propDecidable p)
theorem dB_t {p : Prop} (h : p) : dB p = true := dB_iff.2 h
theorem dB_f {p : Prop} (h : ¬ p) : dB p = false := by
  cases e : dB p with
  | false => rfl
  | true => exact absurd (dB_iff.1 e) h
theorem dB_congr {p q : Prop} (h : p ↔ q) : dB p = dB q := by rw [propext h]
theorem no {p : Prop} (h : ¬ p) : D.bool false = .bool (dB p) := by rw [dB_f h]
def VEq (v w : Nat → Int) : Prop := ∀ i : Nat, i < 6 → v i = w i
instance (v w : Nat → Int) : Decidable (VEq v w) := by unfold VEq; infer_instance
def sSolveF (p : Int) (n : Nat) (L : List Row) : Option Row :=
  if L ≠ [] ∧ (echF p (n + 1) L).length = n ∧ ∀ i : Nat, i < n → leadF (n + 1) ((echF p (n + 1) L).getD i Z) = i then some fun i => (echF p (n + 1) L).getD i Z n else none
def findR (a : Alg) (i k : Nat) : Row := fun j => if j < a.n.toNat then a.T j i k else if i = k then 1 else 0
def findIn (a : Alg) (i : Nat) : Nat → List Row
  | 0 => []
  | k + 1 => findIn a i k ++ [findR a i k]
def findOut (a : Alg) : Nat → List Row
  | 0 => []
  | i + 1 => findOut a i ++ findIn a i a.n.toNat
def vecR (m : Nat) (r : Row) : Nat → Int := fun i => if i < m then r i else 0
def findF (a : Alg) : Option (Nat → Int) :=
  match sSolveF a.p a.n.toNat (findOut a a.n.toNat) with
  | none => none
  | some r => if ∀ i : Nat, i < a.n.toNat → VEq (timesV a (basV i) (vecR a.n.toNat r)) (basV i) then some (vecR a.n.toNat r) else none
def ShapeP (a : Alg) : Prop := a.p ∈ primes ∧ (1 ≤ a.n ∧ a.n ≤ 6) ∧ Small a.f a.n a.p ∧ ∀ i j : Nat, i < 6 → j < 6 → Small (a.T i j) (if a.n ≤ (i : Int) ∨ a.n ≤ (j : Int) then 0 else a.n) a.p
def AssocP (a : Alg) : Prop := ∀ i j k : Nat, (i : Int) < a.n → (j : Int) < a.n → (k : Int) < a.n → VEq (timesV a (a.T i j) (basV k)) (timesV a (basV i) (a.T j k))
end Go.X
namespace Go.X
open Go Go.RowKit
def C_in (P : Program) (N : FN) : Prop := ∀ {n lo hi : Int}, Can P N.impl_in [.int .i64 n, .int .i64 lo, .int .i64 hi] (.val (.bool (decide (lo ≤ n ∧ n ≤ hi))))
def C_sIn (P : Program) (N : FN) : Prop := ∀ {n lo hi : Int}, Can P N.spec_l01In [.int .i64 n, .int .i64 lo, .int .i64 hi] (.val (.bool (decide (lo ≤ n ∧ n ≤ hi))))
def C_Index (P : Program) (N : FN) : Prop := ∀ {m : Nat} {f : Nat → Int} {x : Int}, m ≤ 1000000 → Can P N.slices_Index_Lint64_int64 [rowD m f, .int .i64 x] (.val (.int .i64 (idxF (fun i => f i == x) m)))
def C_Contains (P : Program) (N : FN) : Prop := ∀ {m : Nat} {f : Nat → Int} {x : Int}, m ≤ 1000000 → Can P N.slices_Contains_Lint64_int64 [rowD m f, .int .i64 x] (.val (.bool (decide (0 ≤ idxF (fun i => f i == x) m))))
def C_isPrime (P : Program) (N : FN) : Prop := ∀ {p : Int}, Can P N.impl_isPrime [.int .i64 p] (.val (.bool (decide (p ∈ primes))))
def C_sPrime (P : Program) (N : FN) : Prop := ∀ {p : Int}, Can P N.spec_l01Prime [.int .i64 p] (.val (.bool (decide (p ∈ primes))))
structure AlgOk (a : Alg) : Prop where
  p : a.p ∈ primes
  n : 1 ≤ a.n ∧ a.n ≤ 6
  T : ∀ i j k, 0 ≤ a.T i j k ∧ a.T i j k < a.p
  f : ∀ i, 0 ≤ a.f i ∧ a.f i < a.p
  z : ∀ i j k : Nat, a.n ≤ (i : Int) ∨ a.n ≤ (j : Int) ∨ a.n ≤ (k : Int) → a.T i j k = 0
  fz : ∀ i : Nat, a.n ≤ (i : Int) → a.f i = 0
theorem AlgOk.b {a : Alg} (h : AlgOk a) : AlgB a := by
  have := prime_bd h.p
  exact ⟨fun i j k => by have := h.T i j k; omega, fun i => by have := h.f i; omega⟩
def TabP (a : Alg) : Prop := (∀ i j : Nat, i < 6 → j < 6 → Small (a.T i j) a.n a.p ∧ (a.n ≤ (i : Int) ∨ a.n ≤ (j : Int) → VEq (a.T i j) Z)) ∧ Small a.f a.n a.p
theorem sumN_one {f : Nat → Int} {i : Nat} : ∀ {n : Nat}, i < n → (∀ j, j ≠ i → f j = 0) → sumN n f = f i
  | n + 1, hi, h => by
    simp only [sumN]
    by_cases e : i = n
    · subst e
      rw [sumN_zero fun j hj => h j (by omega)]; omega
    · rw [sumN_one (show i < n by omega) h, h n (by omega)]; omega
structure Pr where
  c : Alg
  o : Alg
  z : Nat → Nat → Int
def pairF (x : Pr) : Nat → D := fun q => if q < 224 then algF x.c q else if q < 448 then algF x.o (q - 224) else .int .u8 (x.z ((q - 448) / 6) ((q - 448) % 6))
def pairL (x : Pr) : List D := arr 484 (pairF x)
def PairAt (l : List (List D)) (e off : Nat) (x : Pr) : Prop := ∀ q, q < 484 → get2 l e (off + q) = some (pairF x q)
theorem PairAt.c {l : List (List D)} {e off : Nat} {x : Pr} (h : PairAt l e off x) : AlgAt l e off x.c := fun q hq => by
  rw [h q (by omega)]; unfold pairF; rw [if_pos hq]
theorem PairAt.o {l : List (List D)} {e off : Nat} {x : Pr} (h : PairAt l e off x) : AlgAt l e (off + 224) x.o := fun q hq => by
  rw [Nat.add_assoc, h (224 + q) (by omega)]; unfold pairF
  rw [if_neg (by omega), if_pos (by omega), show 224 + q - 224 = q by omega]
theorem PairAt.z {l : List (List D)} {e off : Nat} {x : Pr} (h : PairAt l e off x) {i k : Nat} (hi : i < 6) (hk : k < 6) : get2 l e (off + 448 + i * 6 + k) = some (.int .u8 (x.z i k)) := by
  rw [show off + 448 + i * 6 + k = off + (448 + i * 6 + k) by omega, h _ (by omega)]; unfold pairF
  rw [if_neg (by omega), if_neg (by omega), show (448 + i * 6 + k - 448) / 6 = i by omega, show (448 + i * 6 + k - 448) % 6 = k by omega]
theorem PairAt.zv {l : List (List D)} {e off : Nat} {x : Pr} (h : PairAt l e off x) {i : Nat} (hi : i < 6) : sub2 l e (off + 448 + ((i : Nat) : Int).toNat * 6) 6 = some (vecL (x.z i)) := by
  rw [Int.toNat_natCast]
  exact sub2_of (fun q hq => h.z hi hq) (by omega)
theorem PairAt.all {l : List (List D)} {e off : Nat} {x : Pr} (h : PairAt l e off x) : sub2 l e off 484 = some (pairL x) := sub2_of h (by omega)
structure PrOk (x : Pr) : Prop where
  c : AlgOk x.c
  o : AlgOk x.o
  p : x.c.p = x.o.p
  z : ∀ i k, 0 ≤ x.z i k ∧ x.z i k ≤ 255
structure AlgIn (a : Alg) : Prop where
  b : AlgB a
  ok : a.p ∈ primes → (1 ≤ a.n ∧ a.n ≤ 6) → TabP a → AlgOk a
structure PrIn (x : Pr) : Prop where
  c : AlgIn x.c
  o : AlgIn x.o
  z : ∀ i, Byts (x.z i)
structure SAlgIn (a : Alg) : Prop where
  b : AlgB a
  ok : ShapeP a → AlgOk a
structure SPrIn (x : Pr) : Prop where
  c : SAlgIn x.c
  o : SAlgIn x.o
  z : ∀ i, Byts (x.z i)
def sCommP (a : Alg) : Prop := ∀ i : Nat, i < 6 → ∀ j : Nat, j < i → VEq (a.T i j) (a.T j i)
end Go.X
namespace Go.X
open Go Go.RowKit
theorem sz_ {p : Prop} (h : p := by first | omega | assumption | (simp only [List.length_take, List.length_drop, cel_len, row_len, rowsL_len, mapN_len, arr_len, List.length_append, List.length_cons, List.length_nil, List.length_map, List.length_replicate, maxRow]; omega)) : p := h
theorem om_ {p : Prop} (h : p := by omega) : p := h
theorem sd_ {p : Prop} (h : p := by first
  | exact rfl | omega | assumption
  | (and_intros <;> first | exact rfl | omega | decide | (simp only [List.length_take, List.length_drop, cel_len, row_len, rowsL_len, mapN_len, arr_len, List.length_append, List.length_cons, List.length_nil, List.length_map, List.length_replicate, maxRow]; omega))
  | (simp only [List.length_take, List.length_drop, cel_len, row_len, rowsL_len, mapN_len, arr_len, List.length_append, List.length_cons, List.length_nil, List.length_map, List.length_replicate, maxRow]; omega)
  | (simp only [List.length_take, List.length_drop, cel_len, row_len, rowsL_len, mapN_len, arr_len, List.length_append, List.length_cons, List.length_nil, List.length_map, List.length_replicate, maxRow]; done)
  | exact ⟨rfl, rfl, rfl, by (simp only [List.length_take, List.length_drop, cel_len, row_len, rowsL_len, mapN_len, arr_len, List.length_append, List.length_cons, List.length_nil, List.length_map, List.length_replicate, maxRow]; omega), fun p hp => by cases hp; rfl⟩
  | decide | exact Nat.lt_of_lt_of_eq (m := 6) (by omega) rfl | exact .inl rfl | exact .inr flat_row | exact .inr (flat2 (flat_cel _ _ _) (.bool _)) | exact .inr (.int _ _) | exact .inr (.bool _) | exact .inr (flat_cel _ _ _) | exact st_prog rfl | exact row_app rfl
  | (refine congrArg (fun x => AV.d (D.int .i64 x)) ?_; first | omega | (simp only [List.length_take, List.length_drop, cel_len, row_len, rowsL_len, mapN_len, arr_len, List.length_append, List.length_cons, List.length_nil, List.length_map, List.length_replicate, maxRow]; omega))
  | exact rowsL_app) : p := h
theorem rd1_ {p : Prop} (h : p := by with_reducible first
  | exact rfl | exact rd_celP (by omega) | exact rd_cel (by omega) | exact rd_idx (by omega) | exact rd_all | exact rd_stall rfl | exact rd_rowP (by omega) | exact rd_row (by omega) | exact get_rowsN (by omega) | exact get_rows (by omega) | exact get_row (by omega) | exact rd_rowsN (by omega) | exact rd_rows (by omega)
  | exact AlgAt.p ‹_› | exact AlgAt.n ‹_› | exact AlgAt.T ‹_› (by omega) (by omega) (by omega) | exact AlgAt.f ‹_› (by omega) | exact AlgAt.vecT ‹_› (by omega) (by omega) | exact AlgAt.vecf ‹_› | exact AlgAt.p (algAt_one _) | exact AlgAt.n (algAt_one _) | exact AlgAt.T (algAt_one _) (by omega) (by omega) (by omega) | exact AlgAt.f (algAt_one _) (by omega) | exact (algAt_one _).all | exact AlgAt.vecT (algAt_one _) (by omega) (by omega) | exact AlgAt.vecf (algAt_one _)) : p := h
theorem rd_ {p : Prop} (h : p := by first
  | exact rd1_
  | exact rd_celP (by omega) | exact rd_cel (by omega) | exact rd_idx (by omega) | exact rd_all | exact rd_stall rfl | exact rd_rowP (by omega) | exact rd_row (by omega) | exact get_rowsN (by omega) | exact get_rows (by omega) | exact get_row (by omega) | exact rd_rowsN (by omega) | exact rd_rows (by omega)
  | exact AlgAt.p ‹_› | exact AlgAt.n ‹_› | exact AlgAt.T ‹_› (by omega) (by omega) (by omega) | exact AlgAt.f ‹_› (by omega) | exact AlgAt.vecT ‹_› (by omega) (by omega) | exact AlgAt.vecf ‹_› | exact AlgAt.p (algAt_one _) | exact AlgAt.n (algAt_one _) | exact AlgAt.T (algAt_one _) (by omega) (by omega) (by omega) | exact AlgAt.f (algAt_one _) (by omega) | exact (algAt_one _).all | exact AlgAt.vecT (algAt_one _) (by omega) (by omega) | exact AlgAt.vecf (algAt_one _)
  | exact rfl) : p := h
theorem ifs_ : (∀ b : Bool, ((!b) = true) = (b = false)) ∧ (∀ b : Bool, ((!b) = false) = (b = true)) ∧ (∀ (p : Prop) [Decidable p], (decide p = true) = p) ∧ (∀ (p : Prop) [Decidable p], (decide p = false) = ¬ p) ∧
    (∀ a b : Int, ((a == b) = true) = (a = b)) ∧ (∀ a b : Int, ((a != b) = true) = ¬ (a = b)) ∧ (∀ a b : Int, ((a == b) = false) = ¬ (a = b)) ∧ (∀ a b : Int, ((a != b) = false) = (a = b)) ∧
    (∀ p : Prop, (¬ ¬ p) = p) ∧ ((!true) = false) ∧ ((!false) = true) ∧ ((false = true) = False) ∧ ((true = false) = False) ∧ (∀ a b : Int, (¬ (a < b)) = (b ≤ a)) ∧ (∀ a b : Int, (¬ (a ≤ b)) = (b < a)) ∧
    (∀ (α : Type) (a : α) (l : List α), (a :: l).length = l.length + 1) ∧ (∀ (α : Type) (l m : List α), (l ++ m).length = l.length + m.length) ∧ (∀ (α : Type) (l : List α) (n : Nat), (l.take n).length = min n l.length) ∧
    (∀ (α : Type) (l : List α) (n : Nat), (l.drop n).length = l.length - n) ∧ (∀ α : Type, ([] : List α).length = 0) ∧ (∀ m f, (row m f).length = m) ∧ (∀ m L, (rowsL m L).length = L.length) ∧
    (∀ k m f, (cel k m f).length = m) ∧ (∀ i g L, (mapN i g L).length = L.length) ∧ ((¬ True) = False) ∧ ((¬ False) = True) ∧ (∀ (α : Type) (a b : α), (a ≠ b) = ¬ (a = b)) := by
  refine ⟨fun b => by cases b <;> simp, fun b => by cases b <;> simp, fun p _ => by simp, fun p _ => by simp, fun a b => by simp, fun a b => by simp, fun a b => by simp, fun a b => by simp, fun p => by simp [Classical.not_not], rfl, rfl, by simp, by simp, fun a b => by simp, fun a b => by simp,
    fun α a l => by simp, fun α l m => by simp, fun α l n => by simp, fun α l n => by simp, fun α => by simp, row_len, rowsL_len, cel_len, mapN_len, by simp, by simp, fun α a b => rfl⟩
class IfG (g : Prop) (X Y A B : outParam Prop) : Prop where
  go : (X → A) → (Y → B) → g
instance {X Y A B : Prop} : IfG ((X → A) ∧ (Y → B)) X Y A B := ⟨fun a b => ⟨a, b⟩⟩
theorem if_ {g X Y A B p q : Prop} [i : IfG g X Y A B] (ha : p → A) (hb : q → B) (hp : X = p := by first | (conv => lhs; simp only [ifs_, Cm.int, reduceCtorEq, reduceIte]) | exact rfl) (hq : Y = q := by first | (conv => lhs; simp only [ifs_, Cm.int, reduceCtorEq, reduceIte]) | exact rfl) : g :=
  i.go (fun h => ha (hp ▸ h)) (fun h => hb (hq ▸ h))
class VS (g : Prop) (s r : outParam Prop) : Prop where
  go : s → r → g
instance {p q : Prop} : VS (p ∧ q) p q := ⟨fun a b => ⟨a, b⟩⟩
section
variable {x y : Int} {i n : Nat} {K : Int → Prop}
instance : VS (Ar.int .add .i64 x y K) (-9223372036854775808 ≤ x + y ∧ x + y ≤ 9223372036854775807) (K (x + y)) := ⟨ar_add⟩
instance : VS (Ar.int .sub .i64 x y K) (-9223372036854775808 ≤ x - y ∧ x - y ≤ 9223372036854775807) (K (x - y)) := ⟨ar_sub⟩
instance : VS (Ar.int .mul .i64 x y K) (-9223372036854775808 ≤ x * y ∧ x * y ≤ 9223372036854775807) (K (x * y)) := ⟨ar_mul⟩
instance : VS (wrapK .i64 x K) (-9223372036854775808 ≤ x ∧ x ≤ 9223372036854775807) (K x) := ⟨wk_i64⟩
instance : VS (wrapK .u8 x K) (0 ≤ x ∧ x ≤ 255) (K x) := ⟨wk_u8⟩
end
theorem vs_ {g s r : Prop} [i : VS g s r] (hr : r) (hs : s := by exact sd_) : g := i.go hs hr
class DivG (g : Prop) (o : outParam Ar) (x y : outParam Int) (K : outParam (Int → Prop)) : Prop where
  go : Ar.int o .i64 x y K → g
instance {o : Ar} {x y : Int} {K : Int → Prop} : DivG (Ar.int o .i64 x y K) o x y K := ⟨id⟩
def ArTo (o : Ar) (x y z : Int) : Prop := ∀ K : Int → Prop, K z → Ar.int o .i64 x y K
theorem dv_ {g : Prop} {o : Ar} {x y z : Int} {K : Int → Prop} [i : DivG g o x y K] (hk : K z) (h : ArTo o x y z := by first
  | exact fun _ => ar_remN om_ | exact fun _ => ar_quoN om_ | exact fun _ => ar_rem sz_ | exact fun _ => ar_quo sz_) : g := i.go (h K hk)
theorem fin_ {p : Prop} (h : p := by first | exact True.intro | (with_reducible exact rfl) | exact congrArg D.agg (cel_prog (by omega)) | exact Eq.refl _) : p := h
theorem ex_ {α : Type} {p q : α → Prop} {a : α} (hq : q a) (h : p a := by exact rd_) : ∃ x, p x ∧ q x := ⟨a, h, hq⟩
theorem ex2_ {α β : Type} {p q : α → β → Prop} {a : α} {b : β} (hq : q a b) (h : p a b := by exact rd_) : ∃ x y, p x y ∧ q x y := ⟨a, b, h, hq⟩
theorem lp_ {p : Prop} (h : p := by first | omega | (and_intros <;> first | omega | (intros; omega) | rfl | simp) | (intros; omega) | simp) : p := h
end Go.X
