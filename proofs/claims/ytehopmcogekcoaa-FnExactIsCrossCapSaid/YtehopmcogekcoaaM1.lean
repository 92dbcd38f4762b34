import Derived.Test.YtehopmcogekcoaaX5
set_option linter.all false
namespace Go.X
open Go Go.RowKit
def rO (d : Nat) (o : XOp) : RO := ⟨some d, d + 1, o, none, [], none⟩
def arr {α : Type} (m : Nat) (f : Nat → α) : List α := (List.range m).map f
theorem arr_len {α : Type} (m : Nat) (f : Nat → α) : (arr m f).length = m := by simp [arr]
theorem arr_get {α : Type} {m : Nat} {f : Nat → α} {i : Nat} (h : i < m) : (arr m f)[i]? = some (f i) := by simp [arr, h]
theorem arr_none {α : Type} {m : Nat} {f : Nat → α} {i : Nat} (h : m ≤ i) : (arr m f)[i]? = none := by simp [arr, h]
def upd {α : Type} (f : Nat → α) (i : Nat) (x : α) : Nat → α := fun j => if j = i then x else f j
theorem arr_ext {α : Type} {m : Nat} {f g : Nat → α} (h : ∀ i, i < m → f i = g i) : arr m f = arr m g := by
  apply List.ext_getElem?
  intro i
  rcases Nat.lt_or_ge i m with hi | hi
  · rw [arr_get hi, arr_get hi, h i hi]
  · rw [arr_none hi, arr_none hi]
theorem arr_of {α : Type} {m : Nat} {f : Nat → α} {l : List α} (hl : l.length = m) (h : ∀ i, i < m → l[i]? = some (f i)) : l = arr m f := by
  apply List.ext_getElem?
  intro i
  rcases Nat.lt_or_ge i m with hi | hi
  · rw [arr_get hi, h i hi]
  · rw [arr_none hi, List.getElem?_eq_none (by omega)]
theorem arr_set {α : Type} {m : Nat} {f : Nat → α} {i : Nat} {x : α} : (arr m f).set i x = arr m (upd f i x) := by
  refine arr_of (by simp [arr_len]) fun j hj => ?_
  rw [List.getElem?_set]
  unfold upd
  by_cases e : i = j
  · subst e; simp [arr_len, hj]
  · rw [if_neg e, if_neg (fun h => e h.symm), arr_get hj]
theorem arr_cut {m o n : Nat} {f : Nat → D} (h : o + n ≤ m) : cut (arr m f) o n = some (arr n fun i => f (o + i)) := by
  unfold cut
  rw [if_pos (by rw [arr_len]; exact h)]
  congr 1
  refine arr_of (by simp [arr_len]; omega) fun i hi => ?_
  rw [List.getElem?_take, if_pos hi, List.getElem?_drop, arr_get (by omega)]
theorem arr_splice {m o n : Nat} {f g : Nat → D} (h : o + n ≤ m) : splice (arr m f) o (arr n g) = arr m fun i => if o ≤ i ∧ i < o + n then g (i - o) else f i := by
  refine arr_of (by rw [splice_len (by rw [arr_len, arr_len]; exact h), arr_len]) fun i hi => ?_
  unfold splice
  rw [arr_len]
  by_cases c1 : i < o
  · rw [List.getElem?_append_left (by simp [arr_len]; omega), List.getElem?_take, if_pos c1, if_neg (by omega), arr_get hi]
  · have h1 : ((arr m f).take o).length = o := by simp [arr_len]; omega
    rw [List.getElem?_append_right (by omega), h1]
    by_cases c2 : i < o + n
    · rw [if_pos (by omega), List.getElem?_append_left (by rw [arr_len]; omega), arr_get (by omega)]
    · rw [if_neg (by omega), List.getElem?_append_right (by rw [arr_len]; omega), arr_len, List.getElem?_drop, arr_get (by omega)]
      congr 2; omega
theorem arr_replicate {α : Type} (m : Nat) (x : α) : List.replicate m x = arr m fun _ => x := arr_of (by simp) fun i hi => by simp [hi]
theorem arr_append {α : Type} (m : Nat) (f : Nat → α) (x : α) : arr m f ++ [x] = arr (m + 1) fun i => if i < m then f i else x := by
  refine arr_of (by simp [arr_len]) fun i hi => ?_
  rcases Nat.lt_or_ge i m with h | h
  · rw [List.getElem?_append_left (by rw [arr_len]; exact h), arr_get h, if_pos h]
  · rw [List.getElem?_append_right (by rw [arr_len]; exact h), arr_len, if_neg (by omega), show i - m = 0 from by omega]; rfl
theorem arr_succ {α : Type} (m : Nat) (f : Nat → α) : arr (m + 1) f = arr m f ++ [f m] := by
  rw [arr_append]; exact arr_ext fun i hi => by split <;> first | rfl | (congr 1; omega)
theorem arr_map {α β : Type} (m : Nat) (f : Nat → α) (g : α → β) : (arr m f).map g = arr m fun i => g (f i) := by simp [arr]
theorem upd_same {α : Type} (f : Nat → α) (i : Nat) (x : α) : upd f i x i = x := by simp [upd]
theorem upd_ne {α : Type} (f : Nat → α) {i j : Nat} (x : α) (h : j ≠ i) : upd f i x j = f j := by simp [upd, h]
def sumN : Nat → (Nat → Int) → Int
  | 0, _ => 0
  | n + 1, f => sumN n f + f n
theorem sumN_bd {f : Nat → Int} {B : Int} (h : ∀ i, 0 ≤ f i ∧ f i ≤ B) : ∀ n : Nat, 0 ≤ sumN n f ∧ sumN n f ≤ n * B
  | 0 => by simp [sumN]
  | n + 1 => by
    have h1 := sumN_bd h n
    have h2 := h n
    have e : ((n + 1 : Nat) : Int) * B = n * B + B := by rw [Int.natCast_add, Int.add_mul]; simp
    simp only [sumN]
    omega
theorem sumN_ext {f g : Nat → Int} : ∀ {n : Nat}, (∀ i, i < n → f i = g i) → sumN n f = sumN n g
  | 0, _ => rfl
  | n + 1, h => by simp only [sumN]; rw [sumN_ext fun i hi => h i (by omega), h n (by omega)]
theorem mul_bd {x y A B : Int} (hx : 0 ≤ x ∧ x ≤ A) (hy : 0 ≤ y ∧ y ≤ B) : 0 ≤ x * y ∧ x * y ≤ A * B :=
  ⟨Int.mul_nonneg hx.1 hy.1, Int.mul_le_mul hx.2 hy.2 hy.1 (by omega)⟩
theorem mod_bd (x : Int) {p : Int} (hp : 1 ≤ p) : 0 ≤ x % p ∧ x % p < p := ⟨Int.emod_nonneg _ (by omega), Int.emod_lt_of_pos _ (by omega)⟩
theorem ar_remN {i n : Nat} {K : Int → Prop} (hn : 1 ≤ n) (hk : K ((i % n : Nat) : Int)) : Ar.int .rem .i64 (i : Int) (n : Int) K :=
  ar_rem ⟨by omega, by omega⟩ (by rw [← Int.natCast_emod]; exact hk)
theorem ar_quoN {i n : Nat} {K : Int → Prop} (hn : 1 ≤ n ∧ i ≤ 1000000000) (hk : K ((i / n : Nat) : Int)) : Ar.int .quo .i64 (i : Int) (n : Int) K :=
  ar_quo ⟨by omega, by omega, by omega⟩ (by rw [← Int.natCast_ediv]; exact hk)
def cel (k : IntKind) (m : Nat) (f : Nat → Int) : List D := arr m fun i => .int k (f i)
theorem cel_len (k : IntKind) (m : Nat) (f : Nat → Int) : (cel k m f).length = m := arr_len ..
theorem cel_get {k : IntKind} {m : Nat} {f : Nat → Int} {i : Nat} (h : i < m) : (cel k m f)[i]? = some (.int k (f i)) := arr_get h
theorem cel_ext {k : IntKind} {m : Nat} {f g : Nat → Int} (h : ∀ i, i < m → f i = g i) : cel k m f = cel k m g := arr_ext fun i hi => by rw [h i hi]
theorem cel_inj {k : IntKind} {m : Nat} {f g : Nat → Int} (h : cel k m f = cel k m g) : ∀ i, i < m → f i = g i := by
  intro i hi
  have := congrArg (·[i]?) h
  simp only [cel_get hi, Option.some.injEq, D.int.injEq] at this
  exact this.2
theorem cel_set {k : IntKind} {m : Nat} {f : Nat → Int} {i : Nat} {x : Int} : (cel k m f).set i (.int k x) = cel k m (upd f i x) := by
  unfold cel
  rw [arr_set]
  refine arr_ext fun j _ => ?_
  unfold upd; split <;> rfl
def prog (i : Nat) (f g : Nat → Int) : Nat → Int := fun j => if j < i then f j else g j
theorem prog_zero (f g : Nat → Int) : prog 0 f g = g := by funext j; simp [prog]
theorem prog_get (i : Nat) (f g : Nat → Int) : prog i f g i = g i := by simp [prog]
theorem prog_upd (i : Nat) (f g : Nat → Int) : upd (prog i f g) i (f i) = prog (i + 1) f g := by
  funext j; unfold upd prog
  by_cases h : j = i
  · subst h; simp
  · rw [if_neg h]; by_cases h2 : j < i <;> simp [h2] <;> omega
theorem cel_prog {k : IntKind} {m i : Nat} {f g : Nat → Int} (h : m ≤ i) : cel k m (prog i f g) = cel k m f := cel_ext fun j hj => by unfold prog; rw [if_pos (by omega)]
theorem cel_prog0 {k : IntKind} {m : Nat} {f g : Nat → Int} : cel k m (prog 0 f g) = cel k m g := by rw [prog_zero]
theorem flat_cel (k : IntKind) (m : Nat) (f : Nat → Int) : Flat (.agg (cel k m f)) := .agg fun x hx => by
  simp only [cel, arr, List.mem_map] at hx
  obtain ⟨i, _, rfl⟩ := hx
  exact .int _ _
theorem flat2 {x y : D} (hx : Flat x) (hy : Flat y) : ∀ z ∈ [x, y], Flat z := by
  intro z hz
  simp only [List.mem_cons, List.not_mem_nil, or_false] at hz
  rcases hz with rfl | rfl
  · exact hx
  · exact hy
theorem rd_cel {k : IntKind} {m i : Nat} {f : Nat → Int} (h : i < m) : get2 [cel k m f] 0 (0 + ((i : Nat) : Int).toNat * 1) = some (.int k (f i)) := by
  simp [get2, cel_get h]
theorem rd_celP {k : IntKind} {m i : Nat} {f g : Nat → Int} (h : i < m) : get2 [cel k m (prog i f g)] 0 (0 + ((i : Nat) : Int).toNat * 1) = some (.int k (g i)) := by
  rw [rd_cel h, prog_get]
theorem rd_idx {k : IntKind} {m i : Nat} {f : Nat → Int} (h : i < m) : (cel k m f)[((i : Nat) : Int).toNat * 1]? = some (.int k (f i)) := by
  simp [cel_get h]
theorem rd_all {k : IntKind} {m : Nat} {f : Nat → Int} : sub2 [cel k m f] 0 0 m = some (cel k m f) := by
  simp only [sub2, cut, cel_len, List.getElem?_cons_zero, Option.bind_some, Nat.zero_add, Nat.le_refl, if_true, List.drop_zero]
  rw [List.take_of_length_le (by rw [cel_len]; omega)]
theorem rd_stall {k : IntKind} {m : Nat} {f : Nat → Int} {z : List D} (hz : z.length = m) : sub2 ([z].set 0 (splice z 0 (cel k m f))) 0 0 m = some (cel k m f) := by
  have e : splice z 0 (cel k m f) = cel k m f := by
    unfold splice
    rw [List.take_zero, List.nil_append, cel_len, List.drop_eq_nil_of_le (by omega), List.append_nil]
  rw [e]; exact rd_all
theorem st_prog {k : IntKind} {m i z : Nat} {f g : Nat → Int} {x : Int} (hx : x = f i) : Chunk.data z ([cel k m (prog i f g)].set 0 ((cel k m (prog i f g)).set (0 + ((i : Nat) : Int).toNat * 1) (.int k x))) = .data z [cel k m (prog (i + 1) f g)] := by
  subst hx
  simp only [Nat.zero_add, Int.toNat_natCast, Nat.mul_one]
  rw [cel_set, prog_upd]; rfl
theorem zeros6 {k : IntKind} {f : Nat → Int} (h : ∀ i, i < 6 → f i = 0) : Chunk.data 6 [[.int k 0, .int k 0, .int k 0, .int k 0, .int k 0, .int k 0]] = Chunk.data 6 [cel k 6 f] := by
  rw [cel_ext (g := fun _ => 0) h]; rfl
def row (m : Nat) (f : Nat → Int) : List (List D) := arr m fun i => [.int .i64 (f i)]
abbrev rowD (m : Nat) (f : Nat → Int) : D := .lst 1 (row m f)
theorem row_len (m : Nat) (f : Nat → Int) : (row m f).length = m := arr_len ..
theorem row_ext {m : Nat} {f g : Nat → Int} (h : ∀ i, i < m → f i = g i) : row m f = row m g := arr_ext fun i hi => by rw [h i hi]
theorem flat_row {m : Nat} {f : Nat → Int} : ∀ e ∈ row m f, ∀ x ∈ e, Flat x := by
  intro e he x hx
  simp only [row, arr, List.mem_map] at he
  obtain ⟨i, _, rfl⟩ := he
  simp only [List.mem_singleton] at hx
  subst hx; exact .int _ _
theorem rd_row {m i : Nat} {f : Nat → Int} (h : i < m) : get2 (row m f) ((i : Nat) : Int).toNat 0 = some (.int .i64 (f i)) := by
  simp [get2, row, arr_get h]
theorem row_app {m z : Nat} {f : Nat → Int} {x : Int} (hx : x = f m) : Chunk.data z (row m f ++ [[.int .i64 x]]) = .data z (row (m + 1) f) := by
  subst hx; unfold row; rw [arr_succ]
theorem row_set {m i z : Nat} {f g : Nat → Int} {x : Int} (hx : ∀ j, j < m → (if j = i then x else f j) = g j) : Chunk.data z ((row m f).set ((i : Nat) : Int).toNat (([.int .i64 (f i)] : List D).set 0 (.int .i64 x))) = .data z (row m g) := by
  rw [Int.toNat_natCast]
  congr 1
  unfold row
  rw [arr_set]
  refine arr_ext fun j hj => ?_
  rw [← hx j hj]
  unfold upd
  split <;> rfl
abbrev vecL (v : Nat → Int) : List D := cel .u8 6 v
abbrev vecD (v : Nat → Int) : D := .agg (vecL v)
def Byts (v : Nat → Int) : Prop := ∀ i, 0 ≤ v i ∧ v i ≤ 255
structure Alg where
  p : Int
  n : Int
  T : Nat → Nat → Nat → Int
  f : Nat → Int
def algF (a : Alg) : Nat → D := fun q => if q = 0 then .int .i64 a.p else if q = 1 then .int .i64 a.n else if q < 218 then .int .u8 (a.T ((q - 2) / 36) ((q - 2) / 6 % 6) ((q - 2) % 6)) else .int .u8 (a.f (q - 218))
def algL (a : Alg) : List D := arr 224 (algF a)
abbrev algD (a : Alg) : D := .agg (algL a)
theorem algF_T (a : Alg) {i j k : Nat} (hi : i < 6) (hj : j < 6) (hk : k < 6) : algF a (2 + i * 36 + j * 6 + k) = .int .u8 (a.T i j k) := by
  unfold algF
  rw [if_neg (by omega), if_neg (by omega), if_pos (by omega)]
  rw [show (2 + i * 36 + j * 6 + k - 2) / 36 = i from by omega, show (2 + i * 36 + j * 6 + k - 2) / 6 % 6 = j from by omega, show (2 + i * 36 + j * 6 + k - 2) % 6 = k from by omega]
theorem algF_f (a : Alg) {i : Nat} (hi : i < 6) : algF a (218 + i) = .int .u8 (a.f i) := by
  unfold algF
  rw [if_neg (by omega), if_neg (by omega), if_neg (by omega), show 218 + i - 218 = i from by omega]
def AlgAt (l : List (List D)) (e off : Nat) (a : Alg) : Prop := ∀ q, q < 224 → get2 l e (off + q) = some (algF a q)
theorem AlgAt.p {l : List (List D)} {e off : Nat} {a : Alg} (h : AlgAt l e off a) : get2 l e off = some (.int .i64 a.p) := h 0 (by omega)
theorem AlgAt.n {l : List (List D)} {e off : Nat} {a : Alg} (h : AlgAt l e off a) : get2 l e (off + 1) = some (.int .i64 a.n) := h 1 (by omega)
theorem AlgAt.T {l : List (List D)} {e off : Nat} {a : Alg} (h : AlgAt l e off a) {i j k : Nat} (hi : i < 6) (hj : j < 6) (hk : k < 6) :
    get2 l e (off + 2 + ((i : Nat) : Int).toNat * 36 + ((j : Nat) : Int).toNat * 6 + ((k : Nat) : Int).toNat * 1) = some (.int .u8 (a.T i j k)) := by
  rw [← algF_T a hi hj hk, ← h _ (by omega)]; congr 1; omega
theorem AlgAt.f {l : List (List D)} {e off : Nat} {a : Alg} (h : AlgAt l e off a) {i : Nat} (hi : i < 6) : get2 l e (off + 218 + ((i : Nat) : Int).toNat * 1) = some (.int .u8 (a.f i)) := by
  rw [← algF_f a hi, ← h _ (by omega)]; congr 1; omega
theorem sub2_of {l : List (List D)} {e o n : Nat} {f : Nat → D} (h : ∀ q, q < n → get2 l e (o + q) = some (f q)) (hn : 0 < n) : sub2 l e o n = some (arr n f) := by
  unfold sub2
  have h0 := h 0 hn
  unfold get2 at h0
  cases hr : l[e]? with
  | none => rw [hr] at h0; cases h0
  | some r =>
    simp only [Option.bind_some]
    have hget : ∀ q, q < n → r[o + q]? = some (f q) := fun q hq => by
      have := h q hq; unfold get2 at this; rw [hr] at this; simpa using this
    have hlen : o + n ≤ r.length := by
      have := (List.getElem?_eq_some_iff.1 (hget (n - 1) (by omega))).1; omega
    unfold cut
    rw [if_pos hlen]
    congr 1
    refine arr_of (by simp; omega) fun i hi => ?_
    rw [List.getElem?_take, if_pos hi, List.getElem?_drop, hget i hi]
theorem AlgAt.vecT {l : List (List D)} {e off : Nat} {a : Alg} (h : AlgAt l e off a) {i j : Nat} (hi : i < 6) (hj : j < 6) : sub2 l e (off + 2 + ((i : Nat) : Int).toNat * 36 + ((j : Nat) : Int).toNat * 6) 6 = some (vecL (a.T i j)) :=
  sub2_of (fun q hq => by rw [← algF_T a hi hj hq, ← h _ (by omega)]; congr 1; omega) (by omega)
theorem AlgAt.vecf {l : List (List D)} {e off : Nat} {a : Alg} (h : AlgAt l e off a) : sub2 l e (off + 218) 6 = some (vecL a.f) :=
  sub2_of (fun q hq => by rw [← algF_f a hq, ← h _ (by omega)]; congr 1; omega) (by omega)
theorem AlgAt.all {l : List (List D)} {e off : Nat} {a : Alg} (h : AlgAt l e off a) : sub2 l e off 224 = some (algL a) := sub2_of h (by omega)
theorem algAt_one (a : Alg) : AlgAt [algL a] 0 0 a := fun q hq => by
  simp [get2, algL, arr_get hq]
def AlgB (a : Alg) : Prop := (∀ i j k, 0 ≤ a.T i j k ∧ a.T i j k ≤ 255) ∧ ∀ i, 0 ≤ a.f i ∧ a.f i ≤ 255
abbrev Row := Nat → Int
def Z : Row := fun _ => 0
def rowsL (m : Nat) (L : List Row) : List (List D) := L.map fun r => [.lst 1 (row m r)]
abbrev rowsD (m : Nat) (L : List Row) : D := .lst 1 (rowsL m L)
theorem rowsL_len (m : Nat) (L : List Row) : (rowsL m L).length = L.length := by simp [rowsL]
theorem rd_rows {m i : Nat} {L : List Row} (h : i < L.length) : get2 (rowsL m L) ((i : Nat) : Int).toNat 0 = some (rowD m (L.getD i Z)) := by
  simp [get2, rowsL, List.getElem?_eq_getElem h]
theorem rowsL_app {m z : Nat} {L : List Row} {r : Row} : Chunk.data z (rowsL m L ++ [[rowD m r]]) = .data z (rowsL m (L ++ [r])) := by simp [rowsL]
def mapN (i : Nat) (g : Row → Row) (L : List Row) : List Row := (L.take i).map g ++ L.drop i
theorem mapN_zero (g : Row → Row) (L : List Row) : mapN 0 g L = L := by simp [mapN]
theorem mapN_all {i : Nat} {g : Row → Row} {L : List Row} (h : L.length ≤ i) : mapN i g L = L.map g := by
  simp [mapN, List.take_of_length_le h, List.drop_eq_nil_of_le h]
theorem mapN_len (i : Nat) (g : Row → Row) (L : List Row) : (mapN i g L).length = L.length := by simp [mapN]; omega
theorem mapN_get {i : Nat} {g : Row → Row} {L : List Row} (h : i < L.length) : (mapN i g L).getD i Z = L.getD i Z := by
  have h1 : (List.map g (L.take i)).length = i := by simp; omega
  simp only [mapN, List.getD_eq_getElem?_getD]
  rw [List.getElem?_append_right (by omega), h1, List.getElem?_drop]; simp
theorem mapN_set {i : Nat} {g : Row → Row} {L : List Row} (h : i < L.length) : (mapN i g L).set i (g (L.getD i Z)) = mapN (i + 1) g L := by
  have h1 : (List.map g (L.take i)).length = i := by simp; omega
  apply List.ext_getElem?
  intro j
  have h2 : (List.map g (L.take (i + 1))).length = i + 1 := by simp; omega
  rw [List.getElem?_set, mapN_len]
  simp only [mapN]
  by_cases e : i = j
  · subst e
    rw [if_pos rfl, if_pos h, List.getElem?_append_left (by omega), List.getElem?_map, List.getElem?_take, if_pos (by omega)]
    simp [List.getElem?_eq_getElem h]
  · rw [if_neg e]
    rcases Nat.lt_or_ge j i with hj | hj
    · rw [List.getElem?_append_left (by omega), List.getElem?_append_left (by omega), List.getElem?_map, List.getElem?_map, List.getElem?_take, List.getElem?_take, if_pos hj, if_pos (by omega)]
    · rw [List.getElem?_append_right (by omega), List.getElem?_append_right (by omega), h1, h2, List.getElem?_drop, List.getElem?_drop]
      congr 1; omega
theorem row_prog {m z i : Nat} {f g : Nat → Int} {x : Int} (hx : x = f i) : Chunk.data z ((row m (prog i f g)).set ((i : Nat) : Int).toNat (([.int .i64 (prog i f g i)] : List D).set 0 (.int .i64 x))) = .data z (row m (prog (i + 1) f g)) :=
  row_set fun j _ => by
    subst hx
    have := congrFun (prog_upd i f g) j
    unfold upd at this
    exact this
theorem rd_rowP {m i : Nat} {f g : Nat → Int} (h : i < m) : get2 (row m (prog i f g)) ((i : Nat) : Int).toNat 0 = some (.int .i64 (g i)) := by
  rw [rd_row h, prog_get]
theorem rowsL_set {m i z : Nat} {g : Row → Row} {L : List Row} {x : D} (h : i < L.length) (hx : x = rowD m (g (L.getD i Z))) {old : List D} (ho : old.length = 1) :
    Chunk.data z ((rowsL m (mapN i g L)).set ((i : Nat) : Int).toNat (old.set 0 x)) = .data z (rowsL m (mapN (i + 1) g L)) := by
  subst hx
  rw [← mapN_set h, Int.toNat_natCast]
  congr 1
  obtain ⟨y, rfl⟩ : ∃ y, old = [y] := by
    match old, ho with
    | [y], _ => exact ⟨y, rfl⟩
  simp [rowsL, List.map_set]
theorem rd_rowsN {m i : Nat} {g : Row → Row} {L : List Row} (h : i < L.length) : get2 (rowsL m (mapN i g L)) ((i : Nat) : Int).toNat 0 = some (rowD m (L.getD i Z)) := by
  rw [rd_rows (by rw [mapN_len]; exact h), mapN_get h]
theorem get_rows {m i : Nat} {L : List Row} (h : i < L.length) : (rowsL m L)[((i : Nat) : Int).toNat]? = some [rowD m (L.getD i Z)] := by
  simp [rowsL, List.getElem?_eq_getElem h]
theorem get_rowsN {m i : Nat} {g : Row → Row} {L : List Row} (h : i < L.length) : (rowsL m (mapN i g L))[((i : Nat) : Int).toNat]? = some [rowD m (L.getD i Z)] := by
  rw [get_rows (by rw [mapN_len]; exact h), mapN_get h]
theorem get_row {m i : Nat} {f : Nat → Int} (h : i < m) : (row m f)[((i : Nat) : Int).toNat]? = some [.int .i64 (f i)] := by
  simp [row, arr_get h]
def idxF (q : Nat → Bool) (n : Nat) : Int := match (List.range n).find? q with
  | some k => k
  | none => -1
theorem idxF_some {q : Nat → Bool} {n i : Nat} (hi : i < n) (hq : q i = true) (h : ∀ j, j < i → q j = false) : idxF q n = i := by
  unfold idxF
  have : (List.range n).find? q = some i := by
    rw [List.find?_eq_some_iff_getElem]
    exact ⟨hq, i, by simpa using hi, by simp, fun j hj => by simp [h j hj]⟩
  rw [this]
theorem idxF_none {q : Nat → Bool} {n : Nat} (h : ∀ j, j < n → q j = false) : idxF q n = -1 := by
  unfold idxF
  have : (List.range n).find? q = none := by
    rw [List.find?_eq_none]
    intro j hj
    simp [h j (by simpa using hj)]
  rw [this]
theorem idxF_cases (q : Nat → Bool) (n : Nat) : (idxF q n = -1 ∧ ∀ j, j < n → q j = false) ∨ ∃ i, i < n ∧ idxF q n = (i : Nat) ∧ q i = true ∧ ∀ j, j < i → q j = false := by
  cases h : (List.range n).find? q with
  | none =>
    left
    have h' := List.find?_eq_none.1 h
    have : ∀ j, j < n → q j = false := fun j hj => by have := h' j (by simpa using hj); simpa using this
    exact ⟨idxF_none this, this⟩
  | some k =>
    right
    obtain ⟨hq, i, hi, e, hj⟩ := List.find?_eq_some_iff_getElem.1 h
    simp at e hi
    subst e
    have hj' : ∀ j, j < i → q j = false := fun j hlt => by have := hj j hlt; simpa using this
    exact ⟨i, hi, idxF_some hi hq hj', hq, hj'⟩
def Small (v : Nat → Int) (n p : Int) : Prop := ∀ i : Nat, i < 6 → v i < p ∧ (n ≤ (i : Int) → v i = 0)
instance (v : Nat → Int) (n p : Int) : Decidable (Small v n p) := by unfold Small; infer_instance
theorem neg_lt_tmod (x : Int) {p : Int} (hp : 0 < p) : -p < x.tmod p := by
  have := Int.tmod_lt_of_pos (-x) hp
  rw [Int.neg_tmod] at this
  omega
theorem small_no {v : Nat → Int} {n p : Int} {i : Nat} (hi : i < 6) (h : p ≤ v i ∨ n ≤ (i : Int) ∧ v i ≠ 0) : D.bool false = .bool (decide (Small v n p)) :=
  congrArg D.bool (decide_eq_false fun hs => by
    have := hs i hi
    rcases h with h | h
    · omega
    · exact h.2 (this.2 h.1)).symm
theorem small_yes {v : Nat → Int} {n p : Int} {i : Nat} (hi : 6 ≤ i) (h : ∀ j : Nat, j < i → v j < p ∧ (n ≤ (j : Int) → v j = 0)) : D.bool true = .bool (decide (Small v n p)) :=
  congrArg D.bool (decide_eq_true fun j hj => h j (by omega)).symm
theorem all_succ {Q : Nat → Prop} {i : Nat} (h : ∀ j, j < i → Q j) (hi : Q i) : ∀ j, j < i + 1 → Q j := fun j hj => by
  rcases Nat.lt_or_ge j i with h1 | h1
  · exact h j h1
  · exact (show i = j by omega) ▸ hi
theorem tmod_mod {x p : Int} (hp : 1 ≤ p) : (x.tmod p + p).tmod p = x % p := by
  have h1 : 0 ≤ x.tmod p + p := by
    have := neg_lt_tmod x (show 0 < p by omega)
    omega
  rw [Int.tmod_eq_emod_of_nonneg h1]
  have h2 : x.tmod p = x - p * x.tdiv p := by have := Int.tmod_add_mul_tdiv x p; omega
  rw [h2, show x - p * x.tdiv p + p = x + p * (1 - x.tdiv p) by rw [Int.mul_sub]; omega]
  exact Int.add_mul_emod_self_left ..
theorem tmod_mod' {x p : Int} (hp : 1 ≤ p) : (x.tmod p + p) % p = x % p := by
  have := tmod_mod (x := x) hp
  rwa [Int.tmod_eq_emod_of_nonneg (by have := neg_lt_tmod x (show 0 < p by omega); omega)] at this
theorem tmod_bd {x p : Int} (hp : 1 ≤ p) : -p < x.tmod p ∧ x.tmod p < p := ⟨neg_lt_tmod x (by omega), Int.tmod_lt_of_pos x (by omega)⟩
def addV (p k : Int) (v w : Nat → Int) : Nat → Int := fun i => (v i + k * w i) % p
def basV (i : Nat) : Nat → Int := fun j => if j = i then 1 else 0
def tsum (a : Alg) (v w : Nat → Int) (k i : Nat) : Int := sumN i fun i => sumN a.n.toNat fun j => v i * w j * a.T i j k
def timesV (a : Alg) (v w : Nat → Int) : Nat → Int := fun k => if (k : Int) < a.n then tsum a v w k a.n.toNat % a.p else 0
def fsum (a : Alg) (v : Nat → Int) (i : Nat) : Int := sumN i fun i => v i * a.f i
def formV (a : Alg) (v : Nat → Int) : Int := fsum a v 6 % a.p
def lessR (p by_ : Int) (r o : Nat → Int) : Nat → Int := fun i => (r i - by_ * o i) % p
def scaleR (p by_ : Int) (r : Nat → Int) : Nat → Int := fun i => r i * by_ % p
def leadF (m : Nat) (r : Nat → Int) : Int := idxF (fun i => r i != 0) m
def invF (p x : Int) : Int := match (List.range p.toNat).find? (fun k => decide (1 ≤ k) && (((k : Nat) : Int) * (x % p) % p == 1)) with
  | some k => k
  | none => 0
def primes : List Int := [2, 3, 5, 7, 11, 13]
theorem mem_primes {p : Int} : p ∈ primes ↔ p = 2 ∨ p = 3 ∨ p = 5 ∨ p = 7 ∨ p = 11 ∨ p = 13 := by simp [primes]
theorem idx_primes (p : Int) : 0 ≤ idxF (fun i => primes.getD i 0 == p) 6 ↔ p ∈ primes := by
  rw [mem_primes]
  rcases idxF_cases (fun i => primes.getD i 0 == p) 6 with ⟨h1, h2⟩ | ⟨i, hi, h1, h2, _⟩
  · rw [h1]
    have a0 := h2 0 (by omega); have a1 := h2 1 (by omega); have a2 := h2 2 (by omega); have a3 := h2 3 (by omega); have a4 := h2 4 (by omega); have a5 := h2 5 (by omega)
    simp [primes] at a0 a1 a2 a3 a4 a5
    omega
  · rw [h1]
    simp only [beq_iff_eq] at h2
    have : i = 0 ∨ i = 1 ∨ i = 2 ∨ i = 3 ∨ i = 4 ∨ i = 5 := by omega
    rcases this with rfl | rfl | rfl | rfl | rfl | rfl <;> simp [primes] at h2 <;> omega
def powR (n p : Int) : Nat → Int
  | 0 => 1
  | k + 1 => powR n p k * n % p
theorem powR_bd {n p : Int} (hp : 1 ≤ p) : ∀ k, 0 ≤ powR n p k ∧ (powR n p k ≤ 1 ∨ powR n p k < p)
  | 0 => by simp [powR]
  | k + 1 => by have := mod_bd (powR n p k * n) hp; simp only [powR]; omega
theorem inv_pow {p x : Int} (hp : p ∈ primes) (hx : 0 < x ∧ x < p) : powR x p (p - 2).toNat = invF p x := by
  have : ∀ p ∈ primes, ∀ x ∈ (List.range 13).map Int.ofNat, 0 < x → x < p → powR x p (p - 2).toNat = invF p x := by decide +kernel
  have hp13 : p ≤ 13 := by
    have : ∀ p ∈ primes, p ≤ 13 := by decide
    exact this p hp
  exact this p hp x (by rw [List.mem_map]; exact ⟨x.toNat, by simp; omega, by simp; omega⟩) hx.1 hx.2
theorem prime_bd {p : Int} (hp : p ∈ primes) : 2 ≤ p ∧ p ≤ 13 := by
  have : ∀ p ∈ primes, 2 ≤ p ∧ p ≤ 13 := by decide
  exact this p hp
theorem inv_mul {p x : Int} (hp : p ∈ primes) (hx : 0 < x ∧ x < p) : invF p x * x % p = 1 ∧ 0 < invF p x ∧ invF p x < p := by
  have : ∀ p ∈ primes, ∀ x ∈ (List.range 13).map Int.ofNat, 0 < x → x < p → invF p x * x % p = 1 ∧ 0 < invF p x ∧ invF p x < p := by decide +kernel
  have := prime_bd hp
  rename_i h0
  exact h0 p hp x (by rw [List.mem_map]; exact ⟨x.toNat, by simp; omega, by simp; omega⟩) hx.1 hx.2
end Go.X
