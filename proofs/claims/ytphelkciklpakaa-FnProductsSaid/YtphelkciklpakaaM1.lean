import Derived.Test.YtphelkciklpakaaX5
set_option linter.all false
namespace Go.X
open Go Go.RowKit
def rO (d : Nat) (o : XOp) : RO := ⟨some d, d + 1, o, none, [], none⟩
def arr {α : Type} (m : Nat) (f : Nat → α) : List α := (List.range m).map f
theorem arr_len {α : Type} (m : Nat) (f : Nat → α) : (arr m f).length = m := by simp [arr]
theorem arr_get {α : Type} {m : Nat} {f : Nat → α} {i : Nat} (h : i < m) : (arr m f)[i]? = some (f i) := by simp [arr, h]
theorem arr_none {α : Type} {m : Nat} {f : Nat → α} {i : Nat} (h : m ≤ i) : (arr m f)[i]? = none := by simp [arr, h]
def upd {α : Type} (f : Nat → α) (i : Nat) (x : α) : Nat → α := fun j => if j = i then x else f j
theorem arr_ext {α : Type} {m : Nat} {f g : Nat → α} (h : ∀ i, i < m → f i = g i) : arr m f = arr m g := by
  apply List.ext_getElem?
  intro i
  rcases Nat.lt_or_ge i m with hi | hi
  · rw [arr_get hi, arr_get hi, h i hi]
  · rw [arr_none hi, arr_none hi]
theorem arr_of {α : Type} {m : Nat} {f : Nat → α} {l : List α} (hl : l.length = m) (h : ∀ i, i < m → l[i]? = some (f i)) : l = arr m f := by
  apply List.ext_getElem?
  intro i
  rcases Nat.lt_or_ge i m with hi | hi
  · rw [arr_get hi, h i hi]
  · rw [arr_none hi, List.getElem?_eq_none (by omega)]
theorem arr_set {α : Type} {m : Nat} {f : Nat → α} {i : Nat} {x : α} : (arr m f).set i x = arr m (upd f i x) := by
  refine arr_of (by simp [arr_len]) fun j hj => ?_
  rw [List.getElem?_set]
  unfold upd
  by_cases e : i = j
  · subst e; simp [arr_len, hj]
  · rw [if_neg e, if_neg (fun h => e h.symm), arr_get hj]
theorem arr_cut {m o n : Nat} {f : Nat → D} (h : o + n ≤ m) : cut (arr m f) o n = some (arr n fun i => f (o + i)) := by
  unfold cut
  rw [if_pos (by rw [arr_len]; exact h)]
  congr 1
  refine arr_of (by simp [arr_len]; omega) fun i hi => ?_
  rw [List.getElem?_take, if_pos hi, List.getElem?_drop, arr_get (by omega)]
theorem arr_splice {m o n : Nat} {f g : Nat → D} (h : o + n ≤ m) : splice (arr m f) o (arr n g) = arr m fun i => if o ≤ i ∧ i < o + n then g (i - o) else f i := by
  refine arr_of (by rw [splice_len (by rw [arr_len, arr_len]; exact h), arr_len]) fun i hi => ?_
  unfold splice
  rw [arr_len]
  by_cases c1 : i < o
  · rw [List.getElem?_append_left (by simp [arr_len]; omega), List.getElem?_take, if_pos c1, if_neg (by omega), arr_get hi]
  · have h1 : ((arr m f).take o).length = o := by simp [arr_len]; omega
    rw [List.getElem?_append_right (by omega), h1]
    by_cases c2 : i < o + n
    · rw [if_pos (by omega), List.getElem?_append_left (by rw [arr_len]; omega), arr_get (by omega)]
    · rw [if_neg (by omega), List.getElem?_append_right (by rw [arr_len]; omega), arr_len, List.getElem?_drop, arr_get (by omega)]
      congr 2; omega
theorem arr_replicate {α : Type} (m : Nat) (x : α) : List.replicate m x = arr m fun _ => x := arr_of (by simp) fun i hi => by simp [hi]
theorem arr_append {α : Type} (m : Nat) (f : Nat → α) (x : α) : arr m f ++ [x] = arr (m + 1) fun i => if i < m then f i else x := by
  refine arr_of (by simp [arr_len]) fun i hi => ?_
  rcases Nat.lt_or_ge i m with h | h
  · rw [List.getElem?_append_left (by rw [arr_len]; exact h), arr_get h, if_pos h]
  · rw [List.getElem?_append_right (by rw [arr_len]; exact h), arr_len, if_neg (by omega), show i - m = 0 from by omega]; rfl
theorem arr_succ {α : Type} (m : Nat) (f : Nat → α) : arr (m + 1) f = arr m f ++ [f m] := by
  rw [arr_append]; exact arr_ext fun i hi => by split <;> first | rfl | (congr 1; omega)
theorem arr_map {α β : Type} (m : Nat) (f : Nat → α) (g : α → β) : (arr m f).map g = arr m fun i => g (f i) := by simp [arr]
theorem upd_same {α : Type} (f : Nat → α) (i : Nat) (x : α) : upd f i x i = x := by simp [upd]
theorem upd_ne {α : Type} (f : Nat → α) {i j : Nat} (x : α) (h : j ≠ i) : upd f i x j = f j := by simp [upd, h]
def sumN : Nat → (Nat → Int) → Int
  | 0, _ => 0
  | n + 1, f => sumN n f + f n
theorem sumN_bd {f : Nat → Int} {B : Int} (h : ∀ i, 0 ≤ f i ∧ f i ≤ B) : ∀ n : Nat, 0 ≤ sumN n f ∧ sumN n f ≤ n * B
  | 0 => by simp [sumN]
  | n + 1 => by
    have h1 := sumN_bd h n
    have h2 := h n
    have e : ((n + 1 : Nat) : Int) * B = n * B + B := by rw [Int.natCast_add, Int.add_mul]; simp
    simp only [sumN]
    omega
theorem sumN_ext {f g : Nat → Int} : ∀ {n : Nat}, (∀ i, i < n → f i = g i) → sumN n f = sumN n g
  | 0, _ => rfl
  | n + 1, h => by simp only [sumN]; rw [sumN_ext fun i hi => h i (by omega), h n (by omega)]
theorem mul_bd {x y A B : Int} (hx : 0 ≤ x ∧ x ≤ A) (hy : 0 ≤ y ∧ y ≤ B) : 0 ≤ x * y ∧ x * y ≤ A * B :=
  ⟨Int.mul_nonneg hx.1 hy.1, Int.mul_le_mul hx.2 hy.2 hy.1 (by omega)⟩
theorem mod_bd (x : Int) {p : Int} (hp : 1 ≤ p) : 0 ≤ x % p ∧ x % p < p := ⟨Int.emod_nonneg _ (by omega), Int.emod_lt_of_pos _ (by omega)⟩
theorem ar_remN {i n : Nat} {K : Int → Prop} (hn : 1 ≤ n) (hk : K ((i % n : Nat) : Int)) : Ar.int .rem .i64 (i : Int) (n : Int) K :=
  ar_rem ⟨by omega, by omega⟩ (by rw [← Int.natCast_emod]; exact hk)
theorem ar_quoN {i n : Nat} {K : Int → Prop} (hn : 1 ≤ n ∧ i ≤ 1000000000) (hk : K ((i / n : Nat) : Int)) : Ar.int .quo .i64 (i : Int) (n : Int) K :=
  ar_quo ⟨by omega, by omega, by omega⟩ (by rw [← Int.natCast_ediv]; exact hk)
def cel (k : IntKind) (m : Nat) (f : Nat → Int) : List D := arr m fun i => .int k (f i)
theorem cel_len (k : IntKind) (m : Nat) (f : Nat → Int) : (cel k m f).length = m := arr_len ..
theorem cel_get {k : IntKind} {m : Nat} {f : Nat → Int} {i : Nat} (h : i < m) : (cel k m f)[i]? = some (.int k (f i)) := arr_get h
theorem cel_ext {k : IntKind} {m : Nat} {f g : Nat → Int} (h : ∀ i, i < m → f i = g i) : cel k m f = cel k m g := arr_ext fun i hi => by rw [h i hi]
theorem cel_inj {k : IntKind} {m : Nat} {f g : Nat → Int} (h : cel k m f = cel k m g) : ∀ i, i < m → f i = g i := by
  intro i hi
  have := congrArg (·[i]?) h
  simp only [cel_get hi, Option.some.injEq, D.int.injEq] at this
  exact this.2
theorem cel_set {k : IntKind} {m : Nat} {f : Nat → Int} {i : Nat} {x : Int} : (cel k m f).set i (.int k x) = cel k m (upd f i x) := by
  unfold cel
  rw [arr_set]
  refine arr_ext fun j _ => ?_
  unfold upd; split <;> rfl
def prog (i : Nat) (f g : Nat → Int) : Nat → Int := fun j => if j < i then f j else g j
theorem prog_zero (f g : Nat → Int) : prog 0 f g = g := by funext j; simp [prog]
theorem prog_get (i : Nat) (f g : Nat → Int) : prog i f g i = g i := by simp [prog]
theorem prog_upd (i : Nat) (f g : Nat → Int) : upd (prog i f g) i (f i) = prog (i + 1) f g := by
  funext j; unfold upd prog
  by_cases h : j = i
  · subst h; simp
  · rw [if_neg h]; by_cases h2 : j < i <;> simp [h2] <;> omega
theorem cel_prog {k : IntKind} {m i : Nat} {f g : Nat → Int} (h : m ≤ i) : cel k m (prog i f g) = cel k m f := cel_ext fun j hj => by unfold prog; rw [if_pos (by omega)]
theorem cel_prog0 {k : IntKind} {m : Nat} {f g : Nat → Int} : cel k m (prog 0 f g) = cel k m g := by rw [prog_zero]
theorem flat_cel (k : IntKind) (m : Nat) (f : Nat → Int) : Flat (.agg (cel k m f)) := .agg fun x hx => by
  simp only [cel, arr, List.mem_map] at hx
  obtain ⟨i, _, rfl⟩ := hx
  exact .int _ _
theorem flat2 {x y : D} (hx : Flat x) (hy : Flat y) : ∀ z ∈ [x, y], Flat z := by
  intro z hz
  simp only [List.mem_cons, List.not_mem_nil, or_false] at hz
  rcases hz with rfl | rfl
  · exact hx
  · exact hy
theorem rd_cel {k : IntKind} {m i : Nat} {f : Nat → Int} (h : i < m) : get2 [cel k m f] 0 (0 + ((i : Nat) : Int).toNat * 1) = some (.int k (f i)) := by
  simp [get2, cel_get h]
theorem rd_celP {k : IntKind} {m i : Nat} {f g : Nat → Int} (h : i < m) : get2 [cel k m (prog i f g)] 0 (0 + ((i : Nat) : Int).toNat * 1) = some (.int k (g i)) := by
  rw [rd_cel h, prog_get]
theorem rd_idx {k : IntKind} {m i : Nat} {f : Nat → Int} (h : i < m) : (cel k m f)[((i : Nat) : Int).toNat * 1]? = some (.int k (f i)) := by
  simp [cel_get h]
theorem rd_all {k : IntKind} {m : Nat} {f : Nat → Int} : sub2 [cel k m f] 0 0 m = some (cel k m f) := by
  simp only [sub2, cut, cel_len, List.getElem?_cons_zero, Option.bind_some, Nat.zero_add, Nat.le_refl, if_true, List.drop_zero]
  rw [List.take_of_length_le (by rw [cel_len]; omega)]
theorem rd_stall {k : IntKind} {m : Nat} {f : Nat → Int} {z : List D} (hz : z.length = m) : sub2 ([z].set 0 (splice z 0 (cel k m f))) 0 0 m = some (cel k m f) := by
  have e : splice z 0 (cel k m f) = cel k m f := by
    unfold splice
    rw [List.take_zero, List.nil_append, cel_len, List.drop_eq_nil_of_le (by omega), List.append_nil]
  rw [e]; exact rd_all
theorem st_prog {k : IntKind} {m i z : Nat} {f g : Nat → Int} {x : Int} (hx : x = f i) : Chunk.data z ([cel k m (prog i f g)].set 0 ((cel k m (prog i f g)).set (0 + ((i : Nat) : Int).toNat * 1) (.int k x))) = .data z [cel k m (prog (i + 1) f g)] := by
  subst hx
  simp only [Nat.zero_add, Int.toNat_natCast, Nat.mul_one]
  rw [cel_set, prog_upd]; rfl
theorem zeros6 {k : IntKind} {f : Nat → Int} (h : ∀ i, i < 6 → f i = 0) : Chunk.data 6 [[.int k 0, .int k 0, .int k 0, .int k 0, .int k 0, .int k 0]] = Chunk.data 6 [cel k 6 f] := by
  rw [cel_ext (g := fun _ => 0) h]; rfl
def row (m : Nat) (f : Nat → Int) : List (List D) := arr m fun i => [.int .i64 (f i)]
abbrev rowD (m : Nat) (f : Nat → Int) : D := .lst 1 (row m f)
theorem row_len (m : Nat) (f : Nat → Int) : (row m f).length = m := arr_len ..
theorem row_ext {m : Nat} {f g : Nat → Int} (h : ∀ i, i < m → f i = g i) : row m f = row m g := arr_ext fun i hi => by rw [h i hi]
theorem flat_row {m : Nat} {f : Nat → Int} : ∀ e ∈ row m f, ∀ x ∈ e, Flat x := by
  intro e he x hx
  simp only [row, arr, List.mem_map] at he
  obtain ⟨i, _, rfl⟩ := he
  simp only [List.mem_singleton] at hx
  subst hx; exact .int _ _
theorem rd_row {m i : Nat} {f : Nat → Int} (h : i < m) : get2 (row m f) ((i : Nat) : Int).toNat 0 = some (.int .i64 (f i)) := by
  simp [get2, row, arr_get h]
theorem row_app {m z : Nat} {f : Nat → Int} {x : Int} (hx : x = f m) : Chunk.data z (row m f ++ [[.int .i64 x]]) = .data z (row (m + 1) f) := by
  subst hx; unfold row; rw [arr_succ]
theorem row_set {m i z : Nat} {f g : Nat → Int} {x : Int} (hx : ∀ j, j < m → (if j = i then x else f j) = g j) : Chunk.data z ((row m f).set ((i : Nat) : Int).toNat (([.int .i64 (f i)] : List D).set 0 (.int .i64 x))) = .data z (row m g) := by
  rw [Int.toNat_natCast]
  congr 1
  unfold row
  rw [arr_set]
  refine arr_ext fun j hj => ?_
  rw [← hx j hj]
  unfold upd
  split <;> rfl
abbrev vecL (v : Nat → Int) : List D := cel .u8 6 v
abbrev vecD (v : Nat → Int) : D := .agg (vecL v)
def Byts (v : Nat → Int) : Prop := ∀ i, 0 ≤ v i ∧ v i ≤ 255
structure Alg where
  p : Int
  n : Int
  T : Nat → Nat → Nat → Int
  f : Nat → Int
def algF (a : Alg) : Nat → D := fun q => if q = 0 then .int .i64 a.p else if q = 1 then .int .i64 a.n else if q < 218 then .int .u8 (a.T ((q - 2) / 36) ((q - 2) / 6 % 6) ((q - 2) % 6)) else .int .u8 (a.f (q - 218))
def algL (a : Alg) : List D := arr 224 (algF a)
abbrev algD (a : Alg) : D := .agg (algL a)
theorem algF_T (a : Alg) {i j k : Nat} (hi : i < 6) (hj : j < 6) (hk : k < 6) : algF a (2 + i * 36 + j * 6 + k) = .int .u8 (a.T i j k) := by
  unfold algF
  rw [if_neg (by omega), if_neg (by omega), if_pos (by omega)]
  rw [show (2 + i * 36 + j * 6 + k - 2) / 36 = i from by omega, show (2 + i * 36 + j * 6 + k - 2) / 6 % 6 = j from by omega, show (2 + i * 36 + j * 6 + k - 2) % 6 = k from by omega]
theorem algF_f (a : Alg) {i : Nat} (hi : i < 6) : algF a (218 + i) = .int .u8 (a.f i) := by
  unfold algF
  rw [if_neg (by omega), if_neg (by omega), if_neg (by omega), show 218 + i - 218 = i from by omega]
def AlgAt (l : List (List D)) (e off : Nat) (a : Alg) : Prop := ∀ q, q < 224 → get2 l e (off + q) = some (algF a q)
theorem AlgAt.p {l : List (List D)} {e off : Nat} {a : Alg} (h : AlgAt l e off a) : get2 l e off = some (.int .i64 a.p) := h 0 (by omega)
theorem AlgAt.n {l : List (List D)} {e off : Nat} {a : Alg} (h : AlgAt l e off a) : get2 l e (off + 1) = some (.int .i64 a.n) := h 1 (by omega)
theorem AlgAt.T {l : List (List D)} {e off : Nat} {a : Alg} (h : AlgAt l e off a) {i j k : Nat} (hi : i < 6) (hj : j < 6) (hk : k < 6) :
    get2 l e (off + 2 + ((i : Nat) : Int).toNat * 36 + ((j : Nat) : Int).toNat * 6 + ((k : Nat) : Int).toNat * 1) = some (.int .u8 (a.T i j k)) := by
  rw [← algF_T a hi hj hk, ← h _ (by omega)]; congr 1; omega
theorem AlgAt.f {l : List (List D)} {e off : Nat} {a : Alg} (h : AlgAt l e off a) {i : Nat} (hi : i < 6) : get2 l e (off + 218 + ((i : Nat) : Int).toNat * 1) = some (.int .u8 (a.f i)) := by
  rw [← algF_f a hi, ← h _ (by omega)]; congr 1; omega
theorem sub2_of {l : List (List D)} {e o n : Nat} {f : Nat → D} (h : ∀ q, q < n → get2 l e (o + q) = some (f q)) (hn : 0 < n) : sub2 l e o n = some (arr n f) := by
  unfold sub2
  have h0 := h 0 hn
  unfold get2 at h0
  cases hr : l[e]? with
  | none => rw [hr] at h0; cases h0
  | some r =>
    simp only [Option.bind_some]
    have hget : ∀ q, q < n → r[o + q]? = some (f q) := fun q hq => by
      have := h q hq; unfold get2 at this; rw [hr] at this; simpa using this
    have hlen : o + n ≤ r.length := by
      have := (List.getElem?_eq_some_iff.1 (hget (n - 1) (by omega))).1; omega
    unfold cut
    rw [if_pos hlen]
    congr 1
    refine arr_of (by simp; omega) fun i hi => ?_
    rw [List.getElem?_take, if_pos hi, List.getElem?_drop, hget i hi]
theorem AlgAt.vecT {l : List (List D)} {e off : Nat} {a : Alg} (h : AlgAt l e off a) {i j : Nat} (hi : i < 6) (hj : j < 6) : sub2 l e (off + 2 + ((i : Nat) : Int).toNat * 36 + ((j : Nat) : Int).toNat * 6) 6 = some (vecL (a.T i j)) :=
  sub2_of (fun q hq => by rw [← algF_T a hi hj hq, ← h _ (by omega)]; congr 1; omega) (by omega)
theorem AlgAt.vecf {l : List (List D)} {e off : Nat} {a : Alg} (h : AlgAt l e off a) : sub2 l e (off + 218) 6 = some (vecL a.f) :=
  sub2_of (fun q hq => by rw [← algF_f a hq, ← h _ (by omega)]; congr 1; omega) (by omega)
theorem AlgAt.all {l : List (List D)} {e off : Nat} {a : Alg} (h : AlgAt l e off a) : sub2 l e off 224 = some (algL a) := sub2_of h (by omega)
theorem algAt_one (a : Alg) : AlgAt [algL a] 0 0 a := fun q hq => by
  simp [get2, algL, arr_get hq]
def AlgB (a : Alg) : Prop := (∀ i j k, 0 ≤ a.T i j k ∧ a.T i j k ≤ 255) ∧ ∀ i, 0 ≤ a.f i ∧ a.f i ≤ 255
abbrev Row := Nat → Int
def Z : Row := fun _ => 0
def rowsL (m : Nat) (L : List Row) : List (List D) := L.map fun r => [.lst 1 (row m r)]
abbrev rowsD (m : Nat) (L : List Row) : D := .lst 1 (rowsL m L)
theorem rowsL_len (m : Nat) (L : List Row) : (rowsL m L).length = L.length := by simp [rowsL]
theorem rd_rows {m i : Nat} {L : List Row} (h : i < L.length) : get2 (rowsL m L) ((i : Nat) : Int).toNat 0 = some (rowD m (L.getD i Z)) := by
  simp [get2, rowsL, List.getElem?_eq_getElem h]
theorem rowsL_app {m z : Nat} {L : List Row} {r : Row} : Chunk.data z (rowsL m L ++ [[rowD m r]]) = .data z (rowsL m (L ++ [r])) := by simp [rowsL]
def mapN (i : Nat) (g : Row → Row) (L : List Row) : List Row := (L.take i).map g ++ L.drop i
theorem mapN_zero (g : Row → Row) (L : List Row) : mapN 0 g L = L := by simp [mapN]
theorem mapN_all {i : Nat} {g : Row → Row} {L : List Row} (h : L.length ≤ i) : mapN i g L = L.map g := by
  simp [mapN, List.take_of_length_le h, List.drop_eq_nil_of_le h]
theorem mapN_len (i : Nat) (g : Row → Row) (L : List Row) : (mapN i g L).length = L.length := by simp [mapN]; omega
theorem mapN_get {i : Nat} {g : Row → Row} {L : List Row} (h : i < L.length) : (mapN i g L).getD i Z = L.getD i Z := by
  have h1 : (List.map g (L.take i)).length = i := by simp; omega
  simp only [mapN, List.getD_eq_getElem?_getD]
  rw [List.getElem?_append_right (by omega), h1, List.getElem?_drop]; simp
theorem mapN_set {i : Nat} {g : Row → Row} {L : List Row} (h : i < L.length) : (mapN i g L).set i (g (L.getD i Z)) = mapN (i + 1) g L := by
  have h1 : (List.map g (L.take i)).length = i := by simp; omega
  apply List.ext_getElem?
  intro j
  have h2 : (List.map g (L.take (i + 1))).length = i + 1 := by simp; omega
  rw [List.getElem?_set, mapN_len]
  simp only [mapN]
  by_cases e : i = j
  · subst e
    rw [if_pos rfl, if_pos h, List.getElem?_append_left (by omega), List.getElem?_map, List.getElem?_take, if_pos (by omega)]
    simp [List.getElem?_eq_getElem h]
  · rw [if_neg e]
    rcases Nat.lt_or_ge j i with hj | hj
    · rw [List.getElem?_append_left (by omega), List.getElem?_append_left (by omega), List.getElem?_map, List.getElem?_map, List.getElem?_take, List.getElem?_take, if_pos hj, if_pos (by omega)]
    · rw [List.getElem?_append_right (by omega), List.getElem?_append_right (by omega), h1, h2, List.getElem?_drop, List.getElem?_drop]
      congr 1; omega
theorem row_prog {m z i : Nat} {f g : Nat → Int} {x : Int} (hx : x = f i) : Chunk.data z ((row m (prog i f g)).set ((i : Nat) : Int).toNat (([.int .i64 (prog i f g i)] : List D).set 0 (.int .i64 x))) = .data z (row m (prog (i + 1) f g)) :=
  row_set fun j _ => by
    subst hx
    have := congrFun (prog_upd i f g) j
    unfold upd at this
    exact this
theorem rd_rowP {m i : Nat} {f g : Nat → Int} (h : i < m) : get2 (row m (prog i f g)) ((i : Nat) : Int).toNat 0 = some (.int .i64 (g i)) := by
  rw [rd_row h, prog_get]
theorem rowsL_set {m i z : Nat} {g : Row → Row} {L : List Row} {x : D} (h : i < L.length) (hx : x = rowD m (g (L.getD i Z))) {old : List D} (ho : old.length = 1) :
    Chunk.data z ((rowsL m (mapN i g L)).set ((i : Nat) : Int).toNat (old.set 0 x)) = .data z (rowsL m (mapN (i + 1) g L)) := by
  subst hx
  rw [← mapN_set h, Int.toNat_natCast]
  congr 1
  obtain ⟨y, rfl⟩ : ∃ y, old = [y] := by
    match old, ho with
    | [y], _ => exact ⟨y, rfl⟩
  simp [rowsL, List.map_set]
theorem rd_rowsN {m i : Nat} {g : Row → Row} {L : List Row} (h : i < L.length) : get2 (rowsL m (mapN i g L)) ((i : Nat) : Int).toNat 0 = some (rowD m (L.getD i Z)) := by
  rw [rd_rows (by rw [mapN_len]; exact h), mapN_get h]
theorem get_rows {m i : Nat} {L : List Row} (h : i < L.length) : (rowsL m L)[((i : Nat) : Int).toNat]? = some [rowD m (L.getD i Z)] := by
  simp [rowsL, List.getElem?_eq_getElem h]
theorem get_rowsN {m i : Nat} {g : Row → Row} {L : List Row} (h : i < L.length) : (rowsL m (mapN i g L))[((i : Nat) : Int).toNat]? = some [rowD m (L.getD i Z)] := by
  rw [get_rows (by rw [mapN_len]; exact h), mapN_get h]
theorem get_row {m i : Nat} {f : Nat → Int} (h : i < m) : (row m f)[((i : Nat) : Int).toNat]? = some [.int .i64 (f i)] := by
  simp [row, arr_get h]
def idxF (q : Nat → Bool) (n : Nat) : Int := match (List.range n).find? q with
  | some k => k
  | none => -1
theorem idxF_some {q : Nat → Bool} {n i : Nat} (hi : i < n) (hq : q i = true) (h : ∀ j, j < i → q j = false) : idxF q n = i := by
  unfold idxF
  have : (List.range n).find? q = some i := by
    rw [List.find?_eq_some_iff_getElem]
    exact ⟨hq, i, by simpa using hi, by simp, fun j hj => by simp [h j hj]⟩
  rw [this]
theorem idxF_none {q : Nat → Bool} {n : Nat} (h : ∀ j, j < n → q j = false) : idxF q n = -1 := by
  unfold idxF
  have : (List.range n).find? q = none := by
    rw [List.find?_eq_none]
    intro j hj
    simp [h j (by simpa using hj)]
  rw [this]
theorem idxF_cases (q : Nat → Bool) (n : Nat) : (idxF q n = -1 ∧ ∀ j, j < n → q j = false) ∨ ∃ i, i < n ∧ idxF q n = (i : Nat) ∧ q i = true ∧ ∀ j, j < i → q j = false := by
  cases h : (List.range n).find? q with
  | none =>
    left
    have h' := List.find?_eq_none.1 h
    have : ∀ j, j < n → q j = false := fun j hj => by have := h' j (by simpa using hj); simpa using this
    exact ⟨idxF_none this, this⟩
  | some k =>
    right
    obtain ⟨hq, i, hi, e, hj⟩ := List.find?_eq_some_iff_getElem.1 h
    simp at e hi
    subst e
    have hj' : ∀ j, j < i → q j = false := fun j hlt => by have := hj j hlt; simpa using this
    exact ⟨i, hi, idxF_some hi hq hj', hq, hj'⟩
def Small (v : Nat → Int) (n p : Int) : Prop := ∀ i : Nat, i < 6 → v i < p ∧ (n ≤ (i : Int) → v i = 0)
instance (v : Nat → Int) (n p : Int) : Decidable (Small v n p) := by unfold Small; infer_instance
theorem neg_lt_tmod (x : Int) {p : Int} (hp : 0 < p) : -p < x.tmod p := by
  have := Int.tmod_lt_of_pos (-x) hp
  rw [Int.neg_tmod] at this
  omega
theorem small_no {v : Nat → Int} {n p : Int} {i : Nat} (hi : i < 6) (h : p ≤ v i ∨ n ≤ (i : Int) ∧ v i ≠ 0) : D.bool false = .bool (decide (Small v n p)) :=
  congrArg D.bool (decide_eq_false fun hs => by
    have := hs i hi
    rcases h with h | h
    · omega
    · exact h.2 (this.2 h.1)).symm
theorem small_yes {v : Nat → Int} {n p : Int} {i : Nat} (hi : 6 ≤ i) (h : ∀ j : Nat, j < i → v j < p ∧ (n ≤ (j : Int) → v j = 0)) : D.bool true = .bool (decide (Small v n p)) :=
  congrArg D.bool (decide_eq_true fun j hj => h j (by omega)).symm
theorem all_succ {Q : Nat → Prop} {i : Nat} (h : ∀ j, j < i → Q j) (hi : Q i) : ∀ j, j < i + 1 → Q j := fun j hj => by
  rcases Nat.lt_or_ge j i with h1 | h1
  · exact h j h1
  · exact (show i = j by omega) ▸ hi
theorem tmod_mod {x p : Int} (hp : 1 ≤ p) : (x.tmod p + p).tmod p = x % p := by
  have h1 : 0 ≤ x.tmod p + p := by
    have := neg_lt_tmod x (show 0 < p by omega)
    omega
  rw [Int.tmod_eq_emod_of_nonneg h1]
  have h2 : x.tmod p = x - p * x.tdiv p := by have := Int.tmod_add_mul_tdiv x p; omega
  rw [h2, show x - p * x.tdiv p + p = x + p * (1 - x.tdiv p) by rw [Int.mul_sub]; omega]
  exact Int.add_mul_emod_self_left ..
theorem tmod_mod' {x p : Int} (hp : 1 ≤ p) : (x.tmod p + p) % p = x % p := by
  have := tmod_mod (x := x) hp
  rwa [Int.tmod_eq_emod_of_nonneg (by have := neg_lt_tmod x (show 0 < p by omega); omega)] at this
theorem tmod_bd {x p : Int} (hp : 1 ≤ p) : -p < x.tmod p ∧ x.tmod p < p := ⟨neg_lt_tmod x (by omega), Int.tmod_lt_of_pos x (by omega)⟩
def addV (p k : Int) (v w : Nat → Int) : Nat → Int := fun i => (v i + k * w i) % p
def basV (i : Nat) : Nat → Int := fun j => if j = i then 1 else 0
def tsum (a : Alg) (v w : Nat → Int) (k i : Nat) : Int := sumN i fun i => sumN a.n.toNat fun j => v i * w j * a.T i j k
def timesV (a : Alg) (v w : Nat → Int) : Nat → Int := fun k => if (k : Int) < a.n then tsum a v w k a.n.toNat % a.p else 0
def fsum (a : Alg) (v : Nat → Int) (i : Nat) : Int := sumN i fun i => v i * a.f i
def formV (a : Alg) (v : Nat → Int) : Int := fsum a v 6 % a.p
def lessR (p by_ : Int) (r o : Nat → Int) : Nat → Int := fun i => (r i - by_ * o i) % p
def scaleR (p by_ : Int) (r : Nat → Int) : Nat → Int := fun i => r i * by_ % p
def leadF (m : Nat) (r : Nat → Int) : Int := idxF (fun i => r i != 0) m
def invF (p x : Int) : Int := match (List.range p.toNat).find? (fun k => decide (1 ≤ k) && (((k : Nat) : Int) * (x % p) % p == 1)) with
  | some k => k
  | none => 0
def primes : List Int := [2, 3, 5, 7, 11, 13]
theorem mem_primes {p : Int} : p ∈ primes ↔ p = 2 ∨ p = 3 ∨ p = 5 ∨ p = 7 ∨ p = 11 ∨ p = 13 := by simp [primes]
theorem idx_primes (p : Int) : 0 ≤ idxF (fun i => primes.getD i 0 == p) 6 ↔ p ∈ primes := by
  rw [mem_primes]
  rcases idxF_cases (fun i => primes.getD i 0 == p) 6 with ⟨h1, h2⟩ | ⟨i, hi, h1, h2, _⟩
  · rw [h1]
    have a0 := h2 0 (by omega); have a1 := h2 1 (by omega); have a2 := h2 2 (by omega); have a3 := h2 3 (by omega); have a4 := h2 4 (by omega); have a5 := h2 5 (by omega)
    simp [primes] at a0 a1 a2 a3 a4 a5
    omega
  · rw [h1]
    simp only [beq_iff_eq] at h2
    have : i = 0 ∨ i = 1 ∨ i = 2 ∨ i = 3 ∨ i = 4 ∨ i = 5 := by omega
    rcases this with rfl | rfl | rfl | rfl | rfl | rfl <;> simp [primes] at h2 <;> omega
def powR (n p : Int) : Nat → Int
  | 0 => 1
  | k + 1 => powR n p k * n % p
theorem powR_bd {n p : Int} (hp : 1 ≤ p) : ∀ k, 0 ≤ powR n p k ∧ (powR n p k ≤ 1 ∨ powR n p k < p)
  | 0 => by simp [powR]
  | k + 1 => by have := mod_bd (powR n p k * n) hp; simp only [powR]; omega
theorem inv_pow {p x : Int} (hp : p ∈ primes) (hx : 0 < x ∧ x < p) : powR x p (p - 2).toNat = invF p x := by
  have : ∀ p ∈ primes, ∀ x ∈ (List.range 13).map Int.ofNat, 0 < x → x < p → powR x p (p - 2).toNat = invF p x := by decide +kernel
  have hp13 : p ≤ 13 := by
    have : ∀ p ∈ primes, p ≤ 13 := by decide
    exact this p hp
  exact this p hp x (by rw [List.mem_map]; exact ⟨x.toNat, by simp; omega, by simp; omega⟩) hx.1 hx.2
theorem prime_bd {p : Int} (hp : p ∈ primes) : 2 ≤ p ∧ p ≤ 13 := by
  have : ∀ p ∈ primes, 2 ≤ p ∧ p ≤ 13 := by decide
  exact this p hp
theorem inv_mul {p x : Int} (hp : p ∈ primes) (hx : 0 < x ∧ x < p) : invF p x * x % p = 1 ∧ 0 < invF p x ∧ invF p x < p := by
  have : ∀ p ∈ primes, ∀ x ∈ (List.range 13).map Int.ofNat, 0 < x → x < p → invF p x * x % p = 1 ∧ 0 < invF p x ∧ invF p x < p := by decide +kernel
  have := prime_bd hp
  rename_i h0
  exact h0 p hp x (by rw [List.mem_map]; exact ⟨x.toNat, by simp; omega, by simp; omega⟩) hx.1 hx.2
end Go.X
namespace Go.X
open Go Go.RowKit
structure FN where
  f : Nat → FuncId
def FN.spec_l01Basis (N : FN) : FuncId := N.f 0
def FN.spec_l01Mod (N : FN) : FuncId := N.f 1
def FN.spec_l01Add (N : FN) : FuncId := N.f 2
def FN.spec_l01Small (N : FN) : FuncId := N.f 4
def FN.spec_l01Vector (N : FN) : FuncId := N.f 5
def FN.spec_l01Times (N : FN) : FuncId := N.f 6
def FN.spec_l01Prime (N : FN) : FuncId := N.f 7
def FN.spec_l01In (N : FN) : FuncId := N.f 8
def FN.spec_l01Shape (N : FN) : FuncId := N.f 9
def FN.spec_l01Inverse (N : FN) : FuncId := N.f 10
def FN.spec_l01Lead (N : FN) : FuncId := N.f 11
def FN.spec_l01Own (N : FN) : FuncId := N.f 12
def FN.spec_l01Less (N : FN) : FuncId := N.f 13
def FN.spec_l01Echelon (N : FN) : FuncId := N.f 14
def FN.spec_l01Solve (N : FN) : FuncId := N.f 15
def FN.spec_l01Find (N : FN) : FuncId := N.f 16
def FN.spec_l01Algebra (N : FN) : FuncId := N.f 17
def FN.spec_l01Form (N : FN) : FuncId := N.f 19
def FN.spec_l01Unit (N : FN) : FuncId := N.f 23
def FN.impl_Algebra_n (N : FN) : FuncId := N.f 36
def FN.impl_Algebra_add (N : FN) : FuncId := N.f 37
def FN.impl_basis (N : FN) : FuncId := N.f 40
def FN.impl_isVector (N : FN) : FuncId := N.f 41
def FN.impl_Algebra_times (N : FN) : FuncId := N.f 42
def FN.slices_Index_Lint64_int64 (N : FN) : FuncId := N.f 43
def FN.slices_Contains_Lint64_int64 (N : FN) : FuncId := N.f 44
def FN.impl_isPrime (N : FN) : FuncId := N.f 45
def FN.impl_in (N : FN) : FuncId := N.f 46
def FN.impl_Algebra_behind_1 (N : FN) : FuncId := N.f 47
def FN.impl_Algebra_behind (N : FN) : FuncId := N.f 48
def FN.impl_Algebra_ahead_1 (N : FN) : FuncId := N.f 49
def FN.impl_Algebra_ahead (N : FN) : FuncId := N.f 50
def FN.impl_Algebra_equations (N : FN) : FuncId := N.f 51
def FN.impl_power (N : FN) : FuncId := N.f 52
def FN.impl_inverse (N : FN) : FuncId := N.f 53
def FN.slices_Clone_LLint64_Lint64 (N : FN) : FuncId := N.f 54
def FN.slices_IndexFunc_LLint64_Lint64 (N : FN) : FuncId := N.f 55
def FN.impl_reduce_1 (N : FN) : FuncId := N.f 56
def FN.impl_scaled (N : FN) : FuncId := N.f 57
def FN.slices_Delete_LLint64_Lint64 (N : FN) : FuncId := N.f 58
def FN.impl_rest (N : FN) : FuncId := N.f 59
def FN.impl_lessTimes (N : FN) : FuncId := N.f 60
def FN.impl_reduce (N : FN) : FuncId := N.f 61
def FN.slices_IndexFunc_Lint64_int64 (N : FN) : FuncId := N.f 62
def FN.impl_leader_1 (N : FN) : FuncId := N.f 63
def FN.impl_leader (N : FN) : FuncId := N.f 64
def FN.impl_solve (N : FN) : FuncId := N.f 65
def FN.impl_vector (N : FN) : FuncId := N.f 66
def FN.impl_Algebra_solved (N : FN) : FuncId := N.f 67
def FN.impl_Algebra_findUnit (N : FN) : FuncId := N.f 68
def FN.impl_Algebra_tableOk (N : FN) : FuncId := N.f 69
def FN.impl_Algebra_associative (N : FN) : FuncId := N.f 70
def FN.impl_IsAlgebra (N : FN) : FuncId := N.f 71
def FN.impl_Algebra_form (N : FN) : FuncId := N.f 73
def FN.impl_Algebra_unit (N : FN) : FuncId := N.f 78
def FN.slices_IndexFunc_Limpl_Vector_impl_Vector (N : FN) : FuncId := N.f 80
def FN.slices_ContainsFunc_Limpl_Vector_impl_Vector (N : FN) : FuncId := N.f 81
def ir_spec_l01Basis (N : FN) : CF := ⟨1, 8, [(.cell 2 (some 6))], (.seq (.reg false [3] [(rO 2 (.alloc [(.int .u8 0), (.int .u8 0), (.int .u8 0), (.int .u8 0), (.int .u8 0), (.int .u8 0)]))]) (.seq (.reg false [4] [(rO 4 (.build [(.int .u8 0), (.int .u8 0), (.int .u8 0), (.int .u8 0), (.int .u8 0), (.int .u8 0)] [])), (rO 3 (.alloc [(.int .u8 0), (.int .u8 0), (.int .u8 0), (.int .u8 0), (.int .u8 0), (.int .u8 0)])), ⟨none, 11, (.store (some 6) (.t 3) (.t 4)), none, [], none⟩]) (.seq (.reg false [] [(rO 5 (.mov (.t 0))), (rO 6 (.iaddrA 6 1 (.t 3) (.t 5))), ⟨none, 11, (.store none (.t 6) (.c (.int .u8 1))), none, [], none⟩]) (.seq (.reg false [] [(rO 7 (.load (some 6) (.t 3))), ⟨none, 10, (.store (some 6) (.t 2) (.t 7)), none, [], none⟩]) .ret))))⟩
def ir_spec_l01Mod (N : FN) : CF := ⟨2, 12, [(.tmp 4)], (.seq (.reg false [] [(rO 4 (.mov (.c (.int .i64 0))))]) (.seq (.reg false [] [(rO 5 (.mov (.t 1))), (rO 6 (.mov (.t 0))), (rO 7 (.arith .rem (.t 5) (.t 6))), (rO 8 (.mov (.t 0))), (rO 9 (.arith .add (.t 7) (.t 8))), (rO 10 (.mov (.t 0))), (rO 11 (.arith .rem (.t 9) (.t 10))), (rO 4 (.mov (.t 11)))]) .ret))⟩
def ir_spec_l01Add (N : FN) : CF := ⟨4, 31, [(.cell 8 (some 6))], (.seq (.reg false [6, 7, 9] [(rO 5 (.box (.t 1))), (rO 6 (.box (.t 2))), (rO 8 (.alloc [(.int .u8 0), (.int .u8 0), (.int .u8 0), (.int .u8 0), (.int .u8 0), (.int .u8 0)]))]) (.seq (.seq (.reg false [] [(rO 9 (.mov (.c (.int .i64 0))))]) (.block 0 (.loop (.seq (.seq (.reg false [] [(rO 10 (.mov (.t 9))), (rO 11 (.cmp .lss (.t 10) (.c (.int .i64 6))))]) (.cond (.t 11) .skip (.exit 0))) (.seq (.block 1 (.reg true [28] [(rO 14 (.mov (.t 9))), (rO 15 (.mov (.t 0))), (rO 16 (.mov (.t 9))), (rO 17 (.iaddrA 6 1 (.t 5) (.t 16))), ⟨(some 18), 19, (.load none (.t 17)), none, [28], none⟩, (rO 19 (.conv .i64 (.t 18))), (rO 20 (.mov (.t 3))), (rO 21 (.mov (.t 9))), (rO 22 (.iaddrA 6 1 (.t 6) (.t 21))), ⟨(some 23), 24, (.load none (.t 22)), none, [28], none⟩, (rO 24 (.conv .i64 (.t 23))), (rO 25 (.arith .mul (.t 20) (.t 24))), (rO 26 (.arith .add (.t 19) (.t 25))), (rO 27 (.call N.spec_l01Mod [(.t 15), (.t 26)])), (rO 28 (.conv .u8 (.t 27))), (rO 29 (.iaddrA 6 1 (.t 5) (.t 14))), ⟨none, 48, (.store none (.t 29) (.t 28)), none, [], none⟩])) (.reg false [] [(rO 12 (.mov (.t 9))), (rO 13 (.arith .add (.t 12) (.c (.int .i64 1)))), (rO 9 (.mov (.t 13)))])))))) (.seq (.reg false [] [(rO 30 (.load (some 6) (.t 5))), ⟨none, 33, (.store (some 6) (.t 8) (.t 30)), none, [], none⟩]) .ret)))⟩
def ir_spec_l01Small (N : FN) : CF := ⟨3, 29, [(.tmp 6)], (.seq (.reg false [6] [(rO 5 (.box (.t 2))), (rO 6 (.mov (.c (.bool false))))]) (.seq (.seq (.reg false [] [(rO 7 (.mov (.c (.int .i64 0))))]) (.block 0 (.loop (.seq (.seq (.reg false [] [(rO 8 (.mov (.t 7))), (rO 9 (.cmp .lss (.t 8) (.c (.int .i64 6))))]) (.cond (.t 9) .skip (.exit 0))) (.seq (.block 1 (.seq (.reg false [] [(rO 12 (.mov (.t 7))), (rO 13 (.iaddrA 6 1 (.t 5) (.t 12))), (rO 14 (.load none (.t 13))), (rO 15 (.conv .i64 (.t 14))), (rO 16 (.mov (.t 0))), (rO 17 (.cmp .geq (.t 15) (.t 16))), (rO 18 (.mov (.t 17))), ⟨(some 19), 20, (.mov (.t 7)), (some (18, false)), [], none⟩, ⟨(some 20), 21, (.mov (.t 1)), (some (18, false)), [], none⟩, ⟨(some 21), 22, (.cmp .geq (.t 19) (.t 20)), (some (18, false)), [], none⟩, ⟨(some 22), 23, (.mov (.t 21)), (some (18, false)), [], none⟩, ⟨(some 23), 24, (.mov (.t 7)), (some (22, true)), [], none⟩, ⟨(some 24), 25, (.iaddrA 6 1 (.t 5) (.t 23)), (some (22, true)), [], none⟩, ⟨(some 25), 26, (.load none (.t 24)), (some (22, true)), [], none⟩, ⟨(some 26), 27, (.cmp .neq (.t 25) (.c (.int .u8 0))), (some (22, true)), [], none⟩, ⟨(some 27), 28, (.pick (.t 22) (.t 26) (.c (.bool false))), (some (18, false)), [], none⟩, (rO 28 (.pick (.t 18) (.c (.bool true)) (.t 27)))]) (.cond (.t 28) (.seq (.reg false [] [(rO 6 (.mov (.c (.bool false))))]) .ret) .skip))) (.reg false [] [(rO 10 (.mov (.t 7))), (rO 11 (.arith .add (.t 10) (.c (.int .i64 1)))), (rO 7 (.mov (.t 11)))])))))) (.seq (.reg false [] [(rO 6 (.mov (.c (.bool true))))]) .ret)))⟩
def ir_spec_l01Vector (N : FN) : CF := ⟨2, 11, [(.tmp 4)], (.seq (.reg false [3, 4] [(rO 2 (.box (.t 0))), (rO 3 (.box (.t 1))), (rO 4 (.mov (.c (.bool false))))]) (.seq (.reg false [11] [(rO 5 (.faddr 0 (.t 2))), (rO 6 (.load none (.t 5))), (rO 7 (.faddr 1 (.t 2))), (rO 8 (.load none (.t 7))), (rO 9 (.load (some 6) (.t 3))), (rO 10 (.call N.spec_l01Small [(.t 6), (.t 8), (.t 9)])), (rO 4 (.mov (.t 10)))]) .ret))⟩
def ir_spec_l01Times (N : FN) : CF := ⟨3, 60, [(.cell 6 (some 6))], (.seq (.reg false [4, 5, 6, 7] [(rO 3 (.box (.t 0))), (rO 4 (.box (.t 1))), (rO 5 (.box (.t 2))), (rO 6 (.alloc [(.int .u8 0), (.int .u8 0), (.int .u8 0), (.int .u8 0), (.int .u8 0), (.int .u8 0)]))]) (.seq (.reg false [8] [(rO 12 (.build [(.int .u8 0), (.int .u8 0), (.int .u8 0), (.int .u8 0), (.int .u8 0), (.int .u8 0)] [])), (rO 7 (.alloc [(.int .u8 0), (.int .u8 0), (.int .u8 0), (.int .u8 0), (.int .u8 0), (.int .u8 0)])), ⟨none, 63, (.store (some 6) (.t 7) (.t 12)), none, [], none⟩]) (.seq (.seq (.reg false [] [(rO 8 (.mov (.c (.int .i64 0))))]) (.block 0 (.loop (.seq (.seq (.reg false [] [(rO 13 (.mov (.t 8))), (rO 14 (.faddr 1 (.t 3))), (rO 15 (.load none (.t 14))), (rO 16 (.cmp .lss (.t 13) (.t 15)))]) (.cond (.t 16) .skip (.exit 0))) (.seq (.block 1 (.seq (.reg false [] [(rO 9 (.mov (.c (.int .i64 0))))]) (.seq (.seq (.reg false [] [(rO 10 (.mov (.c (.int .i64 0))))]) (.block 2 (.loop (.seq (.seq (.reg false [] [(rO 19 (.mov (.t 10))), (rO 20 (.faddr 1 (.t 3))), (rO 21 (.load none (.t 20))), (rO 22 (.cmp .lss (.t 19) (.t 21)))]) (.cond (.t 22) .skip (.exit 2))) (.seq (.block 3 (.seq (.reg false [] [(rO 11 (.mov (.c (.int .i64 0))))]) (.block 4 (.loop (.seq (.seq (.reg false [] [(rO 25 (.mov (.t 11))), (rO 26 (.faddr 1 (.t 3))), (rO 27 (.load none (.t 26))), (rO 28 (.cmp .lss (.t 25) (.t 27)))]) (.cond (.t 28) .skip (.exit 4))) (.seq (.block 5 (.reg true [] [(rO 31 (.mov (.t 9))), (rO 32 (.mov (.t 10))), (rO 33 (.iaddrA 6 1 (.t 4) (.t 32))), (rO 34 (.load none (.t 33))), (rO 35 (.conv .i64 (.t 34))), (rO 36 (.mov (.t 11))), (rO 37 (.iaddrA 6 1 (.t 5) (.t 36))), (rO 38 (.load none (.t 37))), (rO 39 (.conv .i64 (.t 38))), (rO 40 (.arith .mul (.t 35) (.t 39))), (rO 41 (.mov (.t 10))), (rO 42 (.mov (.t 11))), (rO 43 (.mov (.t 8))), (rO 44 (.faddr 2 (.t 3))), (rO 45 (.iaddrA 6 36 (.t 44) (.t 41))), (rO 46 (.iaddrA 6 6 (.t 45) (.t 42))), (rO 47 (.iaddrA 6 1 (.t 46) (.t 43))), (rO 48 (.load none (.t 47))), (rO 49 (.conv .i64 (.t 48))), (rO 50 (.arith .mul (.t 40) (.t 49))), (rO 51 (.arith .add (.t 31) (.t 50))), (rO 9 (.mov (.t 51)))])) (.reg false [] [(rO 29 (.mov (.t 11))), (rO 30 (.arith .add (.t 29) (.c (.int .i64 1)))), (rO 11 (.mov (.t 30)))]))))))) (.reg false [] [(rO 23 (.mov (.t 10))), (rO 24 (.arith .add (.t 23) (.c (.int .i64 1)))), (rO 10 (.mov (.t 24)))])))))) (.reg false [] [(rO 52 (.mov (.t 8))), (rO 53 (.mov (.t 9))), (rO 54 (.faddr 0 (.t 3))), (rO 55 (.load none (.t 54))), (rO 56 (.arith .rem (.t 53) (.t 55))), (rO 57 (.conv .u8 (.t 56))), (rO 58 (.iaddrA 6 1 (.t 7) (.t 52))), ⟨none, 68, (.store none (.t 58) (.t 57)), none, [], none⟩])))) (.reg false [] [(rO 17 (.mov (.t 8))), (rO 18 (.arith .add (.t 17) (.c (.int .i64 1)))), (rO 8 (.mov (.t 18)))])))))) (.seq (.reg false [] [(rO 59 (.load (some 6) (.t 7))), ⟨none, 62, (.store (some 6) (.t 6) (.t 59)), none, [], none⟩]) .ret))))⟩
def ir_spec_l01Prime (N : FN) : CF := ⟨1, 25, [(.tmp 2)], (.seq (.reg false [] [(rO 2 (.mov (.c (.bool false))))]) (.seq (.reg false [] [(rO 3 (.mov (.t 0))), (rO 4 (.cmp .eql (.t 3) (.c (.int .i64 2)))), (rO 5 (.mov (.t 4))), ⟨(some 6), 7, (.mov (.t 0)), (some (5, false)), [], none⟩, ⟨(some 7), 8, (.cmp .eql (.t 6) (.c (.int .i64 3))), (some (5, false)), [], none⟩, (rO 8 (.pick (.t 5) (.c (.bool true)) (.t 7))), (rO 9 (.mov (.t 8))), ⟨(some 10), 11, (.mov (.t 0)), (some (9, false)), [], none⟩, ⟨(some 11), 12, (.cmp .eql (.t 10) (.c (.int .i64 5))), (some (9, false)), [], none⟩, (rO 12 (.pick (.t 9) (.c (.bool true)) (.t 11))), (rO 13 (.mov (.t 12))), ⟨(some 14), 15, (.mov (.t 0)), (some (13, false)), [], none⟩, ⟨(some 15), 16, (.cmp .eql (.t 14) (.c (.int .i64 7))), (some (13, false)), [], none⟩, (rO 16 (.pick (.t 13) (.c (.bool true)) (.t 15))), (rO 17 (.mov (.t 16))), ⟨(some 18), 19, (.mov (.t 0)), (some (17, false)), [], none⟩, ⟨(some 19), 20, (.cmp .eql (.t 18) (.c (.int .i64 11))), (some (17, false)), [], none⟩, (rO 20 (.pick (.t 17) (.c (.bool true)) (.t 19))), (rO 21 (.mov (.t 20))), ⟨(some 22), 23, (.mov (.t 0)), (some (21, false)), [], none⟩, ⟨(some 23), 24, (.cmp .eql (.t 22) (.c (.int .i64 13))), (some (21, false)), [], none⟩, (rO 24 (.pick (.t 21) (.c (.bool true)) (.t 23))), (rO 2 (.mov (.t 24)))]) .ret))⟩
def ir_spec_l01In (N : FN) : CF := ⟨3, 15, [(.tmp 6)], (.seq (.reg false [] [(rO 6 (.mov (.c (.bool false))))]) (.seq (.reg false [] [(rO 7 (.mov (.t 0))), (rO 8 (.mov (.t 1))), (rO 9 (.cmp .geq (.t 7) (.t 8))), (rO 10 (.mov (.t 9))), ⟨(some 11), 12, (.mov (.t 0)), (some (10, true)), [], none⟩, ⟨(some 12), 13, (.mov (.t 2)), (some (10, true)), [], none⟩, ⟨(some 13), 14, (.cmp .leq (.t 11) (.t 12)), (some (10, true)), [], none⟩, (rO 14 (.pick (.t 10) (.t 13) (.c (.bool false)))), (rO 6 (.mov (.t 14)))]) .ret))⟩
def ir_spec_l01Shape (N : FN) : CF := ⟨1, 55, [(.tmp 2)], (.seq (.reg false [2] [(rO 1 (.box (.t 0))), (rO 2 (.mov (.c (.bool false))))]) (.seq (.seq (.reg false [9, 14, 24] [(rO 6 (.faddr 0 (.t 1))), (rO 7 (.load none (.t 6))), (rO 8 (.call N.spec_l01Prime [(.t 7)])), (rO 9 (.not (.t 8))), (rO 10 (.mov (.t 9))), ⟨(some 11), 12, (.faddr 1 (.t 1)), (some (10, false)), [], none⟩, ⟨(some 12), 13, (.load none (.t 11)), (some (10, false)), [], none⟩, ⟨(some 13), 14, (.call N.spec_l01In [(.t 12), (.c (.int .i64 1)), (.c (.int .i64 6))]), (some (10, false)), [], none⟩, ⟨(some 14), 15, (.not (.t 13)), (some (10, false)), [], none⟩, (rO 15 (.pick (.t 10) (.c (.bool true)) (.t 14))), (rO 16 (.mov (.t 15))), ⟨(some 17), 18, (.faddr 0 (.t 1)), (some (16, false)), [], none⟩, ⟨(some 18), 19, (.load none (.t 17)), (some (16, false)), [], none⟩, ⟨(some 19), 20, (.faddr 1 (.t 1)), (some (16, false)), [], none⟩, ⟨(some 20), 21, (.load none (.t 19)), (some (16, false)), [], none⟩, ⟨(some 21), 22, (.faddr 218 (.t 1)), (some (16, false)), [], none⟩, ⟨(some 22), 23, (.load (some 6) (.t 21)), (some (16, false)), [], none⟩, ⟨(some 23), 24, (.call N.spec_l01Small [(.t 18), (.t 20), (.t 22)]), (some (16, false)), [], none⟩, ⟨(some 24), 25, (.not (.t 23)), (some (16, false)), [], none⟩, (rO 25 (.pick (.t 16) (.c (.bool true)) (.t 24)))]) (.cond (.t 25) (.seq (.reg false [] [(rO 2 (.mov (.c (.bool false))))]) .ret) .skip)) (.seq (.seq (.reg false [] [(rO 3 (.mov (.c (.int .i64 0))))]) (.block 0 (.loop (.seq (.seq (.reg false [] [(rO 26 (.mov (.t 3))), (rO 27 (.cmp .lss (.t 26) (.c (.int .i64 6))))]) (.cond (.t 27) .skip (.exit 0))) (.seq (.block 1 (.seq (.reg false [] [(rO 4 (.mov (.c (.int .i64 0))))]) (.block 2 (.loop (.seq (.seq (.reg false [] [(rO 30 (.mov (.t 4))), (rO 31 (.cmp .lss (.t 30) (.c (.int .i64 6))))]) (.cond (.t 31) .skip (.exit 2))) (.seq (.block 3 (.seq (.reg false [] [(rO 34 (.faddr 1 (.t 1))), (rO 35 (.load none (.t 34))), (rO 5 (.mov (.t 35)))]) (.seq (.seq (.reg false [] [(rO 36 (.mov (.t 3))), (rO 37 (.mov (.t 5))), (rO 38 (.cmp .geq (.t 36) (.t 37))), (rO 39 (.mov (.t 38))), ⟨(some 40), 41, (.mov (.t 4)), (some (39, false)), [], none⟩, ⟨(some 41), 42, (.mov (.t 5)), (some (39, false)), [], none⟩, ⟨(some 42), 43, (.cmp .geq (.t 40) (.t 41)), (some (39, false)), [], none⟩, (rO 43 (.pick (.t 39) (.c (.bool true)) (.t 42)))]) (.cond (.t 43) (.reg false [] [(rO 5 (.mov (.c (.int .i64 0))))]) .skip)) (.seq (.reg true [54] [(rO 44 (.faddr 0 (.t 1))), ⟨(some 45), 46, (.load none (.t 44)), none, [54], none⟩, (rO 46 (.mov (.t 5))), (rO 47 (.mov (.t 3))), (rO 48 (.mov (.t 4))), (rO 49 (.faddr 2 (.t 1))), (rO 50 (.iaddrA 6 36 (.t 49) (.t 47))), (rO 51 (.iaddrA 6 6 (.t 50) (.t 48))), ⟨(some 52), 53, (.load (some 6) (.t 51)), none, [54], none⟩, (rO 53 (.call N.spec_l01Small [(.t 45), (.t 46), (.t 52)])), (rO 54 (.not (.t 53)))]) (.cond (.t 54) (.seq (.reg false [] [(rO 2 (.mov (.c (.bool false))))]) .ret) .skip))))) (.reg false [] [(rO 32 (.mov (.t 4))), (rO 33 (.arith .add (.t 32) (.c (.int .i64 1)))), (rO 4 (.mov (.t 33)))]))))))) (.reg false [] [(rO 28 (.mov (.t 3))), (rO 29 (.arith .add (.t 28) (.c (.int .i64 1)))), (rO 3 (.mov (.t 29)))])))))) (.seq (.reg false [] [(rO 2 (.mov (.c (.bool true))))]) .ret))))⟩
def ir_spec_l01Inverse (N : FN) : CF := ⟨2, 20, [(.tmp 4)], (.seq (.reg false [] [(rO 4 (.mov (.c (.int .i64 0))))]) (.seq (.seq (.reg false [] [(rO 5 (.mov (.c (.int .i64 1))))]) (.block 0 (.loop (.seq (.seq (.reg false [] [(rO 6 (.mov (.t 5))), (rO 7 (.mov (.t 0))), (rO 8 (.cmp .lss (.t 6) (.t 7)))]) (.cond (.t 8) .skip (.exit 0))) (.seq (.block 1 (.seq (.reg false [15] [(rO 11 (.mov (.t 5))), (rO 12 (.mov (.t 0))), (rO 13 (.mov (.t 1))), (rO 14 (.call N.spec_l01Mod [(.t 12), (.t 13)])), (rO 15 (.arith .mul (.t 11) (.t 14))), (rO 16 (.mov (.t 0))), (rO 17 (.arith .rem (.t 15) (.t 16))), (rO 18 (.cmp .eql (.t 17) (.c (.int .i64 1))))]) (.cond (.t 18) (.seq (.reg false [] [(rO 19 (.mov (.t 5))), (rO 4 (.mov (.t 19)))]) .ret) .skip))) (.reg false [] [(rO 9 (.mov (.t 5))), (rO 10 (.arith .add (.t 9) (.c (.int .i64 1)))), (rO 5 (.mov (.t 10)))])))))) (.seq (.reg false [] [(rO 4 (.mov (.c (.int .i64 0))))]) .ret)))⟩
def ir_spec_l01Lead (N : FN) : CF := ⟨1, 16, [(.tmp 2)], (.seq (.reg false [] [(rO 2 (.mov (.c (.int .i64 0))))]) (.seq (.seq (.reg false [] [(rO 3 (.mov (.c (.int .i64 0))))]) (.block 0 (.loop (.seq (.seq (.reg false [] [(rO 4 (.mov (.t 3))), (rO 5 (.mov (.t 0))), (rO 6 (.len (.t 5))), (rO 7 (.cmp .lss (.t 4) (.t 6)))]) (.cond (.t 7) .skip (.exit 0))) (.seq (.block 1 (.seq (.reg false [] [(rO 10 (.mov (.t 0))), (rO 11 (.mov (.t 3))), (rO 12 (.iaddrS 1 (.t 10) (.t 11))), (rO 13 (.load none (.t 12))), (rO 14 (.cmp .neq (.t 13) (.c (.int .i64 0))))]) (.cond (.t 14) (.seq (.reg false [] [(rO 15 (.mov (.t 3))), (rO 2 (.mov (.t 15)))]) .ret) .skip))) (.reg false [] [(rO 8 (.mov (.t 3))), (rO 9 (.arith .add (.t 8) (.c (.int .i64 1)))), (rO 3 (.mov (.t 9)))])))))) (.seq (.reg false [] [(rO 2 (.mov (.c (.int .i64 (-1)))))]) .ret)))⟩
def ir_spec_l01Own (N : FN) : CF := ⟨1, 6, [(.tmp 2)], (.seq (.reg false [] [(rO 2 (.mov (.c .emp)))]) (.seq (.ga (.dead [5]) (.ga (.ren [2]) (.reg false [4, 6] [(rO 3 (.bslice 1 [])), (rO 4 (.mov (.t 0))), (rO 5 (.app 1 8 (.t 3) (.t 4))), (rO 2 (.mov (.t 5)))]))) .ret))⟩
def ir_spec_l01Less (N : FN) : CF := ⟨4, 35, [(.tmp 8)], (.seq (.reg false [] [(rO 8 (.mov (.c .emp)))]) (.seq (.ga (.dead [11]) (.ga (.ren [9]) (.reg false [12] [(rO 11 (.bslice 1 [])), (rO 9 (.mov (.t 11)))]))) (.seq (.seq (.reg false [] [(rO 10 (.mov (.c (.int .i64 0))))]) (.block 0 (.loop (.seq (.seq (.reg false [] [(rO 12 (.mov (.t 10))), (rO 13 (.mov (.t 1))), (rO 14 (.len (.t 13))), (rO 15 (.cmp .lss (.t 12) (.t 14)))]) (.cond (.t 15) .skip (.exit 0))) (.seq (.block 1 (.ga (.dead [33]) (.ga (.ren [9]) (.reg true [32, 33, 34] [(rO 18 (.mov (.t 9))), (rO 19 (.mov (.t 0))), (rO 20 (.mov (.t 1))), (rO 21 (.mov (.t 10))), ⟨(some 22), 23, (.iaddrS 1 (.t 20) (.t 21)), none, [32, 33, 34], none⟩, ⟨(some 23), 24, (.load none (.t 22)), none, [32, 33, 34], none⟩, (rO 24 (.mov (.t 3))), (rO 25 (.mov (.t 2))), (rO 26 (.mov (.t 10))), ⟨(some 27), 28, (.iaddrS 1 (.t 25) (.t 26)), none, [32, 33, 34], none⟩, ⟨(some 28), 29, (.load none (.t 27)), none, [32, 33, 34], none⟩, (rO 29 (.arith .mul (.t 24) (.t 28))), (rO 30 (.arith .sub (.t 23) (.t 29))), ⟨(some 31), 32, (.call N.spec_l01Mod [(.t 19), (.t 30)]), none, [33, 34], none⟩, (rO 32 (.bslice 1 [(.t 31)])), (rO 33 (.app 1 8 (.t 18) (.t 32))), (rO 9 (.mov (.t 33)))])))) (.reg false [] [(rO 16 (.mov (.t 10))), (rO 17 (.arith .add (.t 16) (.c (.int .i64 1)))), (rO 10 (.mov (.t 17)))])))))) (.seq (.reg false [] [(rO 34 (.mov (.t 9))), (rO 8 (.mov (.t 34)))]) .ret))))⟩
def ir_spec_l01Echelon (N : FN) : CF := ⟨2, 124, [(.tmp 4)], (.seq (.reg false [] [(rO 4 (.mov (.c .emp)))]) (.seq (.ga (.dead [16]) (.ga (.ren [5]) (.reg false [17] [(rO 16 (.bslice 1 [])), (rO 5 (.mov (.t 16)))]))) (.seq (.seq (.reg false [] [(rO 6 (.mov (.c (.int .i64 0))))]) (.block 0 (.loop (.seq (.seq (.reg false [] [(rO 17 (.mov (.t 6))), (rO 18 (.mov (.t 1))), (rO 19 (.len (.t 18))), (rO 20 (.cmp .lss (.t 17) (.t 19)))]) (.cond (.t 20) .skip (.exit 0))) (.seq (.block 1 (.seq (.ga (.dead [27]) (.ga (.ren [7]) (.reg false [27, 28] [(rO 23 (.mov (.t 1))), (rO 24 (.mov (.t 6))), (rO 25 (.iaddrS 1 (.t 23) (.t 24))), (rO 26 (.loadS (.t 25))), (rO 27 (.call N.spec_l01Own [(.t 26)])), (rO 7 (.mov (.t 27)))]))) (.seq (.seq (.reg false [] [(rO 8 (.mov (.c (.int .i64 0))))]) (.block 2 (.loop (.seq (.seq (.reg false [] [(rO 28 (.mov (.t 8))), (rO 29 (.mov (.t 5))), (rO 30 (.len (.t 29))), (rO 31 (.cmp .lss (.t 28) (.t 30)))]) (.cond (.t 31) .skip (.exit 2))) (.seq (.block 3 (.seq (.reg false [38, 39] [(rO 34 (.mov (.t 5))), (rO 35 (.mov (.t 8))), (rO 36 (.iaddrS 1 (.t 34) (.t 35))), (rO 37 (.loadS (.t 36))), (rO 38 (.call N.spec_l01Lead [(.t 37)])), (rO 9 (.mov (.t 38)))]) (.ga (.dead [49]) (.ga (.ren [7]) (.reg true [50] [(rO 39 (.mov (.t 0))), (rO 40 (.mov (.t 7))), (rO 41 (.mov (.t 5))), (rO 42 (.mov (.t 8))), ⟨(some 43), 44, (.iaddrS 1 (.t 41) (.t 42)), none, [50], none⟩, ⟨(some 44), 45, (.load none (.t 43)), none, [50], none⟩, (rO 45 (.mov (.t 7))), (rO 46 (.mov (.t 9))), ⟨(some 47), 48, (.iaddrS 1 (.t 45) (.t 46)), none, [50], none⟩, ⟨(some 48), 49, (.load none (.t 47)), none, [50], none⟩, (rO 49 (.call N.spec_l01Less [(.t 39), (.t 40), (.t 44), (.t 48)])), (rO 7 (.mov (.t 49)))]))))) (.reg false [] [(rO 32 (.mov (.t 8))), (rO 33 (.arith .add (.t 32) (.c (.int .i64 1)))), (rO 8 (.mov (.t 33)))])))))) (.seq (.reg false [52] [(rO 50 (.mov (.t 7))), (rO 51 (.call N.spec_l01Lead [(.t 50)])), (rO 10 (.mov (.t 51)))]) (.seq (.seq (.reg false [] [(rO 52 (.mov (.t 10))), (rO 53 (.cmp .lss (.t 52) (.c (.int .i64 0))))]) (.cond (.t 53) (.exit 1) .skip)) (.seq (.reg false [60] [(rO 54 (.mov (.t 0))), (rO 55 (.mov (.t 7))), (rO 56 (.mov (.t 10))), (rO 57 (.iaddrS 1 (.t 55) (.t 56))), (rO 58 (.load none (.t 57))), (rO 59 (.call N.spec_l01Inverse [(.t 54), (.t 58)])), (rO 11 (.mov (.t 59)))]) (.seq (.seq (.reg false [] [(rO 12 (.mov (.c (.int .i64 0))))]) (.block 4 (.loop (.seq (.seq (.reg false [] [(rO 60 (.mov (.t 12))), (rO 61 (.mov (.t 7))), (rO 62 (.len (.t 61))), (rO 63 (.cmp .lss (.t 60) (.t 62)))]) (.cond (.t 63) .skip (.exit 4))) (.seq (.block 5 (.reg false [] [(rO 66 (.mov (.t 7))), (rO 67 (.mov (.t 12))), (rO 68 (.mov (.t 7))), (rO 69 (.mov (.t 12))), (rO 70 (.iaddrS 1 (.t 68) (.t 69))), (rO 71 (.load none (.t 70))), (rO 72 (.mov (.t 11))), (rO 73 (.arith .mul (.t 71) (.t 72))), (rO 74 (.mov (.t 0))), (rO 75 (.arith .rem (.t 73) (.t 74))), (rO 76 (.iaddrS 1 (.t 66) (.t 67))), ⟨none, 136, (.store none (.t 76) (.t 75)), none, [], none⟩])) (.reg false [] [(rO 64 (.mov (.t 12))), (rO 65 (.arith .add (.t 64) (.c (.int .i64 1)))), (rO 12 (.mov (.t 65)))])))))) (.seq (.ga (.dead [77]) (.ga (.ren [13]) (.reg false [78] [(rO 77 (.bslice 1 [])), (rO 13 (.mov (.t 77))), (rO 14 (.mov (.c (.bool false))))]))) (.seq (.seq (.gh (.frz [8]) (.reg false [] [(rO 15 (.mov (.c (.int .i64 0))))])) (.block 6 (.loop (.seq (.seq (.reg false [] [(rO 78 (.mov (.t 15))), (rO 79 (.mov (.t 5))), (rO 80 (.len (.t 79))), (rO 81 (.cmp .lss (.t 78) (.t 80)))]) (.cond (.t 81) .skip (.exit 6))) (.seq (.block 7 (.seq (.seq (.reg false [91, 92] [(rO 84 (.mov (.t 14))), (rO 85 (.not (.t 84))), (rO 86 (.mov (.t 85))), ⟨(some 87), 88, (.mov (.t 5)), (some (86, true)), [], none⟩, ⟨(some 88), 89, (.mov (.t 15)), (some (86, true)), [], none⟩, ⟨(some 89), 90, (.iaddrS 1 (.t 87) (.t 88)), (some (86, true)), [], none⟩, ⟨(some 90), 91, (.loadS (.t 89)), (some (86, true)), [], none⟩, ⟨(some 91), 92, (.call N.spec_l01Lead [(.t 90)]), (some (86, true)), [], none⟩, ⟨(some 92), 93, (.mov (.t 10)), (some (86, true)), [], none⟩, ⟨(some 93), 94, (.cmp .gtr (.t 91) (.t 92)), (some (86, true)), [], none⟩, (rO 94 (.pick (.t 86) (.t 93) (.c (.bool false))))]) (.cond (.t 94) (.seq (.ga (.dead [98]) (.ga (.ren [13]) (.gh (.frz [8]) (.reg false [98, 99] [(rO 95 (.mov (.t 13))), (rO 96 (.mov (.t 7))), (rO 97 (.bslice 1 [(.t 96)])), (rO 98 (.app 1 24 (.t 95) (.t 97))), (rO 13 (.mov (.t 98)))])))) (.reg false [] [(rO 14 (.mov (.c (.bool true))))])) .skip)) (.ga (.dead [115]) (.ga (.ren [13]) (.reg true [114, 115, 116] [(rO 99 (.mov (.t 13))), (rO 100 (.mov (.t 0))), (rO 101 (.mov (.t 5))), (rO 102 (.mov (.t 15))), ⟨(some 103), 104, (.iaddrS 1 (.t 101) (.t 102)), none, [114, 115, 116], none⟩, ⟨(some 104), 105, (.load none (.t 103)), none, [114, 115, 116], none⟩, (rO 105 (.mov (.t 7))), (rO 106 (.mov (.t 5))), (rO 107 (.mov (.t 15))), ⟨(some 108), 109, (.iaddrS 1 (.t 106) (.t 107)), none, [114, 115, 116], none⟩, ⟨(some 109), 110, (.load none (.t 108)), none, [114, 115, 116], none⟩, (rO 110 (.mov (.t 10))), ⟨(some 111), 112, (.iaddrS 1 (.t 109) (.t 110)), none, [114, 115, 116], none⟩, ⟨(some 112), 113, (.load none (.t 111)), none, [114, 115, 116], none⟩, ⟨(some 113), 114, (.call N.spec_l01Less [(.t 100), (.t 104), (.t 105), (.t 112)]), none, [115, 116], none⟩, (rO 114 (.bslice 1 [(.t 113)])), (rO 115 (.app 1 24 (.t 99) (.t 114))), (rO 13 (.mov (.t 115)))]))))) (.reg false [] [(rO 82 (.mov (.t 15))), (rO 83 (.arith .add (.t 82) (.c (.int .i64 1)))), (rO 15 (.mov (.t 83)))])))))) (.seq (.seq (.reg false [] [(rO 116 (.mov (.t 14))), (rO 117 (.not (.t 116)))]) (.cond (.t 117) (.ga (.dead [121]) (.ga (.ren [13]) (.gh (.frz [8]) (.reg false [121, 122] [(rO 118 (.mov (.t 13))), (rO 119 (.mov (.t 7))), (rO 120 (.bslice 1 [(.t 119)])), (rO 121 (.app 1 24 (.t 118) (.t 120))), (rO 13 (.mov (.t 121)))])))) .skip)) (.ga (.ren [5]) (.reg false [] [(rO 122 (.mov (.t 13))), (rO 5 (.mov (.t 122)))])))))))))))) (.reg false [] [(rO 21 (.mov (.t 6))), (rO 22 (.arith .add (.t 21) (.c (.int .i64 1)))), (rO 6 (.mov (.t 22)))])))))) (.seq (.reg false [] [(rO 123 (.mov (.t 5))), (rO 4 (.mov (.t 123)))]) .ret))))⟩
def ir_spec_l01Solve (N : FN) : CF := ⟨2, 49, [(.tmp 4), (.tmp 5)], (.seq (.reg false [] [(rO 4 (.mov (.c .emp))), (rO 5 (.mov (.c (.bool false))))]) (.seq (.seq (.reg false [] [(rO 10 (.mov (.t 1))), (rO 11 (.len (.t 10))), (rO 12 (.cmp .eql (.t 11) (.c (.int .i64 0))))]) (.cond (.t 12) (.seq (.reg false [] [(rO 4 (.mov (.c .emp))), (rO 5 (.mov (.c (.bool false))))]) .ret) .skip)) (.seq (.reg true [21] [(rO 13 (.mov (.t 1))), ⟨(some 14), 15, (.iaddrS 1 (.t 13) (.c (.int .i64 0))), none, [21], none⟩, ⟨(some 15), 16, (.load none (.t 14)), none, [21], none⟩, ⟨(some 16), 17, (.len (.t 15)), none, [21], none⟩, (rO 17 (.arith .sub (.t 16) (.c (.int .i64 1)))), (rO 18 (.mov (.t 0))), (rO 19 (.mov (.t 1))), (rO 20 (.call N.spec_l01Echelon [(.t 18), (.t 19)])), (rO 6 (.mov (.t 17))), (rO 7 (.mov (.t 20)))]) (.seq (.seq (.reg false [] [(rO 21 (.mov (.t 7))), (rO 22 (.len (.t 21))), (rO 23 (.mov (.t 6))), (rO 24 (.cmp .neq (.t 22) (.t 23)))]) (.cond (.t 24) (.seq (.reg false [] [(rO 4 (.mov (.c .emp))), (rO 5 (.mov (.c (.bool false))))]) .ret) .skip)) (.seq (.ga (.dead [25]) (.ga (.ren [8]) (.reg false [26] [(rO 25 (.bslice 1 [])), (rO 8 (.mov (.t 25)))]))) (.seq (.seq (.reg false [] [(rO 9 (.mov (.c (.int .i64 0))))]) (.block 0 (.loop (.seq (.seq (.reg false [] [(rO 26 (.mov (.t 9))), (rO 27 (.mov (.t 6))), (rO 28 (.cmp .lss (.t 26) (.t 27)))]) (.cond (.t 28) .skip (.exit 0))) (.seq (.block 1 (.seq (.seq (.reg false [35, 36] [(rO 31 (.mov (.t 7))), (rO 32 (.mov (.t 9))), (rO 33 (.iaddrS 1 (.t 31) (.t 32))), (rO 34 (.loadS (.t 33))), (rO 35 (.call N.spec_l01Lead [(.t 34)])), (rO 36 (.mov (.t 9))), (rO 37 (.cmp .neq (.t 35) (.t 36)))]) (.cond (.t 37) (.seq (.reg false [] [(rO 4 (.mov (.c .emp))), (rO 5 (.mov (.c (.bool false))))]) .ret) .skip)) (.ga (.dead [47]) (.ga (.ren [8]) (.reg false [43, 47, 48] [(rO 38 (.mov (.t 8))), (rO 39 (.mov (.t 7))), (rO 40 (.mov (.t 9))), (rO 41 (.iaddrS 1 (.t 39) (.t 40))), (rO 42 (.loadS (.t 41))), (rO 43 (.mov (.t 6))), (rO 44 (.iaddrS 1 (.t 42) (.t 43))), (rO 45 (.load none (.t 44))), (rO 46 (.bslice 1 [(.t 45)])), (rO 47 (.app 1 8 (.t 38) (.t 46))), (rO 8 (.mov (.t 47)))]))))) (.reg false [] [(rO 29 (.mov (.t 9))), (rO 30 (.arith .add (.t 29) (.c (.int .i64 1)))), (rO 9 (.mov (.t 30)))])))))) (.seq (.reg false [] [(rO 48 (.mov (.t 8))), (rO 4 (.mov (.t 48))), (rO 5 (.mov (.c (.bool true))))]) .ret)))))))⟩
def ir_spec_l01Find (N : FN) : CF := ⟨1, 99, [(.cell 2 (some 6)), (.tmp 3)], (.seq (.reg false [2, 3] [(rO 1 (.box (.t 0))), (rO 2 (.alloc [(.int .u8 0), (.int .u8 0), (.int .u8 0), (.int .u8 0), (.int .u8 0), (.int .u8 0)])), (rO 3 (.mov (.c (.bool false))))]) (.seq (.ga (.dead [14]) (.ga (.ren [4]) (.reg false [15] [(rO 14 (.bslice 1 [])), (rO 4 (.mov (.t 14)))]))) (.seq (.seq (.reg false [] [(rO 5 (.mov (.c (.int .i64 0))))]) (.block 0 (.loop (.seq (.seq (.reg false [] [(rO 15 (.mov (.t 5))), (rO 16 (.faddr 1 (.t 1))), (rO 17 (.load none (.t 16))), (rO 18 (.cmp .lss (.t 15) (.t 17)))]) (.cond (.t 18) .skip (.exit 0))) (.seq (.block 1 (.seq (.reg false [] [(rO 6 (.mov (.c (.int .i64 0))))]) (.block 2 (.loop (.seq (.seq (.reg false [] [(rO 21 (.mov (.t 6))), (rO 22 (.faddr 1 (.t 1))), (rO 23 (.load none (.t 22))), (rO 24 (.cmp .lss (.t 21) (.t 23)))]) (.cond (.t 24) .skip (.exit 2))) (.seq (.block 3 (.seq (.ga (.dead [27]) (.ga (.ren [7]) (.reg false [28] [(rO 27 (.bslice 1 [])), (rO 7 (.mov (.t 27)))]))) (.seq (.seq (.reg false [] [(rO 8 (.mov (.c (.int .i64 0))))]) (.block 4 (.loop (.seq (.seq (.reg false [] [(rO 28 (.mov (.t 8))), (rO 29 (.faddr 1 (.t 1))), (rO 30 (.load none (.t 29))), (rO 31 (.cmp .lss (.t 28) (.t 30)))]) (.cond (.t 31) .skip (.exit 4))) (.seq (.block 5 (.ga (.dead [45]) (.ga (.ren [7]) (.reg false [45, 46] [(rO 34 (.mov (.t 7))), (rO 35 (.mov (.t 8))), (rO 36 (.mov (.t 5))), (rO 37 (.mov (.t 6))), (rO 38 (.faddr 2 (.t 1))), (rO 39 (.iaddrA 6 36 (.t 38) (.t 35))), (rO 40 (.iaddrA 6 6 (.t 39) (.t 36))), (rO 41 (.iaddrA 6 1 (.t 40) (.t 37))), (rO 42 (.load none (.t 41))), (rO 43 (.conv .i64 (.t 42))), (rO 44 (.bslice 1 [(.t 43)])), (rO 45 (.app 1 8 (.t 34) (.t 44))), (rO 7 (.mov (.t 45)))])))) (.reg false [] [(rO 32 (.mov (.t 8))), (rO 33 (.arith .add (.t 32) (.c (.int .i64 1)))), (rO 8 (.mov (.t 33)))])))))) (.seq (.seq (.reg false [] [(rO 46 (.mov (.t 5))), (rO 47 (.mov (.t 6))), (rO 48 (.cmp .eql (.t 46) (.t 47)))]) (.cond (.t 48) (.ga (.dead [51]) (.ga (.ren [7]) (.reg false [51, 52] [(rO 49 (.mov (.t 7))), (rO 50 (.bslice 1 [(.c (.int .i64 1))])), (rO 51 (.app 1 8 (.t 49) (.t 50))), (rO 7 (.mov (.t 51)))]))) (.ga (.dead [54]) (.ga (.ren [7]) (.reg false [54, 55] [(rO 52 (.mov (.t 7))), (rO 53 (.bslice 1 [(.c (.int .i64 0))])), (rO 54 (.app 1 8 (.t 52) (.t 53))), (rO 7 (.mov (.t 54)))]))))) (.ga (.dead [58]) (.ga (.ren [4]) (.gh (.frz [8]) (.reg false [58, 59] [(rO 55 (.mov (.t 4))), (rO 56 (.mov (.t 7))), (rO 57 (.bslice 1 [(.t 56)])), (rO 58 (.app 1 24 (.t 55) (.t 57))), (rO 4 (.mov (.t 58)))])))))))) (.reg false [] [(rO 25 (.mov (.t 6))), (rO 26 (.arith .add (.t 25) (.c (.int .i64 1)))), (rO 6 (.mov (.t 26)))]))))))) (.reg false [] [(rO 19 (.mov (.t 5))), (rO 20 (.arith .add (.t 19) (.c (.int .i64 1)))), (rO 5 (.mov (.t 20)))])))))) (.seq (.gh (.frz [5]) (.reg false [64] [(rO 60 (.faddr 0 (.t 1))), (rO 61 (.load none (.t 60))), (rO 62 (.mov (.t 4))), (rO 63 (.call N.spec_l01Solve [(.t 61), (.t 62)])), (rO 59 (.mov (.t 63))), (rO 64 (.extract (.t 59) 0)), (rO 65 (.extract (.t 59) 1)), (rO 9 (.mov (.t 64))), (rO 10 (.mov (.t 65)))])) (.seq (.seq (.reg false [] [(rO 66 (.mov (.t 10))), (rO 67 (.not (.t 66)))]) (.cond (.t 67) (.seq (.reg false [] [(rO 68 (.build [(.int .u8 0), (.int .u8 0), (.int .u8 0), (.int .u8 0), (.int .u8 0), (.int .u8 0)] [])), ⟨none, 101, (.store (some 6) (.t 2) (.t 68)), none, [], none⟩, (rO 3 (.mov (.c (.bool false))))]) .ret) .skip)) (.seq (.reg false [12] [(rO 69 (.build [(.int .u8 0), (.int .u8 0), (.int .u8 0), (.int .u8 0), (.int .u8 0), (.int .u8 0)] [])), (rO 11 (.alloc [(.int .u8 0), (.int .u8 0), (.int .u8 0), (.int .u8 0), (.int .u8 0), (.int .u8 0)])), ⟨none, 102, (.store (some 6) (.t 11) (.t 69)), none, [], none⟩]) (.seq (.seq (.reg false [] [(rO 12 (.mov (.c (.int .i64 0))))]) (.block 6 (.loop (.seq (.seq (.reg false [] [(rO 70 (.mov (.t 12))), (rO 71 (.mov (.t 9))), (rO 72 (.len (.t 71))), (rO 73 (.cmp .lss (.t 70) (.t 72)))]) (.cond (.t 73) .skip (.exit 6))) (.seq (.block 7 (.reg false [] [(rO 76 (.mov (.t 12))), (rO 77 (.mov (.t 9))), (rO 78 (.mov (.t 12))), (rO 79 (.iaddrS 1 (.t 77) (.t 78))), (rO 80 (.load none (.t 79))), (rO 81 (.conv .u8 (.t 80))), (rO 82 (.iaddrA 6 1 (.t 11) (.t 76))), ⟨none, 107, (.store none (.t 82) (.t 81)), none, [], none⟩])) (.reg false [] [(rO 74 (.mov (.t 12))), (rO 75 (.arith .add (.t 74) (.c (.int .i64 1)))), (rO 12 (.mov (.t 75)))])))))) (.seq (.seq (.reg false [] [(rO 13 (.mov (.c (.int .i64 0))))]) (.block 8 (.loop (.seq (.seq (.reg false [] [(rO 83 (.mov (.t 13))), (rO 84 (.faddr 1 (.t 1))), (rO 85 (.load none (.t 84))), (rO 86 (.cmp .lss (.t 83) (.t 85)))]) (.cond (.t 86) .skip (.exit 8))) (.seq (.block 9 (.seq (.reg true [92, 94, 96] [⟨(some 89), 90, (.load (some 224) (.t 1)), none, [92, 94, 96], none⟩, (rO 90 (.mov (.t 13))), ⟨(some 91), 92, (.call N.spec_l01Basis [(.t 90)]), none, [94, 96], none⟩, ⟨(some 92), 93, (.load (some 6) (.t 11)), none, [92, 94, 96], none⟩, ⟨(some 93), 94, (.call N.spec_l01Times [(.t 89), (.t 91), (.t 92)]), none, [96], none⟩, (rO 94 (.mov (.t 13))), (rO 95 (.call N.spec_l01Basis [(.t 94)])), (rO 96 (.eqa true [(.int .u8), (.int .u8), (.int .u8), (.int .u8), (.int .u8), (.int .u8)] (.t 93) (.t 95)))]) (.cond (.t 96) (.seq (.reg false [] [(rO 97 (.build [(.int .u8 0), (.int .u8 0), (.int .u8 0), (.int .u8 0), (.int .u8 0), (.int .u8 0)] [])), ⟨none, 101, (.store (some 6) (.t 2) (.t 97)), none, [], none⟩, (rO 3 (.mov (.c (.bool false))))]) .ret) .skip))) (.reg false [] [(rO 87 (.mov (.t 13))), (rO 88 (.arith .add (.t 87) (.c (.int .i64 1)))), (rO 13 (.mov (.t 88)))])))))) (.seq (.reg false [] [(rO 98 (.load (some 6) (.t 11))), ⟨none, 101, (.store (some 6) (.t 2) (.t 98)), none, [], none⟩, (rO 3 (.mov (.c (.bool true))))]) .ret)))))))))⟩
def ir_spec_l01Algebra (N : FN) : CF := ⟨1, 56, [(.tmp 2)], (.seq (.reg false [2] [(rO 1 (.box (.t 0))), (rO 2 (.mov (.c (.bool false))))]) (.seq (.seq (.reg false [10] [(rO 8 (.load (some 224) (.t 1))), (rO 9 (.call N.spec_l01Shape [(.t 8)])), (rO 10 (.not (.t 9)))]) (.cond (.t 10) (.seq (.reg false [] [(rO 2 (.mov (.c (.bool false))))]) .ret) .skip)) (.seq (.seq (.reg false [] [(rO 3 (.mov (.c (.int .i64 0))))]) (.block 0 (.loop (.seq (.seq (.reg false [] [(rO 11 (.mov (.t 3))), (rO 12 (.faddr 1 (.t 1))), (rO 13 (.load none (.t 12))), (rO 14 (.cmp .lss (.t 11) (.t 13)))]) (.cond (.t 14) .skip (.exit 0))) (.seq (.block 1 (.seq (.reg false [] [(rO 4 (.mov (.c (.int .i64 0))))]) (.block 2 (.loop (.seq (.seq (.reg false [] [(rO 17 (.mov (.t 4))), (rO 18 (.faddr 1 (.t 1))), (rO 19 (.load none (.t 18))), (rO 20 (.cmp .lss (.t 17) (.t 19)))]) (.cond (.t 20) .skip (.exit 2))) (.seq (.block 3 (.seq (.reg false [] [(rO 5 (.mov (.c (.int .i64 0))))]) (.block 4 (.loop (.seq (.seq (.reg false [] [(rO 23 (.mov (.t 5))), (rO 24 (.faddr 1 (.t 1))), (rO 25 (.load none (.t 24))), (rO 26 (.cmp .lss (.t 23) (.t 25)))]) (.cond (.t 26) .skip (.exit 4))) (.seq (.block 5 (.seq (.reg true [38, 39, 42, 49] [⟨(some 29), 30, (.load (some 224) (.t 1)), none, [38, 39, 42, 49], none⟩, (rO 30 (.mov (.t 3))), (rO 31 (.mov (.t 4))), (rO 32 (.faddr 2 (.t 1))), (rO 33 (.iaddrA 6 36 (.t 32) (.t 30))), (rO 34 (.iaddrA 6 6 (.t 33) (.t 31))), ⟨(some 35), 36, (.load (some 6) (.t 34)), none, [38, 39, 42, 49], none⟩, (rO 36 (.mov (.t 5))), ⟨(some 37), 38, (.call N.spec_l01Basis [(.t 36)]), none, [39, 42, 49], none⟩, ⟨(some 38), 39, (.call N.spec_l01Times [(.t 29), (.t 35), (.t 37)]), none, [42, 49], none⟩, ⟨(some 39), 40, (.load (some 224) (.t 1)), none, [38, 39, 42, 49], none⟩, (rO 40 (.mov (.t 3))), ⟨(some 41), 42, (.call N.spec_l01Basis [(.t 40)]), none, [49], none⟩, (rO 42 (.mov (.t 4))), (rO 43 (.mov (.t 5))), (rO 44 (.faddr 2 (.t 1))), (rO 45 (.iaddrA 6 36 (.t 44) (.t 42))), (rO 46 (.iaddrA 6 6 (.t 45) (.t 43))), ⟨(some 47), 48, (.load (some 6) (.t 46)), none, [38, 39, 42, 49], none⟩, (rO 48 (.call N.spec_l01Times [(.t 39), (.t 41), (.t 47)])), (rO 49 (.eqa true [(.int .u8), (.int .u8), (.int .u8), (.int .u8), (.int .u8), (.int .u8)] (.t 38) (.t 48)))]) (.cond (.t 49) (.seq (.reg false [] [(rO 2 (.mov (.c (.bool false))))]) .ret) .skip))) (.reg false [] [(rO 27 (.mov (.t 5))), (rO 28 (.arith .add (.t 27) (.c (.int .i64 1)))), (rO 5 (.mov (.t 28)))]))))))) (.reg false [] [(rO 21 (.mov (.t 4))), (rO 22 (.arith .add (.t 21) (.c (.int .i64 1)))), (rO 4 (.mov (.t 22)))]))))))) (.reg false [] [(rO 15 (.mov (.t 3))), (rO 16 (.arith .add (.t 15) (.c (.int .i64 1)))), (rO 3 (.mov (.t 16)))])))))) (.seq (.reg false [53, 7] [(rO 51 (.load (some 224) (.t 1))), (rO 52 (.call N.spec_l01Find [(.t 51)])), (rO 50 (.mov (.t 52))), (rO 53 (.extract (.t 50) 0)), (rO 54 (.extract (.t 50) 1)), (rO 6 (.alloc [(.int .u8 0), (.int .u8 0), (.int .u8 0), (.int .u8 0), (.int .u8 0), (.int .u8 0)])), ⟨none, 63, (.store (some 6) (.t 6) (.t 53)), none, [], none⟩, (rO 7 (.mov (.t 54)))]) (.seq (.reg false [] [(rO 55 (.mov (.t 7))), (rO 2 (.mov (.t 55)))]) .ret)))))⟩
def ir_spec_l01Form (N : FN) : CF := ⟨2, 27, [(.tmp 4)], (.seq (.reg false [3, 4] [(rO 2 (.box (.t 0))), (rO 3 (.box (.t 1))), (rO 4 (.mov (.c (.int .i64 0))))]) (.seq (.reg false [] [(rO 5 (.mov (.c (.int .i64 0))))]) (.seq (.seq (.reg false [] [(rO 6 (.mov (.c (.int .i64 0))))]) (.block 0 (.loop (.seq (.seq (.reg false [] [(rO 7 (.mov (.t 6))), (rO 8 (.cmp .lss (.t 7) (.c (.int .i64 6))))]) (.cond (.t 8) .skip (.exit 0))) (.seq (.block 1 (.reg true [] [(rO 11 (.mov (.t 5))), (rO 12 (.mov (.t 6))), (rO 13 (.faddr 218 (.t 2))), (rO 14 (.iaddrA 6 1 (.t 13) (.t 12))), (rO 15 (.load none (.t 14))), (rO 16 (.conv .i64 (.t 15))), (rO 17 (.mov (.t 6))), (rO 18 (.iaddrA 6 1 (.t 3) (.t 17))), (rO 19 (.load none (.t 18))), (rO 20 (.conv .i64 (.t 19))), (rO 21 (.arith .mul (.t 16) (.t 20))), (rO 22 (.arith .add (.t 11) (.t 21))), (rO 5 (.mov (.t 22)))])) (.reg false [] [(rO 9 (.mov (.t 6))), (rO 10 (.arith .add (.t 9) (.c (.int .i64 1)))), (rO 6 (.mov (.t 10)))])))))) (.seq (.reg false [] [(rO 23 (.mov (.t 5))), (rO 24 (.faddr 0 (.t 2))), (rO 25 (.load none (.t 24))), (rO 26 (.arith .rem (.t 23) (.t 25))), (rO 4 (.mov (.t 26)))]) .ret))))⟩
def ir_spec_l01Unit (N : FN) : CF := ⟨1, 11, [(.cell 2 (some 6))], (.seq (.reg false [2, 3] [(rO 1 (.box (.t 0))), (rO 2 (.alloc [(.int .u8 0), (.int .u8 0), (.int .u8 0), (.int .u8 0), (.int .u8 0), (.int .u8 0)]))]) (.seq (.reg false [8, 4] [(rO 6 (.load (some 224) (.t 1))), (rO 7 (.call N.spec_l01Find [(.t 6)])), (rO 5 (.mov (.t 7))), (rO 8 (.extract (.t 5) 0)), (rO 9 (.extract (.t 5) 1)), (rO 3 (.alloc [(.int .u8 0), (.int .u8 0), (.int .u8 0), (.int .u8 0), (.int .u8 0), (.int .u8 0)])), ⟨none, 18, (.store (some 6) (.t 3) (.t 8)), none, [], none⟩, (rO 4 (.mov (.t 9)))]) (.seq (.reg false [] [(rO 10 (.load (some 6) (.t 3))), ⟨none, 13, (.store (some 6) (.t 2) (.t 10)), none, [], none⟩]) .ret)))⟩
def ir_impl_Algebra_n (N : FN) : CF := ⟨1, 7, [(.tmp 2)], (.seq (.reg false [] [(rO 2 (.mov (.c (.int .i64 0))))]) (.seq (.reg false [] [(rO 3 (.mov (.t 0))), (rO 4 (.nilchk (.t 3))), (rO 5 (.faddr 1 (.t 4))), (rO 6 (.load none (.t 5))), (rO 2 (.mov (.t 6)))]) .ret))⟩
def ir_impl_Algebra_add (N : FN) : CF := ⟨4, 34, [(.cell 8 (some 6))], (.seq (.reg false [6, 7, 9] [(rO 5 (.box (.t 1))), (rO 6 (.box (.t 2))), (rO 8 (.alloc [(.int .u8 0), (.int .u8 0), (.int .u8 0), (.int .u8 0), (.int .u8 0), (.int .u8 0)]))]) (.seq (.seq (.reg false [] [(rO 10 (.mov (.c (.int .i64 0))))]) (.block 0 (.loop (.seq (.reg false [] [(rO 11 (.cmp .lss (.t 10) (.c (.int .i64 6))))]) (.seq (.cond (.t 11) .skip (.exit 0)) (.seq (.block 1 (.seq (.reg false [] [(rO 12 (.mov (.t 10))), (rO 9 (.mov (.t 12)))]) (.reg true [] [(rO 13 (.mov (.t 9))), (rO 14 (.mov (.t 9))), (rO 15 (.iaddrA 6 1 (.t 5) (.t 14))), (rO 16 (.load none (.t 15))), (rO 17 (.conv .i64 (.t 16))), (rO 18 (.mov (.t 3))), (rO 19 (.mov (.t 9))), (rO 20 (.iaddrA 6 1 (.t 6) (.t 19))), (rO 21 (.load none (.t 20))), (rO 22 (.conv .i64 (.t 21))), (rO 23 (.arith .mul (.t 18) (.t 22))), (rO 24 (.arith .add (.t 17) (.t 23))), (rO 25 (.mov (.t 0))), (rO 26 (.nilchk (.t 25))), (rO 27 (.faddr 0 (.t 26))), (rO 28 (.load none (.t 27))), (rO 29 (.arith .rem (.t 24) (.t 28))), (rO 30 (.conv .u8 (.t 29))), (rO 31 (.iaddrA 6 1 (.t 5) (.t 13))), ⟨none, 54, (.store none (.t 31) (.t 30)), none, [], none⟩]))) (.reg false [] [(rO 32 (.arith .add (.t 10) (.c (.int .i64 1)))), (rO 10 (.mov (.t 32)))]))))))) (.seq (.reg false [] [(rO 33 (.load (some 6) (.t 5))), ⟨none, 36, (.store (some 6) (.t 8) (.t 33)), none, [], none⟩]) .ret)))⟩
def ir_impl_basis (N : FN) : CF := ⟨1, 8, [(.cell 2 (some 6))], (.seq (.reg false [3] [(rO 2 (.alloc [(.int .u8 0), (.int .u8 0), (.int .u8 0), (.int .u8 0), (.int .u8 0), (.int .u8 0)]))]) (.seq (.reg false [4] [(rO 4 (.build [(.int .u8 0), (.int .u8 0), (.int .u8 0), (.int .u8 0), (.int .u8 0), (.int .u8 0)] [])), (rO 3 (.alloc [(.int .u8 0), (.int .u8 0), (.int .u8 0), (.int .u8 0), (.int .u8 0), (.int .u8 0)])), ⟨none, 11, (.store (some 6) (.t 3) (.t 4)), none, [], none⟩]) (.seq (.reg false [] [(rO 5 (.mov (.t 0))), (rO 6 (.iaddrA 6 1 (.t 3) (.t 5))), ⟨none, 11, (.store none (.t 6) (.c (.int .u8 1))), none, [], none⟩]) (.seq (.reg false [] [(rO 7 (.load (some 6) (.t 3))), ⟨none, 10, (.store (some 6) (.t 2) (.t 7)), none, [], none⟩]) .ret))))⟩
def ir_impl_isVector (N : FN) : CF := ⟨3, 28, [(.tmp 6)], (.seq (.reg false [4] [(rO 3 (.box (.t 0))), (rO 6 (.mov (.c (.bool false))))]) (.seq (.seq (.reg false [] [(rO 9 (.load (some 6) (.t 3))), (rO 10 (.mov (.c (.int .i64 0))))]) (.block 0 (.loop (.seq (.reg false [] [(rO 11 (.cmp .lss (.t 10) (.c (.int .i64 6))))]) (.seq (.cond (.t 11) .skip (.exit 0)) (.seq (.block 1 (.seq (.reg false [] [(rO 12 (.mov (.t 10))), (rO 13 (.idx 6 1 none (.t 9) (.t 10))), (rO 7 (.mov (.t 12))), (rO 8 (.mov (.t 13)))]) (.seq (.reg false [] [(rO 14 (.mov (.t 8))), (rO 15 (.conv .i64 (.t 14))), (rO 16 (.mov (.t 2))), (rO 17 (.cmp .geq (.t 15) (.t 16))), (rO 18 (.mov (.t 17))), ⟨(some 19), 20, (.mov (.t 7)), (some (18, false)), [], none⟩, ⟨(some 20), 21, (.mov (.t 1)), (some (18, false)), [], none⟩, ⟨(some 21), 22, (.cmp .geq (.t 19) (.t 20)), (some (18, false)), [], none⟩, ⟨(some 22), 23, (.mov (.t 21)), (some (18, false)), [], none⟩, ⟨(some 23), 24, (.mov (.t 8)), (some (22, true)), [], none⟩, ⟨(some 24), 25, (.cmp .neq (.t 23) (.c (.int .u8 0))), (some (22, true)), [], none⟩, ⟨(some 25), 26, (.pick (.t 22) (.t 24) (.c (.bool false))), (some (18, false)), [], none⟩, (rO 26 (.pick (.t 18) (.c (.bool true)) (.t 25)))]) (.cond (.t 26) (.seq (.reg false [] [(rO 6 (.mov (.c (.bool false))))]) .ret) .skip)))) (.reg false [] [(rO 27 (.arith .add (.t 10) (.c (.int .i64 1)))), (rO 10 (.mov (.t 27)))]))))))) (.seq (.reg false [] [(rO 6 (.mov (.c (.bool true))))]) .ret)))⟩
def ir_impl_Algebra_times (N : FN) : CF := ⟨3, 80, [(.cell 6 (some 6))], (.seq (.reg false [5, 6, 7] [(rO 4 (.box (.t 1))), (rO 5 (.box (.t 2))), (rO 6 (.alloc [(.int .u8 0), (.int .u8 0), (.int .u8 0), (.int .u8 0), (.int .u8 0), (.int .u8 0)]))]) (.seq (.reg false [8] [(rO 15 (.build [(.int .i64 0), (.int .i64 0), (.int .i64 0), (.int .i64 0), (.int .i64 0), (.int .i64 0)] [])), (rO 7 (.alloc [(.int .i64 0), (.int .i64 0), (.int .i64 0), (.int .i64 0), (.int .i64 0), (.int .i64 0)])), ⟨none, 83, (.store (some 6) (.t 7) (.t 15)), none, [], none⟩]) (.seq (.seq (.reg false [18] [(rO 16 (.mov (.t 0))), (rO 17 (.call N.impl_Algebra_n [(.t 16)])), (rO 18 (.mov (.c (.int .i64 0))))]) (.block 0 (.loop (.seq (.reg false [] [(rO 19 (.cmp .lss (.t 18) (.t 17)))]) (.seq (.cond (.t 19) .skip (.exit 0)) (.seq (.block 1 (.seq (.reg false [] [(rO 20 (.mov (.t 18))), (rO 8 (.mov (.t 20)))]) (.seq (.reg false [23] [(rO 21 (.mov (.t 0))), (rO 22 (.call N.impl_Algebra_n [(.t 21)])), (rO 23 (.mov (.c (.int .i64 0))))]) (.block 2 (.loop (.seq (.reg false [] [(rO 24 (.cmp .lss (.t 23) (.t 22)))]) (.seq (.cond (.t 24) .skip (.exit 2)) (.seq (.block 3 (.seq (.reg false [] [(rO 25 (.mov (.t 23))), (rO 9 (.mov (.t 25)))]) (.seq (.reg true [] [(rO 26 (.mov (.t 8))), (rO 27 (.iaddrA 6 1 (.t 4) (.t 26))), (rO 28 (.load none (.t 27))), (rO 29 (.conv .i64 (.t 28))), (rO 30 (.mov (.t 9))), (rO 31 (.iaddrA 6 1 (.t 5) (.t 30))), (rO 32 (.load none (.t 31))), (rO 33 (.conv .i64 (.t 32))), (rO 34 (.arith .mul (.t 29) (.t 33))), (rO 10 (.mov (.t 34)))]) (.seq (.seq (.reg false [] [(rO 35 (.mov (.t 10))), (rO 36 (.cmp .eql (.t 35) (.c (.int .i64 0))))]) (.cond (.t 36) (.exit 3) .skip)) (.seq (.reg false [39] [(rO 37 (.mov (.t 0))), (rO 38 (.call N.impl_Algebra_n [(.t 37)])), (rO 39 (.mov (.c (.int .i64 0))))]) (.block 4 (.loop (.seq (.reg false [] [(rO 40 (.cmp .lss (.t 39) (.t 38)))]) (.seq (.cond (.t 40) .skip (.exit 4)) (.seq (.block 5 (.seq (.reg false [] [(rO 41 (.mov (.t 39))), (rO 11 (.mov (.t 41)))]) (.reg true [] [(rO 42 (.mov (.t 11))), (rO 43 (.iaddrA 6 1 (.t 7) (.t 42))), (rO 44 (.load none (.t 43))), (rO 45 (.mov (.t 10))), (rO 46 (.mov (.t 0))), (rO 47 (.mov (.t 8))), (rO 48 (.mov (.t 9))), (rO 49 (.mov (.t 11))), (rO 50 (.nilchk (.t 46))), (rO 51 (.faddr 2 (.t 50))), (rO 52 (.iaddrA 6 36 (.t 51) (.t 47))), (rO 53 (.iaddrA 6 6 (.t 52) (.t 48))), (rO 54 (.iaddrA 6 1 (.t 53) (.t 49))), (rO 55 (.load none (.t 54))), (rO 56 (.conv .i64 (.t 55))), (rO 57 (.arith .mul (.t 45) (.t 56))), (rO 58 (.arith .add (.t 44) (.t 57))), (rO 59 (.iaddrA 6 1 (.t 7) (.t 42))), ⟨none, 99, (.store none (.t 59) (.t 58)), none, [], none⟩]))) (.reg false [] [(rO 60 (.arith .add (.t 39) (.c (.int .i64 1)))), (rO 39 (.mov (.t 60)))]))))))))))) (.reg false [] [(rO 61 (.arith .add (.t 23) (.c (.int .i64 1)))), (rO 23 (.mov (.t 61)))]))))))))) (.reg false [] [(rO 62 (.arith .add (.t 18) (.c (.int .i64 1)))), (rO 18 (.mov (.t 62)))]))))))) (.seq (.reg false [13] [(rO 63 (.build [(.int .u8 0), (.int .u8 0), (.int .u8 0), (.int .u8 0), (.int .u8 0), (.int .u8 0)] [])), (rO 12 (.alloc [(.int .u8 0), (.int .u8 0), (.int .u8 0), (.int .u8 0), (.int .u8 0), (.int .u8 0)])), ⟨none, 83, (.store (some 6) (.t 12) (.t 63)), none, [], none⟩]) (.seq (.seq (.reg false [] [(rO 64 (.load (some 6) (.t 7))), (rO 65 (.mov (.c (.int .i64 0))))]) (.block 6 (.loop (.seq (.reg false [] [(rO 66 (.cmp .lss (.t 65) (.c (.int .i64 6))))]) (.seq (.cond (.t 66) .skip (.exit 6)) (.seq (.block 7 (.seq (.reg false [] [(rO 67 (.mov (.t 65))), (rO 68 (.idx 6 1 none (.t 64) (.t 65))), (rO 13 (.mov (.t 67))), (rO 14 (.mov (.t 68)))]) (.reg false [] [(rO 69 (.mov (.t 13))), (rO 70 (.mov (.t 14))), (rO 71 (.mov (.t 0))), (rO 72 (.nilchk (.t 71))), (rO 73 (.faddr 0 (.t 72))), (rO 74 (.load none (.t 73))), (rO 75 (.arith .rem (.t 70) (.t 74))), (rO 76 (.conv .u8 (.t 75))), (rO 77 (.iaddrA 6 1 (.t 12) (.t 69))), ⟨none, 90, (.store none (.t 77) (.t 76)), none, [], none⟩]))) (.reg false [] [(rO 78 (.arith .add (.t 65) (.c (.int .i64 1)))), (rO 65 (.mov (.t 78)))]))))))) (.seq (.reg false [] [(rO 79 (.load (some 6) (.t 12))), ⟨none, 82, (.store (some 6) (.t 6) (.t 79)), none, [], none⟩]) .ret))))))⟩
def ir_slices_Index_Lint64_int64 (N : FN) : CF := ⟨2, 19, [(.tmp 4)], (.seq (.reg false [] [(rO 4 (.mov (.c (.int .i64 0))))]) (.seq (.seq (.reg false [] [(rO 6 (.mov (.t 0))), (rO 7 (.len (.t 6))), (rO 8 (.mov (.c (.int .i64 0))))]) (.block 0 (.loop (.seq (.reg false [] [(rO 9 (.cmp .lss (.t 8) (.t 7)))]) (.seq (.cond (.t 9) .skip (.exit 0)) (.seq (.block 1 (.seq (.reg false [] [(rO 10 (.mov (.t 8))), (rO 5 (.mov (.t 10)))]) (.seq (.reg false [] [(rO 11 (.mov (.t 1))), (rO 12 (.mov (.t 0))), (rO 13 (.mov (.t 5))), (rO 14 (.iaddrS 1 (.t 12) (.t 13))), (rO 15 (.load none (.t 14))), (rO 16 (.cmp .eql (.t 11) (.t 15)))]) (.cond (.t 16) (.seq (.reg false [] [(rO 17 (.mov (.t 5))), (rO 4 (.mov (.t 17)))]) .ret) .skip)))) (.reg false [] [(rO 18 (.arith .add (.t 8) (.c (.int .i64 1)))), (rO 8 (.mov (.t 18)))]))))))) (.seq (.reg false [] [(rO 4 (.mov (.c (.int .i64 (-1)))))]) .ret)))⟩
def ir_slices_Contains_Lint64_int64 (N : FN) : CF := ⟨2, 9, [(.tmp 4)], (.seq (.reg false [] [(rO 4 (.mov (.c (.bool false))))]) (.seq (.reg false [8] [(rO 5 (.mov (.t 0))), (rO 6 (.mov (.t 1))), (rO 7 (.call N.slices_Index_Lint64_int64 [(.t 5), (.t 6)])), (rO 8 (.cmp .geq (.t 7) (.c (.int .i64 0)))), (rO 4 (.mov (.t 8)))]) .ret))⟩
def ir_impl_isPrime (N : FN) : CF := ⟨1, 6, [(.tmp 2)], (.seq (.reg false [] [(rO 2 (.mov (.c (.bool false))))]) (.seq (.reg false [4, 6] [(rO 3 (.bslice 1 [(.c (.int .i64 2)), (.c (.int .i64 3)), (.c (.int .i64 5)), (.c (.int .i64 7)), (.c (.int .i64 11)), (.c (.int .i64 13))])), (rO 4 (.mov (.t 0))), (rO 5 (.call N.slices_Contains_Lint64_int64 [(.t 3), (.t 4)])), (rO 2 (.mov (.t 5)))]) .ret))⟩
def ir_impl_in (N : FN) : CF := ⟨3, 15, [(.tmp 6)], (.seq (.reg false [] [(rO 6 (.mov (.c (.bool false))))]) (.seq (.reg false [] [(rO 7 (.mov (.t 0))), (rO 8 (.mov (.t 1))), (rO 9 (.cmp .geq (.t 7) (.t 8))), (rO 10 (.mov (.t 9))), ⟨(some 11), 12, (.mov (.t 0)), (some (10, true)), [], none⟩, ⟨(some 12), 13, (.mov (.t 2)), (some (10, true)), [], none⟩, ⟨(some 13), 14, (.cmp .leq (.t 11) (.t 12)), (some (10, true)), [], none⟩, (rO 14 (.pick (.t 10) (.t 13) (.c (.bool false)))), (rO 6 (.mov (.t 14)))]) .ret))⟩
def ir_impl_Algebra_behind_1 (N : FN) : CF := ⟨3, 9, [(.cell 4 (some 6))], (.seq (.reg false [4, 5] [(rO 3 (.box (.t 0))), (rO 4 (.alloc [(.int .u8 0), (.int .u8 0), (.int .u8 0), (.int .u8 0), (.int .u8 0), (.int .u8 0)]))]) (.seq (.reg false [9] [(rO 5 (.load none (.t 1))), (rO 6 (.load (some 6) (.t 3))), (rO 7 (.load (some 6) (.t 2))), (rO 8 (.call N.impl_Algebra_times [(.t 5), (.t 6), (.t 7)])), ⟨none, 14, (.store (some 6) (.t 4) (.t 8)), none, [], none⟩]) .ret))⟩
def ir_impl_Algebra_behind (N : FN) : CF := ⟨2, 6, [(.tmp 4)], (.seq (.reg false [3, 4] [(rO 2 (.box (.t 0))), (rO 3 (.box (.t 1))), (rO 4 (.mov (.c .nilfn)))]) (.seq (.reg false [] [(rO 5 (.mkfn N.impl_Algebra_behind_1 [] [(.t 2), (.t 3)])), (rO 4 (.mov (.t 5)))]) .ret))⟩
def ir_impl_Algebra_ahead_1 (N : FN) : CF := ⟨3, 9, [(.cell 4 (some 6))], (.seq (.reg false [4, 5] [(rO 3 (.box (.t 0))), (rO 4 (.alloc [(.int .u8 0), (.int .u8 0), (.int .u8 0), (.int .u8 0), (.int .u8 0), (.int .u8 0)]))]) (.seq (.reg false [9] [(rO 5 (.load none (.t 1))), (rO 6 (.load (some 6) (.t 2))), (rO 7 (.load (some 6) (.t 3))), (rO 8 (.call N.impl_Algebra_times [(.t 5), (.t 6), (.t 7)])), ⟨none, 14, (.store (some 6) (.t 4) (.t 8)), none, [], none⟩]) .ret))⟩
def ir_impl_Algebra_ahead (N : FN) : CF := ⟨2, 6, [(.tmp 4)], (.seq (.reg false [3, 4] [(rO 2 (.box (.t 0))), (rO 3 (.box (.t 1))), (rO 4 (.mov (.c .nilfn)))]) (.seq (.reg false [] [(rO 5 (.mkfn N.impl_Algebra_ahead_1 [] [(.t 2), (.t 3)])), (rO 4 (.mov (.t 5)))]) .ret))⟩
def ir_impl_Algebra_equations (N : FN) : CF := ⟨2, 47, [(.tmp 4)], (.seq (.reg false [] [(rO 4 (.mov (.c .emp)))]) (.seq (.ga (.put [6]) (.ga (.dead [11]) (.ga (.ren [5]) (.reg false [12] [(rO 11 (.bslice 1 [])), (rO 5 (.mov (.t 11)))])))) (.seq (.seq (.reg false [] [(rO 12 (.mov (.t 1))), (rO 13 (.len (.t 12))), (rO 14 (.mov (.c (.int .i64 0))))]) (.block 0 (.loop (.seq (.reg false [] [(rO 15 (.cmp .lss (.t 14) (.t 13)))]) (.seq (.cond (.t 15) .skip (.exit 0)) (.seq (.block 1 (.seq (.reg false [] [(rO 16 (.iaddrS 1 (.t 12) (.t 14))), (rO 17 (.load none (.t 16))), (rO 7 (.mov (.t 17)))]) (.seq (.reg false [20] [(rO 18 (.mov (.t 0))), (rO 19 (.call N.impl_Algebra_n [(.t 18)])), (rO 20 (.mov (.c (.int .i64 0))))]) (.block 2 (.loop (.seq (.reg false [] [(rO 21 (.cmp .lss (.t 20) (.t 19)))]) (.seq (.cond (.t 21) .skip (.exit 2)) (.seq (.block 3 (.seq (.reg false [] [(rO 22 (.mov (.t 20))), (rO 8 (.mov (.t 22)))]) (.seq (.ga (.dead [23]) (.ga (.ren [9]) (.reg false [24] [(rO 23 (.bslice 1 [])), (rO 9 (.mov (.t 23)))]))) (.seq (.seq (.reg false [26] [(rO 24 (.mov (.t 0))), (rO 25 (.call N.impl_Algebra_n [(.t 24)])), (rO 26 (.mov (.c (.int .i64 0))))]) (.block 4 (.loop (.seq (.reg false [] [(rO 27 (.cmp .lss (.t 26) (.t 25)))]) (.seq (.cond (.t 27) .skip (.exit 4)) (.seq (.block 5 (.seq (.reg false [] [(rO 28 (.mov (.t 26))), (rO 10 (.mov (.t 28)))]) (.ga (.dead [38]) (.ga (.ren [9]) (.reg false [33, 34, 38, 39] [(rO 29 (.mov (.t 9))), (rO 30 (.mov (.t 7))), (rO 31 (.mov (.t 10))), (rO 32 (.call N.impl_basis [(.t 31)])), (rO 33 (.callV (.t 30) [(.t 32)])), (rO 34 (.mov (.t 8))), (rO 35 (.idx 6 1 none (.t 33) (.t 34))), (rO 36 (.conv .i64 (.t 35))), (rO 37 (.bslice 1 [(.t 36)])), (rO 38 (.app 1 8 (.t 29) (.t 37))), (rO 9 (.mov (.t 38)))]))))) (.reg false [] [(rO 39 (.arith .add (.t 26) (.c (.int .i64 1)))), (rO 26 (.mov (.t 39)))]))))))) (.ga (.put [6]) (.ga (.dead [43]) (.ga (.ren [5]) (.reg false [43, 44] [(rO 40 (.mov (.t 5))), (rO 41 (.mov (.t 9))), (rO 42 (.bslice 1 [(.t 41)])), (rO 43 (.app 1 24 (.t 40) (.t 42))), (rO 5 (.mov (.t 43)))])))))))) (.reg false [] [(rO 44 (.arith .add (.t 20) (.c (.int .i64 1)))), (rO 20 (.mov (.t 44)))]))))))))) (.reg false [] [(rO 45 (.arith .add (.t 14) (.c (.int .i64 1)))), (rO 14 (.mov (.t 45)))]))))))) (.seq (.reg false [] [(rO 46 (.mov (.t 5))), (rO 4 (.mov (.t 46)))]) .ret))))⟩
def ir_impl_power (N : FN) : CF := ⟨3, 18, [(.tmp 6)], (.seq (.reg false [] [(rO 6 (.mov (.c (.int .i64 0))))]) (.seq (.reg false [] [(rO 7 (.mov (.c (.int .i64 1))))]) (.seq (.seq (.reg false [] [(rO 8 (.mov (.t 1))), (rO 9 (.mov (.c (.int .i64 0))))]) (.block 0 (.loop (.seq (.reg false [] [(rO 10 (.cmp .lss (.t 9) (.t 8)))]) (.seq (.cond (.t 10) .skip (.exit 0)) (.seq (.block 1 (.reg false [] [(rO 11 (.mov (.t 7))), (rO 12 (.mov (.t 0))), (rO 13 (.arith .mul (.t 11) (.t 12))), (rO 14 (.mov (.t 2))), (rO 15 (.arith .rem (.t 13) (.t 14))), (rO 7 (.mov (.t 15)))])) (.reg false [] [(rO 16 (.arith .add (.t 9) (.c (.int .i64 1)))), (rO 9 (.mov (.t 16)))]))))))) (.seq (.reg false [] [(rO 17 (.mov (.t 7))), (rO 6 (.mov (.t 17)))]) .ret))))⟩
def ir_impl_inverse (N : FN) : CF := ⟨2, 10, [(.tmp 4)], (.seq (.reg false [] [(rO 4 (.mov (.c (.int .i64 0))))]) (.seq (.reg false [10] [(rO 5 (.mov (.t 0))), (rO 6 (.mov (.t 1))), (rO 7 (.arith .sub (.t 6) (.c (.int .i64 2)))), (rO 8 (.mov (.t 1))), (rO 9 (.call N.impl_power [(.t 5), (.t 7), (.t 8)])), (rO 4 (.mov (.t 9)))]) .ret))⟩
def ir_slices_Clone_LLint64_Lint64 (N : FN) : CF := ⟨1, 8, [(.tmp 2)], (.seq (.reg false [] [(rO 2 (.mov (.c .emp)))]) (.seq (.seq (.reg false [] [(rO 3 (.mov (.t 0))), (rO 4 (.isNil false (.t 3)))]) (.cond (.t 4) (.seq (.reg false [] [(rO 2 (.mov (.c .emp)))]) .ret) .skip)) (.seq (.ga (.dead [7]) (.ga (.ren [2]) (.reg false [6, 8] [(rO 5 (.bslice 1 [])), (rO 6 (.mov (.t 0))), (rO 7 (.app 1 24 (.t 5) (.t 6))), (rO 2 (.mov (.t 7)))]))) .ret)))⟩
def ir_slices_IndexFunc_LLint64_Lint64 (N : FN) : CF := ⟨2, 19, [(.tmp 4)], (.seq (.reg false [] [(rO 4 (.mov (.c (.int .i64 0))))]) (.seq (.seq (.reg false [] [(rO 6 (.mov (.t 0))), (rO 7 (.len (.t 6))), (rO 8 (.mov (.c (.int .i64 0))))]) (.block 0 (.loop (.seq (.reg false [] [(rO 9 (.cmp .lss (.t 8) (.t 7)))]) (.seq (.cond (.t 9) .skip (.exit 0)) (.seq (.block 1 (.seq (.reg false [] [(rO 10 (.mov (.t 8))), (rO 5 (.mov (.t 10)))]) (.seq (.reg false [16, 17] [(rO 11 (.mov (.t 1))), (rO 12 (.mov (.t 0))), (rO 13 (.mov (.t 5))), (rO 14 (.iaddrS 1 (.t 12) (.t 13))), (rO 15 (.loadS (.t 14))), (rO 16 (.callV (.t 11) [(.t 15)]))]) (.cond (.t 16) (.seq (.reg false [] [(rO 17 (.mov (.t 5))), (rO 4 (.mov (.t 17)))]) .ret) .skip)))) (.reg false [] [(rO 18 (.arith .add (.t 8) (.c (.int .i64 1)))), (rO 8 (.mov (.t 18)))]))))))) (.seq (.reg false [] [(rO 4 (.mov (.c (.int .i64 (-1)))))]) .ret)))⟩
def ir_impl_reduce_1 (N : FN) : CF := ⟨2, 9, [(.tmp 3)], (.seq (.reg false [] [(rO 3 (.mov (.c (.bool false))))]) (.seq (.reg false [] [(rO 4 (.mov (.t 0))), (rO 5 (.load none (.t 1))), (rO 6 (.iaddrS 1 (.t 4) (.t 5))), (rO 7 (.load none (.t 6))), (rO 8 (.cmp .neq (.t 7) (.c (.int .i64 0)))), (rO 3 (.mov (.t 8)))]) .ret))⟩
def ir_impl_scaled (N : FN) : CF := ⟨3, 27, [(.tmp 6)], (.seq (.reg false [] [(rO 6 (.mov (.c .emp)))]) (.seq (.ga (.dead [10]) (.ga (.ren [7]) (.reg false [11] [(rO 10 (.bslice 1 [])), (rO 7 (.mov (.t 10)))]))) (.seq (.seq (.reg false [] [(rO 11 (.mov (.t 0))), (rO 12 (.len (.t 11))), (rO 13 (.mov (.c (.int .i64 0))))]) (.block 0 (.loop (.seq (.reg false [] [(rO 14 (.cmp .lss (.t 13) (.t 12)))]) (.seq (.cond (.t 14) .skip (.exit 0)) (.seq (.block 1 (.seq (.reg false [] [(rO 15 (.iaddrS 1 (.t 11) (.t 13))), (rO 16 (.load none (.t 15))), (rO 9 (.mov (.t 16)))]) (.ga (.dead [24]) (.ga (.ren [7]) (.reg false [24, 25] [(rO 17 (.mov (.t 7))), (rO 18 (.mov (.t 9))), (rO 19 (.mov (.t 1))), (rO 20 (.arith .mul (.t 18) (.t 19))), (rO 21 (.mov (.t 2))), (rO 22 (.arith .rem (.t 20) (.t 21))), (rO 23 (.bslice 1 [(.t 22)])), (rO 24 (.app 1 8 (.t 17) (.t 23))), (rO 7 (.mov (.t 24)))]))))) (.reg false [] [(rO 25 (.arith .add (.t 13) (.c (.int .i64 1)))), (rO 13 (.mov (.t 25)))]))))))) (.seq (.reg false [] [(rO 26 (.mov (.t 7))), (rO 6 (.mov (.t 26)))]) .ret))))⟩
def ir_slices_Delete_LLint64_Lint64 (N : FN) : CF := ⟨3, 33, [(.tmp 6)], (.seq (.reg false [] [(rO 6 (.mov (.c .emp)))]) (.seq (.reg false [] [(rO 8 (.mov (.t 0))), (rO 9 (.mov (.t 1))), (rO 10 (.mov (.t 2))), (rO 11 (.mov (.t 0))), (rO 12 (.len (.t 11))), (rO 13 (.slc3 1 (.t 8) (.t 9) (.t 10) (.t 12)))]) (.seq (.seq (.reg false [] [(rO 14 (.mov (.t 1))), (rO 15 (.mov (.t 2))), (rO 16 (.cmp .eql (.t 14) (.t 15)))]) (.cond (.t 16) (.seq (.reg false [] [(rO 17 (.mov (.t 0))), (rO 6 (.mov (.t 17)))]) .ret) .skip)) (.seq (.reg false [] [(rO 18 (.mov (.t 0))), (rO 19 (.len (.t 18))), (rO 7 (.mov (.t 19)))]) (.seq (.ga (.dead [26]) (.ga (.ren [0]) (.reg true [27] [(rO 20 (.mov (.t 0))), (rO 21 (.mov (.t 1))), ⟨(some 22), 23, (.slc 1 (.t 20) none (some (.t 21))), none, [27], none⟩, (rO 23 (.mov (.t 0))), (rO 24 (.mov (.t 2))), ⟨(some 25), 26, (.slc 1 (.t 23) (some (.t 24)) none), none, [27], none⟩, (rO 26 (.app 1 24 (.t 22) (.t 25))), (rO 0 (.mov (.t 26)))]))) (.seq (.reg false [] [(rO 27 (.mov (.t 0))), (rO 28 (.mov (.t 0))), (rO 29 (.len (.t 28))), (rO 30 (.mov (.t 7))), (rO 31 (.slc 1 (.t 27) (some (.t 29)) (some (.t 30)))), ⟨none, 39, (.clr [.emp] (.t 31)), none, [], none⟩]) (.seq (.reg false [] [(rO 32 (.mov (.t 0))), (rO 6 (.mov (.t 32)))]) .ret)))))))⟩
def ir_impl_rest (N : FN) : CF := ⟨2, 12, [(.tmp 4)], (.seq (.reg false [] [(rO 4 (.mov (.c (.int .i64 0))))]) (.seq (.reg false [] [(rO 5 (.mov (.t 0))), (rO 6 (.mov (.t 1))), (rO 7 (.arith .rem (.t 5) (.t 6))), (rO 8 (.mov (.t 1))), (rO 9 (.arith .add (.t 7) (.t 8))), (rO 10 (.mov (.t 1))), (rO 11 (.arith .rem (.t 9) (.t 10))), (rO 4 (.mov (.t 11)))]) .ret))⟩
def ir_impl_lessTimes (N : FN) : CF := ⟨4, 35, [(.tmp 8)], (.seq (.reg false [] [(rO 8 (.mov (.c .emp)))]) (.seq (.ga (.dead [12]) (.ga (.ren [9]) (.reg false [13] [(rO 12 (.bslice 1 [])), (rO 9 (.mov (.t 12)))]))) (.seq (.seq (.reg false [] [(rO 13 (.mov (.t 0))), (rO 14 (.len (.t 13))), (rO 15 (.mov (.c (.int .i64 0))))]) (.block 0 (.loop (.seq (.reg false [] [(rO 16 (.cmp .lss (.t 15) (.t 14)))]) (.seq (.cond (.t 16) .skip (.exit 0)) (.seq (.block 1 (.seq (.reg false [] [(rO 17 (.mov (.t 15))), (rO 18 (.iaddrS 1 (.t 13) (.t 15))), (rO 19 (.load none (.t 18))), (rO 10 (.mov (.t 17))), (rO 11 (.mov (.t 19)))]) (.ga (.dead [32]) (.ga (.ren [9]) (.reg false [31, 32, 33] [(rO 20 (.mov (.t 9))), (rO 21 (.mov (.t 11))), (rO 22 (.mov (.t 2))), (rO 23 (.mov (.t 1))), (rO 24 (.mov (.t 10))), (rO 25 (.iaddrS 1 (.t 23) (.t 24))), (rO 26 (.load none (.t 25))), (rO 27 (.arith .mul (.t 22) (.t 26))), (rO 28 (.arith .sub (.t 21) (.t 27))), (rO 29 (.mov (.t 3))), (rO 30 (.call N.impl_rest [(.t 28), (.t 29)])), (rO 31 (.bslice 1 [(.t 30)])), (rO 32 (.app 1 8 (.t 20) (.t 31))), (rO 9 (.mov (.t 32)))]))))) (.reg false [] [(rO 33 (.arith .add (.t 15) (.c (.int .i64 1)))), (rO 15 (.mov (.t 33)))]))))))) (.seq (.reg false [] [(rO 34 (.mov (.t 9))), (rO 8 (.mov (.t 34)))]) .ret))))⟩
def ir_impl_reduce (N : FN) : CF := ⟨2, 97, [(.tmp 4)], (.seq (.reg false [] [(rO 4 (.mov (.c .emp)))]) (.seq (.ga (.dead [14]) (.ga (.ren [5]) (.reg false [15] [(rO 14 (.bslice 1 [])), (rO 5 (.mov (.t 14)))]))) (.seq (.seq (.reg false [] [(rO 15 (.mov (.t 0))), (rO 16 (.len (.t 15))), (rO 17 (.cmp .eql (.t 16) (.c (.int .i64 0))))]) (.cond (.t 17) (.seq (.reg false [] [(rO 18 (.mov (.t 5))), (rO 4 (.mov (.t 18)))]) .ret) .skip)) (.seq (.ga (.dead [20]) (.ga (.ren [6]) (.reg false [21] [(rO 19 (.mov (.t 0))), (rO 20 (.call N.slices_Clone_LLint64_Lint64 [(.t 19)])), (rO 6 (.mov (.t 20)))]))) (.seq (.seq (.reg false [24] [(rO 21 (.mov (.t 0))), (rO 22 (.iaddrS 1 (.t 21) (.c (.int .i64 0)))), (rO 23 (.loadS (.t 22))), (rO 24 (.len (.t 23))), (rO 25 (.mov (.c (.int .i64 0))))]) (.block 0 (.loop (.seq (.reg false [] [(rO 26 (.cmp .lss (.t 25) (.t 24)))]) (.seq (.cond (.t 26) .skip (.exit 0)) (.seq (.block 1 (.seq (.reg false [8] [(rO 27 (.mov (.t 25))), (rO 7 (.alloc [(.int .i64 0)])), ⟨none, 100, (.store none (.t 7) (.t 27)), none, [], none⟩]) (.seq (.reg false [31] [(rO 28 (.mov (.t 6))), (rO 29 (.mkfn N.impl_reduce_1 [] [(.t 7)])), (rO 30 (.call N.slices_IndexFunc_LLint64_Lint64 [(.t 28), (.t 29)])), (rO 8 (.mov (.t 30)))]) (.seq (.seq (.reg false [] [(rO 31 (.mov (.t 8))), (rO 32 (.cmp .lss (.t 31) (.c (.int .i64 0))))]) (.cond (.t 32) (.exit 1) .skip)) (.seq (.reg true [46, 48] [(rO 33 (.mov (.t 6))), (rO 34 (.mov (.t 8))), ⟨(some 35), 36, (.iaddrS 1 (.t 33) (.t 34)), none, [46, 48], none⟩, ⟨(some 36), 37, (.load none (.t 35)), none, [46, 48], none⟩, (rO 37 (.mov (.t 6))), (rO 38 (.mov (.t 8))), ⟨(some 39), 40, (.iaddrS 1 (.t 37) (.t 38)), none, [46, 48], none⟩, ⟨(some 40), 41, (.load none (.t 39)), none, [46, 48], none⟩, ⟨(some 41), 42, (.load none (.t 7)), none, [46, 48], none⟩, ⟨(some 42), 43, (.iaddrS 1 (.t 40) (.t 41)), none, [46, 48], none⟩, ⟨(some 43), 44, (.load none (.t 42)), none, [46, 48], none⟩, (rO 44 (.mov (.t 1))), ⟨(some 45), 46, (.call N.impl_inverse [(.t 43), (.t 44)]), none, [48], none⟩, (rO 46 (.mov (.t 1))), (rO 47 (.call N.impl_scaled [(.t 36), (.t 45), (.t 46)])), (rO 9 (.mov (.t 47)))]) (.seq (.ga (.dead [52]) (.ga (.ren [6]) (.reg false [53] [(rO 48 (.mov (.t 6))), (rO 49 (.mov (.t 8))), (rO 50 (.mov (.t 8))), (rO 51 (.arith .add (.t 50) (.c (.int .i64 1)))), (rO 52 (.callM N.slices_Delete_LLint64_Lint64 (.t 48) [(.t 49), (.t 51)])), (rO 6 (.mov (.t 52)))]))) (.seq (.seq (.reg false [] [(rO 53 (.mov (.t 6))), (rO 54 (.len (.t 53))), (rO 55 (.mov (.c (.int .i64 0))))]) (.block 2 (.loop (.seq (.reg false [] [(rO 56 (.cmp .lss (.t 55) (.t 54)))]) (.seq (.cond (.t 56) .skip (.exit 2)) (.seq (.block 3 (.seq (.reg false [60] [(rO 57 (.mov (.t 55))), (rO 58 (.iaddrS 1 (.t 53) (.t 55))), (rO 59 (.loadS (.t 58))), (rO 10 (.mov (.t 57))), (rO 11 (.mov (.t 59)))]) (.reg false [70] [(rO 60 (.mov (.t 6))), (rO 61 (.mov (.t 10))), (rO 62 (.mov (.t 11))), (rO 63 (.mov (.t 9))), (rO 64 (.mov (.t 11))), (rO 65 (.load none (.t 7))), (rO 66 (.iaddrS 1 (.t 64) (.t 65))), (rO 67 (.load none (.t 66))), (rO 68 (.mov (.t 1))), (rO 69 (.call N.impl_lessTimes [(.t 62), (.t 63), (.t 67), (.t 68)])), (rO 70 (.iaddrS 1 (.t 60) (.t 61))), ⟨none, 109, (.store none (.t 70) (.t 69)), none, [], none⟩]))) (.reg false [] [(rO 71 (.arith .add (.t 55) (.c (.int .i64 1)))), (rO 55 (.mov (.t 71)))]))))))) (.seq (.seq (.reg false [] [(rO 72 (.mov (.t 5))), (rO 73 (.len (.t 72))), (rO 74 (.mov (.c (.int .i64 0))))]) (.block 4 (.loop (.seq (.reg false [] [(rO 75 (.cmp .lss (.t 74) (.t 73)))]) (.seq (.cond (.t 75) .skip (.exit 4)) (.seq (.block 5 (.seq (.reg false [79] [(rO 76 (.mov (.t 74))), (rO 77 (.iaddrS 1 (.t 72) (.t 74))), (rO 78 (.loadS (.t 77))), (rO 12 (.mov (.t 76))), (rO 13 (.mov (.t 78)))]) (.reg false [89] [(rO 79 (.mov (.t 5))), (rO 80 (.mov (.t 12))), (rO 81 (.mov (.t 13))), (rO 82 (.mov (.t 9))), (rO 83 (.mov (.t 13))), (rO 84 (.load none (.t 7))), (rO 85 (.iaddrS 1 (.t 83) (.t 84))), (rO 86 (.load none (.t 85))), (rO 87 (.mov (.t 1))), (rO 88 (.call N.impl_lessTimes [(.t 81), (.t 82), (.t 86), (.t 87)])), (rO 89 (.iaddrS 1 (.t 79) (.t 80))), ⟨none, 109, (.store none (.t 89) (.t 88)), none, [], none⟩]))) (.reg false [] [(rO 90 (.arith .add (.t 74) (.c (.int .i64 1)))), (rO 74 (.mov (.t 90)))]))))))) (.ga (.dead [94]) (.ga (.ren [5]) (.reg false [94, 95] [(rO 91 (.mov (.t 5))), (rO 92 (.mov (.t 9))), (rO 93 (.bslice 1 [(.t 92)])), (rO 94 (.app 1 24 (.t 91) (.t 93))), (rO 5 (.mov (.t 94)))]))))))))))) (.reg false [] [(rO 95 (.arith .add (.t 25) (.c (.int .i64 1)))), (rO 25 (.mov (.t 95)))]))))))) (.seq (.reg false [] [(rO 96 (.mov (.t 5))), (rO 4 (.mov (.t 96)))]) .ret))))))⟩
def ir_slices_IndexFunc_Lint64_int64 (N : FN) : CF := ⟨2, 19, [(.tmp 4)], (.seq (.reg false [] [(rO 4 (.mov (.c (.int .i64 0))))]) (.seq (.seq (.reg false [] [(rO 6 (.mov (.t 0))), (rO 7 (.len (.t 6))), (rO 8 (.mov (.c (.int .i64 0))))]) (.block 0 (.loop (.seq (.reg false [] [(rO 9 (.cmp .lss (.t 8) (.t 7)))]) (.seq (.cond (.t 9) .skip (.exit 0)) (.seq (.block 1 (.seq (.reg false [] [(rO 10 (.mov (.t 8))), (rO 5 (.mov (.t 10)))]) (.seq (.reg false [17] [(rO 11 (.mov (.t 1))), (rO 12 (.mov (.t 0))), (rO 13 (.mov (.t 5))), (rO 14 (.iaddrS 1 (.t 12) (.t 13))), (rO 15 (.load none (.t 14))), (rO 16 (.callV (.t 11) [(.t 15)]))]) (.cond (.t 16) (.seq (.reg false [] [(rO 17 (.mov (.t 5))), (rO 4 (.mov (.t 17)))]) .ret) .skip)))) (.reg false [] [(rO 18 (.arith .add (.t 8) (.c (.int .i64 1)))), (rO 8 (.mov (.t 18)))]))))))) (.seq (.reg false [] [(rO 4 (.mov (.c (.int .i64 (-1)))))]) .ret)))⟩
def ir_impl_leader_1 (N : FN) : CF := ⟨1, 5, [(.tmp 2)], (.seq (.reg false [] [(rO 2 (.mov (.c (.bool false))))]) (.seq (.reg false [] [(rO 3 (.mov (.t 0))), (rO 4 (.cmp .neq (.t 3) (.c (.int .i64 0)))), (rO 2 (.mov (.t 4)))]) .ret))⟩
def ir_impl_leader (N : FN) : CF := ⟨1, 5, [(.tmp 2)], (.seq (.reg false [] [(rO 2 (.mov (.c (.int .i64 0))))]) (.seq (.reg false [5] [(rO 3 (.mov (.t 0))), (rO 4 (.call N.slices_IndexFunc_Lint64_int64 [(.t 3), (.f N.impl_leader_1)])), (rO 2 (.mov (.t 4)))]) .ret))⟩
def ir_impl_solve (N : FN) : CF := ⟨3, 36, [(.tmp 6), (.tmp 7)], (.seq (.reg false [] [(rO 6 (.mov (.c .emp))), (rO 7 (.mov (.c (.bool false))))]) (.seq (.ga (.dead [13]) (.ga (.ren [8]) (.reg false [14] [(rO 12 (.mov (.t 1))), (rO 13 (.mkrow 1 8 [(.int .i64 0)] (.t 12))), (rO 8 (.mov (.t 13)))]))) (.seq (.seq (.reg false [17] [(rO 14 (.mov (.t 0))), (rO 15 (.mov (.t 2))), (rO 16 (.call N.impl_reduce [(.t 14), (.t 15)])), (rO 17 (.len (.t 16))), (rO 18 (.mov (.c (.int .i64 0))))]) (.block 0 (.loop (.seq (.reg false [] [(rO 19 (.cmp .lss (.t 18) (.t 17)))]) (.seq (.cond (.t 19) .skip (.exit 0)) (.seq (.block 1 (.seq (.reg false [22] [(rO 20 (.iaddrS 1 (.t 16) (.t 18))), (rO 21 (.loadS (.t 20))), (rO 10 (.mov (.t 21)))]) (.seq (.reg false [24] [(rO 22 (.mov (.t 10))), (rO 23 (.call N.impl_leader [(.t 22)])), (rO 11 (.mov (.t 23)))]) (.seq (.seq (.reg false [] [(rO 24 (.mov (.t 11))), (rO 25 (.mov (.t 1))), (rO 26 (.cmp .eql (.t 24) (.t 25)))]) (.cond (.t 26) (.seq (.reg false [] [(rO 6 (.mov (.c .emp))), (rO 7 (.mov (.c (.bool false))))]) .ret) .skip)) (.reg false [] [(rO 27 (.mov (.t 8))), (rO 28 (.mov (.t 11))), (rO 29 (.mov (.t 10))), (rO 30 (.mov (.t 1))), (rO 31 (.iaddrS 1 (.t 29) (.t 30))), (rO 32 (.load none (.t 31))), (rO 33 (.iaddrS 1 (.t 27) (.t 28))), ⟨none, 44, (.store none (.t 33) (.t 32)), none, [], none⟩]))))) (.reg false [] [(rO 34 (.arith .add (.t 18) (.c (.int .i64 1)))), (rO 18 (.mov (.t 34)))]))))))) (.seq (.reg false [] [(rO 35 (.mov (.t 8))), (rO 6 (.mov (.t 35))), (rO 7 (.mov (.c (.bool true))))]) .ret))))⟩
def ir_impl_vector (N : FN) : CF := ⟨1, 20, [(.cell 2 (some 6))], (.seq (.reg false [3] [(rO 2 (.alloc [(.int .u8 0), (.int .u8 0), (.int .u8 0), (.int .u8 0), (.int .u8 0), (.int .u8 0)]))]) (.seq (.reg false [4] [(rO 6 (.build [(.int .u8 0), (.int .u8 0), (.int .u8 0), (.int .u8 0), (.int .u8 0), (.int .u8 0)] [])), (rO 3 (.alloc [(.int .u8 0), (.int .u8 0), (.int .u8 0), (.int .u8 0), (.int .u8 0), (.int .u8 0)])), ⟨none, 23, (.store (some 6) (.t 3) (.t 6)), none, [], none⟩]) (.seq (.seq (.reg false [] [(rO 7 (.mov (.t 0))), (rO 8 (.len (.t 7))), (rO 9 (.mov (.c (.int .i64 0))))]) (.block 0 (.loop (.seq (.reg false [] [(rO 10 (.cmp .lss (.t 9) (.t 8)))]) (.seq (.cond (.t 10) .skip (.exit 0)) (.seq (.block 1 (.seq (.reg false [] [(rO 11 (.mov (.t 9))), (rO 12 (.iaddrS 1 (.t 7) (.t 9))), (rO 13 (.load none (.t 12))), (rO 4 (.mov (.t 11))), (rO 5 (.mov (.t 13)))]) (.reg false [] [(rO 14 (.mov (.t 4))), (rO 15 (.mov (.t 5))), (rO 16 (.conv .u8 (.t 15))), (rO 17 (.iaddrA 6 1 (.t 3) (.t 14))), ⟨none, 25, (.store none (.t 17) (.t 16)), none, [], none⟩]))) (.reg false [] [(rO 18 (.arith .add (.t 9) (.c (.int .i64 1)))), (rO 9 (.mov (.t 18)))]))))))) (.seq (.reg false [] [(rO 19 (.load (some 6) (.t 3))), ⟨none, 22, (.store (some 6) (.t 2) (.t 19)), none, [], none⟩]) .ret))))⟩
def ir_impl_Algebra_solved (N : FN) : CF := ⟨3, 57, [(.cell 6 (some 6)), (.tmp 7)], (.seq (.reg false [7] [(rO 6 (.alloc [(.int .u8 0), (.int .u8 0), (.int .u8 0), (.int .u8 0), (.int .u8 0), (.int .u8 0)])), (rO 7 (.mov (.c (.bool false))))]) (.seq (.ga (.dead [14]) (.ga (.ren [8]) (.reg false [15] [(rO 12 (.mov (.t 0))), (rO 13 (.mov (.t 2))), (rO 14 (.call N.impl_Algebra_equations [(.t 12), (.t 13)])), (rO 8 (.mov (.t 14)))]))) (.seq (.seq (.reg false [] [(rO 15 (.mov (.t 8))), (rO 16 (.len (.t 15))), (rO 17 (.mov (.c (.int .i64 0))))]) (.block 0 (.loop (.seq (.reg false [] [(rO 18 (.cmp .lss (.t 17) (.t 16)))]) (.seq (.cond (.t 18) .skip (.exit 0)) (.seq (.block 1 (.seq (.reg false [] [(rO 19 (.mov (.t 17))), (rO 9 (.mov (.t 19)))]) (.ga (.put [9]) (.reg true [26, 30, 34, 40, 41] [(rO 20 (.mov (.t 8))), (rO 21 (.mov (.t 9))), (rO 22 (.mov (.t 8))), (rO 23 (.mov (.t 9))), ⟨(some 24), 25, (.iaddrS 1 (.t 22) (.t 23)), none, [26, 30, 34, 40, 41], none⟩, ⟨(some 25), 26, (.loadS (.t 24)), none, [30, 34, 40, 41], (some [9, 26])⟩, (rO 26 (.mov (.t 1))), (rO 27 (.mov (.t 9))), (rO 28 (.mov (.t 0))), ⟨(some 29), 30, (.call N.impl_Algebra_n [(.t 28)]), none, [9, 26, 34, 40, 41], none⟩, (rO 30 (.arith .quo (.t 27) (.t 29))), (rO 31 (.mov (.t 9))), (rO 32 (.mov (.t 0))), ⟨(some 33), 34, (.call N.impl_Algebra_n [(.t 32)]), none, [9, 26, 40, 41], none⟩, (rO 34 (.arith .rem (.t 31) (.t 33))), ⟨(some 35), 36, (.iaddrS 6 (.t 26) (.t 30)), none, [9, 26, 34, 40, 41], none⟩, (rO 36 (.iaddrA 6 1 (.t 35) (.t 34))), ⟨(some 37), 38, (.load none (.t 36)), none, [9, 26, 40, 41], none⟩, (rO 38 (.conv .i64 (.t 37))), (rO 39 (.bslice 1 [(.t 38)])), (rO 40 (.app 1 8 (.t 25) (.t 39))), (rO 41 (.iaddrS 1 (.t 20) (.t 21))), ⟨none, 80, (.store none (.t 41) (.t 40)), none, [], none⟩])))) (.reg false [] [(rO 42 (.arith .add (.t 17) (.c (.int .i64 1)))), (rO 17 (.mov (.t 42)))]))))))) (.seq (.gh (.frz [9]) (.reg true [47, 52] [(rO 44 (.mov (.t 8))), (rO 45 (.mov (.t 0))), ⟨(some 46), 47, (.call N.impl_Algebra_n [(.t 45)]), none, [52], none⟩, (rO 47 (.mov (.t 0))), (rO 48 (.nilchk (.t 47))), (rO 49 (.faddr 0 (.t 48))), ⟨(some 50), 51, (.load none (.t 49)), none, [47, 52], none⟩, (rO 51 (.call N.impl_solve [(.t 44), (.t 46), (.t 50)])), (rO 43 (.mov (.t 51))), (rO 52 (.extract (.t 43) 0)), (rO 53 (.extract (.t 43) 1)), (rO 10 (.mov (.t 52))), (rO 11 (.mov (.t 53)))])) (.seq (.reg false [56] [(rO 54 (.mov (.t 10))), (rO 55 (.call N.impl_vector [(.t 54)])), (rO 56 (.mov (.t 11))), ⟨none, 61, (.store (some 6) (.t 6) (.t 55)), none, [], none⟩, (rO 7 (.mov (.t 56)))]) .ret)))))⟩
def ir_impl_Algebra_findUnit (N : FN) : CF := ⟨1, 39, [(.cell 2 (some 6)), (.tmp 3)], (.seq (.reg false [3] [(rO 2 (.alloc [(.int .u8 0), (.int .u8 0), (.int .u8 0), (.int .u8 0), (.int .u8 0), (.int .u8 0)])), (rO 3 (.mov (.c (.bool false))))]) (.seq (.ga (.dead [7, 8]) (.ga (.ren [4, 5]) (.reg false [8, 9] [(rO 7 (.bslice 1 [])), (rO 8 (.bslice 6 [])), (rO 4 (.mov (.t 7))), (rO 5 (.mov (.t 8)))]))) (.seq (.seq (.reg false [11] [(rO 9 (.mov (.t 0))), (rO 10 (.call N.impl_Algebra_n [(.t 9)])), (rO 11 (.mov (.c (.int .i64 0))))]) (.block 0 (.loop (.seq (.reg false [] [(rO 12 (.cmp .lss (.t 11) (.t 10)))]) (.seq (.cond (.t 12) .skip (.exit 0)) (.seq (.block 1 (.seq (.reg false [] [(rO 13 (.mov (.t 11))), (rO 6 (.mov (.t 13)))]) (.seq (.ga (.dead [24]) (.ga (.ren [4]) (.reg false [18, 19, 22, 23, 24, 25] [(rO 14 (.mov (.t 4))), (rO 15 (.mov (.t 0))), (rO 16 (.mov (.t 6))), (rO 17 (.call N.impl_basis [(.t 16)])), (rO 18 (.call N.impl_Algebra_behind [(.t 15), (.t 17)])), (rO 19 (.mov (.t 0))), (rO 20 (.mov (.t 6))), (rO 21 (.call N.impl_basis [(.t 20)])), (rO 22 (.call N.impl_Algebra_ahead [(.t 19), (.t 21)])), (rO 23 (.bslice 1 [(.t 18), (.t 22)])), (rO 24 (.app 1 8 (.t 14) (.t 23))), (rO 4 (.mov (.t 24)))]))) (.ga (.dead [31]) (.ga (.ren [5]) (.reg false [28, 30, 31, 32] [(rO 25 (.mov (.t 5))), (rO 26 (.mov (.t 6))), (rO 27 (.call N.impl_basis [(.t 26)])), (rO 28 (.mov (.t 6))), (rO 29 (.call N.impl_basis [(.t 28)])), (rO 30 (.bslice 6 [(.t 27), (.t 29)])), (rO 31 (.app 6 6 (.t 25) (.t 30))), (rO 5 (.mov (.t 31)))])))))) (.reg false [] [(rO 32 (.arith .add (.t 11) (.c (.int .i64 1)))), (rO 11 (.mov (.t 32)))]))))))) (.seq (.reg false [37] [(rO 33 (.mov (.t 0))), (rO 34 (.mov (.t 5))), (rO 35 (.mov (.t 4))), (rO 36 (.call N.impl_Algebra_solved [(.t 33), (.t 34), (.t 35)])), (rO 37 (.extract (.t 36) 0)), (rO 38 (.extract (.t 36) 1)), ⟨none, 46, (.store (some 6) (.t 2) (.t 37)), none, [], none⟩, (rO 3 (.mov (.t 38)))]) .ret))))⟩
def ir_impl_Algebra_tableOk (N : FN) : CF := ⟨1, 63, [(.tmp 2)], (.seq (.reg false [] [(rO 2 (.mov (.c (.bool false))))]) (.seq (.seq (.reg false [] [(rO 7 (.mov (.t 0))), (rO 8 (.nilchk (.t 7))), (rO 9 (.faddr 2 (.t 8))), (rO 10 (.load (some 216) (.t 9))), (rO 11 (.mov (.c (.int .i64 0))))]) (.block 0 (.loop (.seq (.reg false [] [(rO 12 (.cmp .lss (.t 11) (.c (.int .i64 6))))]) (.seq (.cond (.t 12) .skip (.exit 0)) (.seq (.block 1 (.seq (.reg false [5] [(rO 13 (.mov (.t 11))), (rO 14 (.idx 6 36 (some 36) (.t 10) (.t 11))), (rO 4 (.alloc [(.int .u8 0), (.int .u8 0), (.int .u8 0), (.int .u8 0), (.int .u8 0), (.int .u8 0), (.int .u8 0), (.int .u8 0), (.int .u8 0), (.int .u8 0), (.int .u8 0), (.int .u8 0), (.int .u8 0), (.int .u8 0), (.int .u8 0), (.int .u8 0), (.int .u8 0), (.int .u8 0), (.int .u8 0), (.int .u8 0), (.int .u8 0), (.int .u8 0), (.int .u8 0), (.int .u8 0), (.int .u8 0), (.int .u8 0), (.int .u8 0), (.int .u8 0), (.int .u8 0), (.int .u8 0), (.int .u8 0), (.int .u8 0), (.int .u8 0), (.int .u8 0), (.int .u8 0), (.int .u8 0)])), (rO 3 (.mov (.t 13))), ⟨none, 68, (.store (some 36) (.t 4) (.t 14)), none, [], none⟩]) (.seq (.reg false [] [(rO 15 (.load (some 36) (.t 4))), (rO 16 (.mov (.c (.int .i64 0))))]) (.block 2 (.loop (.seq (.reg false [] [(rO 17 (.cmp .lss (.t 16) (.c (.int .i64 6))))]) (.seq (.cond (.t 17) .skip (.exit 2)) (.seq (.block 3 (.seq (.reg false [7] [(rO 18 (.mov (.t 16))), (rO 19 (.idx 6 6 (some 6) (.t 15) (.t 16))), (rO 6 (.alloc [(.int .u8 0), (.int .u8 0), (.int .u8 0), (.int .u8 0), (.int .u8 0), (.int .u8 0)])), (rO 5 (.mov (.t 18))), ⟨none, 68, (.store (some 6) (.t 6) (.t 19)), none, [], none⟩]) (.seq (.reg true [30, 35, 40] [⟨(some 20), 21, (.load (some 6) (.t 6)), none, [30, 35, 40], none⟩, (rO 21 (.mov (.t 0))), (rO 22 (.nilchk (.t 21))), (rO 23 (.faddr 1 (.t 22))), ⟨(some 24), 25, (.load none (.t 23)), none, [30, 35, 40], none⟩, (rO 25 (.mov (.t 0))), (rO 26 (.nilchk (.t 25))), (rO 27 (.faddr 0 (.t 26))), ⟨(some 28), 29, (.load none (.t 27)), none, [30, 35, 40], none⟩, ⟨(some 29), 30, (.call N.impl_isVector [(.t 20), (.t 24), (.t 28)]), none, [35, 40], none⟩, (rO 30 (.not (.t 29))), (rO 31 (.mov (.t 30))), ⟨(some 32), 33, (.mov (.t 3)), (some (31, false)), [], none⟩, ⟨(some 33), 34, (.mov (.t 0)), (some (31, false)), [], none⟩, ⟨(some 34), 35, (.call N.impl_Algebra_n [(.t 33)]), (some (31, false)), [40], none⟩, ⟨(some 35), 36, (.cmp .geq (.t 32) (.t 34)), (some (31, false)), [], none⟩, ⟨(some 36), 37, (.mov (.t 35)), (some (31, false)), [], none⟩, ⟨(some 37), 38, (.mov (.t 5)), (some (36, false)), [], none⟩, ⟨(some 38), 39, (.mov (.t 0)), (some (36, false)), [], none⟩, ⟨(some 39), 40, (.call N.impl_Algebra_n [(.t 38)]), (some (36, false)), [], none⟩, ⟨(some 40), 41, (.cmp .geq (.t 37) (.t 39)), (some (36, false)), [], none⟩, ⟨(some 41), 42, (.pick (.t 36) (.c (.bool true)) (.t 40)), (some (31, false)), [], none⟩, ⟨(some 42), 43, (.mov (.t 41)), (some (31, false)), [], none⟩, ⟨(some 43), 44, (.load (some 6) (.t 6)), (some (42, true)), [], none⟩, ⟨(some 44), 45, (.build [(.int .u8 0), (.int .u8 0), (.int .u8 0), (.int .u8 0), (.int .u8 0), (.int .u8 0)] []), (some (42, true)), [], none⟩, ⟨(some 45), 46, (.eqa true [(.int .u8), (.int .u8), (.int .u8), (.int .u8), (.int .u8), (.int .u8)] (.t 43) (.t 44)), (some (42, true)), [], none⟩, ⟨(some 46), 47, (.pick (.t 42) (.t 45) (.c (.bool false))), (some (31, false)), [], none⟩, (rO 47 (.pick (.t 31) (.c (.bool true)) (.t 46)))]) (.cond (.t 47) (.seq (.reg false [] [(rO 2 (.mov (.c (.bool false))))]) .ret) .skip)))) (.reg false [] [(rO 48 (.arith .add (.t 16) (.c (.int .i64 1)))), (rO 16 (.mov (.t 48)))]))))))))) (.reg false [] [(rO 49 (.arith .add (.t 11) (.c (.int .i64 1)))), (rO 11 (.mov (.t 49)))]))))))) (.seq (.reg true [63] [(rO 50 (.mov (.t 0))), (rO 51 (.nilchk (.t 50))), (rO 52 (.faddr 218 (.t 51))), ⟨(some 53), 54, (.load (some 6) (.t 52)), none, [63], none⟩, (rO 54 (.mov (.t 0))), (rO 55 (.nilchk (.t 54))), (rO 56 (.faddr 1 (.t 55))), ⟨(some 57), 58, (.load none (.t 56)), none, [63], none⟩, (rO 58 (.mov (.t 0))), (rO 59 (.nilchk (.t 58))), (rO 60 (.faddr 0 (.t 59))), ⟨(some 61), 62, (.load none (.t 60)), none, [63], none⟩, (rO 62 (.call N.impl_isVector [(.t 53), (.t 57), (.t 61)])), (rO 2 (.mov (.t 62)))]) .ret)))⟩
def ir_impl_Algebra_associative (N : FN) : CF := ⟨1, 49, [(.tmp 2)], (.seq (.reg false [] [(rO 2 (.mov (.c (.bool false))))]) (.seq (.seq (.reg false [8] [(rO 6 (.mov (.t 0))), (rO 7 (.call N.impl_Algebra_n [(.t 6)])), (rO 8 (.mov (.c (.int .i64 0))))]) (.block 0 (.loop (.seq (.reg false [] [(rO 9 (.cmp .lss (.t 8) (.t 7)))]) (.seq (.cond (.t 9) .skip (.exit 0)) (.seq (.block 1 (.seq (.reg false [] [(rO 10 (.mov (.t 8))), (rO 3 (.mov (.t 10)))]) (.seq (.reg false [13] [(rO 11 (.mov (.t 0))), (rO 12 (.call N.impl_Algebra_n [(.t 11)])), (rO 13 (.mov (.c (.int .i64 0))))]) (.block 2 (.loop (.seq (.reg false [] [(rO 14 (.cmp .lss (.t 13) (.t 12)))]) (.seq (.cond (.t 14) .skip (.exit 2)) (.seq (.block 3 (.seq (.reg false [] [(rO 15 (.mov (.t 13))), (rO 4 (.mov (.t 15)))]) (.seq (.reg false [18] [(rO 16 (.mov (.t 0))), (rO 17 (.call N.impl_Algebra_n [(.t 16)])), (rO 18 (.mov (.c (.int .i64 0))))]) (.block 4 (.loop (.seq (.reg false [] [(rO 19 (.cmp .lss (.t 18) (.t 17)))]) (.seq (.cond (.t 19) .skip (.exit 4)) (.seq (.block 5 (.seq (.reg false [] [(rO 20 (.mov (.t 18))), (rO 5 (.mov (.t 20)))]) (.seq (.reg true [32, 33, 36, 45] [(rO 21 (.mov (.t 0))), (rO 22 (.mov (.t 0))), (rO 23 (.mov (.t 3))), (rO 24 (.mov (.t 4))), (rO 25 (.nilchk (.t 22))), (rO 26 (.faddr 2 (.t 25))), (rO 27 (.iaddrA 6 36 (.t 26) (.t 23))), (rO 28 (.iaddrA 6 6 (.t 27) (.t 24))), ⟨(some 29), 30, (.load (some 6) (.t 28)), none, [32, 33, 36, 45], none⟩, (rO 30 (.mov (.t 5))), ⟨(some 31), 32, (.call N.impl_basis [(.t 30)]), none, [33, 36, 45], none⟩, ⟨(some 32), 33, (.call N.impl_Algebra_times [(.t 21), (.t 29), (.t 31)]), none, [36, 45], none⟩, (rO 33 (.mov (.t 0))), (rO 34 (.mov (.t 3))), ⟨(some 35), 36, (.call N.impl_basis [(.t 34)]), none, [45], none⟩, (rO 36 (.mov (.t 0))), (rO 37 (.mov (.t 4))), (rO 38 (.mov (.t 5))), (rO 39 (.nilchk (.t 36))), (rO 40 (.faddr 2 (.t 39))), (rO 41 (.iaddrA 6 36 (.t 40) (.t 37))), (rO 42 (.iaddrA 6 6 (.t 41) (.t 38))), ⟨(some 43), 44, (.load (some 6) (.t 42)), none, [32, 33, 36, 45], none⟩, (rO 44 (.call N.impl_Algebra_times [(.t 33), (.t 35), (.t 43)])), (rO 45 (.eqa true [(.int .u8), (.int .u8), (.int .u8), (.int .u8), (.int .u8), (.int .u8)] (.t 32) (.t 44)))]) (.cond (.t 45) (.seq (.reg false [] [(rO 2 (.mov (.c (.bool false))))]) .ret) .skip)))) (.reg false [] [(rO 46 (.arith .add (.t 18) (.c (.int .i64 1)))), (rO 18 (.mov (.t 46)))]))))))))) (.reg false [] [(rO 47 (.arith .add (.t 13) (.c (.int .i64 1)))), (rO 13 (.mov (.t 47)))]))))))))) (.reg false [] [(rO 48 (.arith .add (.t 8) (.c (.int .i64 1)))), (rO 8 (.mov (.t 48)))]))))))) (.seq (.reg false [] [(rO 2 (.mov (.c (.bool true))))]) .ret)))⟩
def ir_impl_IsAlgebra (N : FN) : CF := ⟨1, 28, [(.tmp 2)], (.seq (.reg false [2] [(rO 1 (.box (.t 0))), (rO 2 (.mov (.c (.bool false))))]) (.seq (.seq (.reg false [8, 13, 17, 21] [(rO 5 (.faddr 0 (.t 1))), (rO 6 (.load none (.t 5))), (rO 7 (.call N.impl_isPrime [(.t 6)])), (rO 8 (.not (.t 7))), (rO 9 (.mov (.t 8))), ⟨(some 10), 11, (.faddr 1 (.t 1)), (some (9, false)), [], none⟩, ⟨(some 11), 12, (.load none (.t 10)), (some (9, false)), [], none⟩, ⟨(some 12), 13, (.call N.impl_in [(.t 11), (.c (.int .i64 1)), (.c (.int .i64 6))]), (some (9, false)), [], none⟩, ⟨(some 13), 14, (.not (.t 12)), (some (9, false)), [], none⟩, (rO 14 (.pick (.t 9) (.c (.bool true)) (.t 13))), (rO 15 (.mov (.t 14))), ⟨(some 16), 17, (.call N.impl_Algebra_tableOk [(.t 1)]), (some (15, false)), [], none⟩, ⟨(some 17), 18, (.not (.t 16)), (some (15, false)), [], none⟩, (rO 18 (.pick (.t 15) (.c (.bool true)) (.t 17))), (rO 19 (.mov (.t 18))), ⟨(some 20), 21, (.call N.impl_Algebra_associative [(.t 1)]), (some (19, false)), [], none⟩, ⟨(some 21), 22, (.not (.t 20)), (some (19, false)), [], none⟩, (rO 22 (.pick (.t 19) (.c (.bool true)) (.t 21)))]) (.cond (.t 22) (.seq (.reg false [] [(rO 2 (.mov (.c (.bool false))))]) .ret) .skip)) (.seq (.reg false [25, 4] [(rO 24 (.call N.impl_Algebra_findUnit [(.t 1)])), (rO 23 (.mov (.t 24))), (rO 25 (.extract (.t 23) 0)), (rO 26 (.extract (.t 23) 1)), (rO 3 (.alloc [(.int .u8 0), (.int .u8 0), (.int .u8 0), (.int .u8 0), (.int .u8 0), (.int .u8 0)])), ⟨none, 34, (.store (some 6) (.t 3) (.t 25)), none, [], none⟩, (rO 4 (.mov (.t 26)))]) (.seq (.reg false [] [(rO 27 (.mov (.t 4))), (rO 2 (.mov (.t 27)))]) .ret))))⟩
def ir_impl_Algebra_form (N : FN) : CF := ⟨2, 32, [(.tmp 4)], (.seq (.reg false [4] [(rO 3 (.box (.t 1))), (rO 4 (.mov (.c (.int .i64 0))))]) (.seq (.reg false [] [(rO 5 (.mov (.c (.int .i64 0))))]) (.seq (.seq (.reg false [] [(rO 8 (.load (some 6) (.t 3))), (rO 9 (.mov (.c (.int .i64 0))))]) (.block 0 (.loop (.seq (.reg false [] [(rO 10 (.cmp .lss (.t 9) (.c (.int .i64 6))))]) (.seq (.cond (.t 10) .skip (.exit 0)) (.seq (.block 1 (.seq (.reg false [] [(rO 11 (.mov (.t 9))), (rO 12 (.idx 6 1 none (.t 8) (.t 9))), (rO 6 (.mov (.t 11))), (rO 7 (.mov (.t 12)))]) (.reg false [] [(rO 13 (.mov (.t 5))), (rO 14 (.mov (.t 7))), (rO 15 (.conv .i64 (.t 14))), (rO 16 (.mov (.t 0))), (rO 17 (.mov (.t 6))), (rO 18 (.nilchk (.t 16))), (rO 19 (.faddr 218 (.t 18))), (rO 20 (.iaddrA 6 1 (.t 19) (.t 17))), (rO 21 (.load none (.t 20))), (rO 22 (.conv .i64 (.t 21))), (rO 23 (.arith .mul (.t 15) (.t 22))), (rO 24 (.arith .add (.t 13) (.t 23))), (rO 5 (.mov (.t 24)))]))) (.reg false [] [(rO 25 (.arith .add (.t 9) (.c (.int .i64 1)))), (rO 9 (.mov (.t 25)))]))))))) (.seq (.reg false [] [(rO 26 (.mov (.t 5))), (rO 27 (.mov (.t 0))), (rO 28 (.nilchk (.t 27))), (rO 29 (.faddr 0 (.t 28))), (rO 30 (.load none (.t 29))), (rO 31 (.arith .rem (.t 26) (.t 30))), (rO 4 (.mov (.t 31)))]) .ret))))⟩
def ir_impl_Algebra_unit (N : FN) : CF := ⟨1, 11, [(.cell 2 (some 6))], (.seq (.reg false [3] [(rO 2 (.alloc [(.int .u8 0), (.int .u8 0), (.int .u8 0), (.int .u8 0), (.int .u8 0), (.int .u8 0)]))]) (.seq (.reg false [8, 4] [(rO 6 (.mov (.t 0))), (rO 7 (.call N.impl_Algebra_findUnit [(.t 6)])), (rO 5 (.mov (.t 7))), (rO 8 (.extract (.t 5) 0)), (rO 9 (.extract (.t 5) 1)), (rO 3 (.alloc [(.int .u8 0), (.int .u8 0), (.int .u8 0), (.int .u8 0), (.int .u8 0), (.int .u8 0)])), ⟨none, 18, (.store (some 6) (.t 3) (.t 8)), none, [], none⟩, (rO 4 (.mov (.t 9)))]) (.seq (.reg false [] [(rO 10 (.load (some 6) (.t 3))), ⟨none, 13, (.store (some 6) (.t 2) (.t 10)), none, [], none⟩]) .ret)))⟩
def ir_slices_IndexFunc_Limpl_Vector_impl_Vector (N : FN) : CF := ⟨2, 19, [(.tmp 4)], (.seq (.reg false [] [(rO 4 (.mov (.c (.int .i64 0))))]) (.seq (.seq (.reg false [] [(rO 6 (.mov (.t 0))), (rO 7 (.len (.t 6))), (rO 8 (.mov (.c (.int .i64 0))))]) (.block 0 (.loop (.seq (.reg false [] [(rO 9 (.cmp .lss (.t 8) (.t 7)))]) (.seq (.cond (.t 9) .skip (.exit 0)) (.seq (.block 1 (.seq (.reg false [] [(rO 10 (.mov (.t 8))), (rO 5 (.mov (.t 10)))]) (.seq (.reg false [17] [(rO 11 (.mov (.t 1))), (rO 12 (.mov (.t 0))), (rO 13 (.mov (.t 5))), (rO 14 (.iaddrS 6 (.t 12) (.t 13))), (rO 15 (.load (some 6) (.t 14))), (rO 16 (.callV (.t 11) [(.t 15)]))]) (.cond (.t 16) (.seq (.reg false [] [(rO 17 (.mov (.t 5))), (rO 4 (.mov (.t 17)))]) .ret) .skip)))) (.reg false [] [(rO 18 (.arith .add (.t 8) (.c (.int .i64 1)))), (rO 8 (.mov (.t 18)))]))))))) (.seq (.reg false [] [(rO 4 (.mov (.c (.int .i64 (-1)))))]) .ret)))⟩
def ir_slices_ContainsFunc_Limpl_Vector_impl_Vector (N : FN) : CF := ⟨2, 9, [(.tmp 4)], (.seq (.reg false [] [(rO 4 (.mov (.c (.bool false))))]) (.seq (.reg false [8] [(rO 5 (.mov (.t 0))), (rO 6 (.mov (.t 1))), (rO 7 (.call N.slices_IndexFunc_Limpl_Vector_impl_Vector [(.t 5), (.t 6)])), (rO 8 (.cmp .geq (.t 7) (.c (.int .i64 0)))), (rO 4 (.mov (.t 8)))]) .ret))⟩
end Go.X
namespace Go.X
open Go Go.RowKit
def Rw (p : Int) (r : Row) : Prop := ∀ i, 0 ≤ r i ∧ r i < p
def RwL (p : Int) (L : List Row) : Prop := ∀ r ∈ L, Rw p r
theorem getD_mem {L : List Row} {i : Nat} (h : i < L.length) : L.getD i Z ∈ L := by
  rw [List.getD_eq_getElem?_getD, List.getElem?_eq_getElem h]; exact List.getElem_mem h
theorem RwL.get {p : Int} {L : List Row} (h : RwL p L) (hp : 1 ≤ p) (i : Nat) : Rw p (L.getD i Z) := by
  rcases Nat.lt_or_ge i L.length with hi | hi
  · exact h _ (getD_mem hi)
  · rw [List.getD_eq_getElem?_getD, List.getElem?_eq_none hi]
    intro j; simp [Z]; omega
theorem lessR_rw {p k : Int} {r o : Row} (hp : 1 ≤ p) : Rw p (lessR p k r o) := fun _ => mod_bd _ hp
theorem scaleR_rw {p k : Int} {r : Row} (hp : 1 ≤ p) : Rw p (scaleR p k r) := fun _ => mod_bd _ hp
def elimR (p : Int) (c : Nat) (piv : Row) (r : Row) : Row := lessR p (r c) r piv
def redStep (p : Int) (c : Nat) (s : List Row × List Row) : List Row × List Row :=
  if idxF (fun i => s.1.getD i Z c != 0) s.1.length < 0 then s else
  let k := (idxF (fun i => s.1.getD i Z c != 0) s.1.length).toNat
  let piv := scaleR p (invF p (s.1.getD k Z c)) (s.1.getD k Z)
  ((s.1.take k ++ s.1.drop (k + 1)).map (elimR p c piv), s.2.map (elimR p c piv) ++ [piv])
def redN (p : Int) (rows : List Row) : Nat → List Row × List Row
  | 0 => (rows, [])
  | c + 1 => redStep p c (redN p rows c)
def redF (p : Int) (m : Nat) (rows : List Row) : List Row := (redN p rows m).2
theorem redStep_none {p : Int} {c : Nat} {s : List Row × List Row} (h : ∀ i, i < s.1.length → s.1.getD i Z c = 0) : redStep p c s = s := by
  unfold redStep
  rw [if_pos]
  rw [idxF_none fun j hj => by simp only [h j hj]; rfl]; decide
theorem redStep_some {p : Int} {c k : Nat} {s : List Row × List Row} (hk : k < s.1.length) (h1 : s.1.getD k Z c ≠ 0) (h2 : ∀ i, i < k → s.1.getD i Z c = 0) : redStep p c s =
    ((s.1.take k ++ s.1.drop (k + 1)).map (elimR p c (scaleR p (invF p (s.1.getD k Z c)) (s.1.getD k Z))), s.2.map (elimR p c (scaleR p (invF p (s.1.getD k Z c)) (s.1.getD k Z))) ++ [scaleR p (invF p (s.1.getD k Z c)) (s.1.getD k Z)]) := by
  unfold redStep
  have e : idxF (fun i => s.1.getD i Z c != 0) s.1.length = (k : Nat) := idxF_some hk (by simpa using h1) fun j hj => by simp only [h2 j hj]; rfl
  rw [e, if_neg (by omega)]
  simp only [Int.toNat_natCast]
theorem redStep_inv {p : Int} {c : Nat} {s : List Row × List Row} (hp : 1 ≤ p) (h1 : RwL p s.1) (h2 : RwL p s.2) : RwL p (redStep p c s).1 ∧ RwL p (redStep p c s).2 ∧ (redStep p c s).1.length + (redStep p c s).2.length = s.1.length + s.2.length := by
  rcases idxF_cases (fun i => s.1.getD i Z c != 0) s.1.length with ⟨_, h⟩ | ⟨k, hk, _, h3, h4⟩
  · rw [redStep_none fun i hi => by simpa using h i hi]; exact ⟨h1, h2, rfl⟩
  · rw [redStep_some hk (by simpa using h3) fun i hi => by simpa using h4 i hi]
    refine ⟨fun r hr => ?_, fun r hr => ?_, by simp; omega⟩
    · obtain ⟨x, _, rfl⟩ := List.mem_map.1 hr; exact lessR_rw hp
    · rcases List.mem_append.1 hr with hr | hr
      · obtain ⟨x, _, rfl⟩ := List.mem_map.1 hr; exact lessR_rw hp
      · simp only [List.mem_singleton] at hr; subst hr; exact scaleR_rw hp
theorem redN_inv {p : Int} {rows : List Row} (hp : 1 ≤ p) (h : RwL p rows) : ∀ c, RwL p (redN p rows c).1 ∧ RwL p (redN p rows c).2 ∧ (redN p rows c).1.length + (redN p rows c).2.length = rows.length
  | 0 => ⟨h, (fun r hr => by cases hr), by simp [redN]⟩
  | c + 1 => by
    obtain ⟨a, b, e⟩ := redN_inv hp h c
    obtain ⟨a', b', e'⟩ := redStep_inv (c := c) hp a b
    exact ⟨a', b', by simp only [redN]; omega⟩
theorem redN_nil (p : Int) : ∀ c, redN p [] c = ([], [])
  | 0 => rfl
  | c + 1 => by rw [redN, redN_nil p c]; exact redStep_none (by simp)
def solN (n : Nat) (L : List Row) : Nat → Option Row
  | 0 => some Z
  | i + 1 => match solN n L i with
    | none => none
    | some o => if leadF (n + 1) (L.getD i Z) = n then none else some (upd o (leadF (n + 1) (L.getD i Z)).toNat (L.getD i Z n))
end Go.X
namespace Go.X
theorem cg_add {p a b c d : Int} (h1 : a % p = b % p) (h2 : c % p = d % p) : (a + c) % p = (b + d) % p := by rw [Int.add_emod, h1, h2, ← Int.add_emod]
theorem cg_sub {p a b c d : Int} (h1 : a % p = b % p) (h2 : c % p = d % p) : (a - c) % p = (b - d) % p := by rw [Int.sub_emod, h1, h2, ← Int.sub_emod]
theorem cg_mul {p a b c d : Int} (h1 : a % p = b % p) (h2 : c % p = d % p) : (a * c) % p = (b * d) % p := by rw [Int.mul_emod, h1, h2, ← Int.mul_emod]
theorem cg_mod (p a : Int) : a % p % p = a % p := Int.emod_emod_of_dvd a (Int.dvd_refl p)
theorem rw_mod {p : Int} {r : Row} (h : Rw p r) (i : Nat) : r i % p = r i := Int.emod_eq_of_lt (h i).1 (h i).2
theorem sumN_mod {p : Int} {f g : Nat → Int} : ∀ {n : Nat}, (∀ i, i < n → f i % p = g i % p) → sumN n f % p = sumN n g % p
  | 0, _ => rfl
  | n + 1, h => cg_add (sumN_mod fun i hi => h i (by omega)) (h n (by omega))
theorem sumN_add (f g : Nat → Int) : ∀ n, sumN n (fun i => f i + g i) = sumN n f + sumN n g
  | 0 => rfl
  | n + 1 => by simp only [sumN, sumN_add f g n]; omega
theorem sumN_mul (k : Int) (f : Nat → Int) : ∀ n, sumN n (fun i => k * f i) = k * sumN n f
  | 0 => by simp [sumN]
  | n + 1 => by simp only [sumN, sumN_mul k f n, Int.mul_add]
theorem sumN_zero : ∀ {n : Nat} {f : Nat → Int}, (∀ i, i < n → f i = 0) → sumN n f = 0
  | 0, _, _ => rfl
  | n + 1, f, h => by simp only [sumN]; rw [sumN_zero fun i hi => h i (by omega), h n (by omega)]; rfl
def dot (m : Nat) (r z : Row) : Int := sumN m fun i => r i * z i
def Ker (p : Int) (m : Nat) (L : List Row) (z : Row) : Prop := ∀ r ∈ L, dot m r z % p = 0
theorem dot_less (p k : Int) (m : Nat) (r o z : Row) : dot m (lessR p k r o) z % p = (dot m r z - k * dot m o z) % p := by
  have e : dot m r z - k * dot m o z = sumN m fun i => (r i - k * o i) * z i := by
    unfold dot
    rw [← sumN_mul, Int.sub_eq_add_neg, show -(sumN m fun i => k * (o i * z i)) = -1 * sumN m fun i => k * (o i * z i) from by omega, ← sumN_mul, ← sumN_add]
    refine sumN_ext fun i _ => ?_
    rw [Int.sub_mul, Int.mul_assoc]; omega
  rw [e]
  exact sumN_mod fun i _ => cg_mul (cg_mod p _) rfl
theorem dot_scale (p k : Int) (m : Nat) (r z : Row) : dot m (scaleR p k r) z % p = (k * dot m r z) % p := by
  have e : k * dot m r z = sumN m fun i => (r i * k) * z i := by
    unfold dot
    rw [← sumN_mul]
    refine sumN_ext fun i _ => ?_
    rw [Int.mul_comm (r i) k, Int.mul_assoc]
  rw [e]
  exact sumN_mod fun i _ => cg_mul (cg_mod p _) rfl
theorem getD_map {f : Row → Row} {L : List Row} {i : Nat} (h : i < L.length) : (L.map f).getD i Z = f (L.getD i Z) := by
  simp [h]
theorem getD_left {L M : List Row} {i : Nat} (h : i < L.length) : (L ++ M).getD i Z = L.getD i Z := by
  simp only [List.getD_eq_getElem?_getD]; rw [List.getElem?_append_left h]
theorem getD_right {L M : List Row} {i : Nat} (h : L.length ≤ i) : (L ++ M).getD i Z = M.getD (i - L.length) Z := by
  simp only [List.getD_eq_getElem?_getD]; rw [List.getElem?_append_right h]
theorem getD_take {L : List Row} {i q : Nat} (h : i < q) : (L.take q).getD i Z = L.getD i Z := by
  simp only [List.getD_eq_getElem?_getD]; rw [List.getElem?_take, if_pos h]
theorem getD_drop {L : List Row} {i q : Nat} : (L.drop q).getD i Z = L.getD (q + i) Z := by
  simp only [List.getD_eq_getElem?_getD]; rw [List.getElem?_drop]
theorem mem_getD {L : List Row} {r : Row} (h : r ∈ L) : ∃ i, i < L.length ∧ L.getD i Z = r := by
  obtain ⟨i, hi, rfl⟩ := List.mem_iff_getElem.1 h
  exact ⟨i, hi, by simp [hi]⟩
def IsLead (m : Nat) (r : Row) (l : Nat) : Prop := l < m ∧ r l = 1 ∧ ∀ j, j < l → r j = 0
theorem IsLead.leadF {m l : Nat} {r : Row} (h : IsLead m r l) : leadF m r = l := idxF_some h.1 (by rw [h.2.1]; rfl) fun j hj => by rw [h.2.2 j hj]; rfl
structure RR (p : Int) (m : Nat) (L : List Row) (ld : Nat → Nat) : Prop where
  rw : RwL p L
  lead : ∀ i, i < L.length → IsLead m (L.getD i Z) (ld i)
  zero : ∀ i j, i < L.length → j < L.length → i ≠ j → L.getD j Z (ld i) = 0
  sort : ∀ i j, i < j → j < L.length → ld i < ld j
theorem elim_get {p : Int} {c : Nat} {piv r : Row} (i : Nat) : elimR p c piv r i = (r i - r c * piv i) % p := rfl
theorem elim_zero {p : Int} {c i : Nat} {piv r : Row} (hr : Rw p r) (h : piv i = 0) : elimR p c piv r i = r i := by
  rw [elim_get, h, Int.mul_zero, Int.sub_zero]; exact rw_mod hr i
theorem elim_piv {p : Int} {c : Nat} {piv r : Row} (h : piv c = 1) : elimR p c piv r c = 0 := by
  rw [elim_get, h, Int.mul_one, Int.sub_self]; simp
theorem elim_none {p : Int} {c : Nat} {piv r : Row} (hr : Rw p r) (h : r c = 0) : elimR p c piv r = r := by
  funext i
  rw [elim_get, h, Int.zero_mul, Int.sub_zero]; exact rw_mod hr i
theorem RR.push {p : Int} {m c : Nat} {out : List Row} {ld : Nat → Nat} {piv : Row} (h : RR p m out ld) (hp : 1 ≤ p) (hlt : ∀ i, i < out.length → ld i < c) (hpv : IsLead m piv c) (hpr : Rw p piv) (hz : ∀ i, i < out.length → piv (ld i) = 0) :
    RR p m (out.map (elimR p c piv) ++ [piv]) (fun i => if i < out.length then ld i else c) := by
  have hl : (out.map (elimR p c piv)).length = out.length := by simp
  have g1 : ∀ i, i < out.length → (out.map (elimR p c piv) ++ [piv]).getD i Z = elimR p c piv (out.getD i Z) := fun i hi => by rw [getD_left (by omega), getD_map hi]
  have g2 : ∀ i, i = out.length → (out.map (elimR p c piv) ++ [piv]).getD i Z = piv := fun i hi => by
    rw [getD_right (by omega), hl, show i - out.length = 0 by omega]; rfl
  have hlen : (out.map (elimR p c piv) ++ [piv]).length = out.length + 1 := by simp
  refine ⟨fun r hr => ?_, fun i hi => ?_, fun i j hi hj hij => ?_, fun i j hij hj => ?_⟩
  · rcases List.mem_append.1 hr with hr | hr
    · obtain ⟨x, _, rfl⟩ := List.mem_map.1 hr; exact lessR_rw hp
    · simp only [List.mem_singleton] at hr; subst hr; exact hpr
  · rw [hlen] at hi
    by_cases c1 : i < out.length
    · rw [g1 i c1, if_pos c1]
      obtain ⟨a1, a2, a3⟩ := h.lead i c1
      have hr := h.rw _ (getD_mem c1)
      refine ⟨a1, by rw [elim_zero hr (hz i c1)]; exact a2, fun j hj => ?_⟩
      rw [elim_zero hr (hpv.2.2 j (by have := hlt i c1; omega))]; exact a3 j hj
    · rw [g2 i (by omega), if_neg c1]; exact hpv
  · rw [hlen] at hi hj
    by_cases c1 : i < out.length <;> by_cases c2 : j < out.length
    · rw [g1 j c2, if_pos c1, elim_zero (h.rw _ (getD_mem c2)) (hz i c1)]; exact h.zero i j c1 c2 hij
    · rw [g2 j (by omega), if_pos c1]; exact hz i c1
    · rw [g1 j c2, if_neg c1]; exact elim_piv hpv.2.1
    · omega
  · rw [hlen] at hj
    by_cases c2 : j < out.length
    · rw [if_pos (by omega), if_pos c2]; exact h.sort i j hij c2
    · rw [if_neg c2, if_pos (by omega)]; exact hlt i (by omega)
theorem scale_lead {p : Int} {m c : Nat} {r : Row} (hp : p ∈ primes) (hr : Rw p r) (hc : c < m) (hne : r c ≠ 0) (hz : ∀ j, j < c → r j = 0) : IsLead m (scaleR p (invF p (r c)) r) c := by
  have := hr c
  have e := inv_mul hp ⟨by omega, this.2⟩
  refine ⟨hc, ?_, fun j hj => ?_⟩
  · show r c * invF p (r c) % p = 1
    rw [Int.mul_comm]; exact e.1
  · show r j * invF p (r c) % p = 0
    rw [hz j hj, Int.zero_mul]; simp
theorem redStep_rr {p : Int} {m c : Nat} {st : List Row × List Row} {ld : Nat → Nat} (hp : p ∈ primes) (hc : c < m) (h1 : RwL p st.1) (rr : RR p m st.2 ld) (hlt : ∀ i, i < st.2.length → ld i < c) (hz : ∀ r ∈ st.1, ∀ j, j < c → r j = 0) :
    ∃ ld', RR p m (redStep p c st).2 ld' ∧ (∀ i, i < (redStep p c st).2.length → ld' i < c + 1) ∧ ∀ r ∈ (redStep p c st).1, ∀ j, j < c + 1 → r j = 0 := by
  have hp2 := prime_bd hp
  rcases idxF_cases (fun i => st.1.getD i Z c != 0) st.1.length with ⟨_, hn⟩ | ⟨k, hk, _, hq, hn⟩
  · rw [redStep_none fun i hi => by simpa using hn i hi]
    refine ⟨ld, rr, fun i hi => by have := hlt i hi; omega, fun r hr j hj => ?_⟩
    rcases Nat.lt_or_ge j c with h | h
    · exact hz r hr j h
    · obtain ⟨i, hi, rfl⟩ := mem_getD hr
      rw [show j = c by omega]; simpa using hn i hi
  · have hne : st.1.getD k Z c ≠ 0 := by simpa using hq
    rw [redStep_some hk hne fun i hi => by simpa using hn i hi]
    have hr := h1 _ (getD_mem hk)
    have hpv := scale_lead hp hr hc hne (hz _ (getD_mem hk))
    have hpr : Rw p (scaleR p (invF p (st.1.getD k Z c)) (st.1.getD k Z)) := scaleR_rw (by omega)
    generalize scaleR p (invF p (st.1.getD k Z c)) (st.1.getD k Z) = piv at *
    refine ⟨_, rr.push (by omega) hlt hpv hpr fun i hi => hpv.2.2 _ (hlt i hi), fun i hi => ?_, fun r hr j hj => ?_⟩
    · split
      · rename_i h; have := hlt i h; omega
      · omega
    · obtain ⟨x, hx, rfl⟩ := List.mem_map.1 hr
      have hx' : x ∈ st.1 := by
        rcases List.mem_append.1 hx with h | h
        · exact List.mem_of_mem_take h
        · exact List.mem_of_mem_drop h
      rcases Nat.lt_or_ge j c with h | h
      · rw [elim_zero (h1 _ hx') (hpv.2.2 j h)]; exact hz _ hx' j h
      · rw [show j = c by omega]; exact elim_piv hpv.2.1
theorem redN_rr {p : Int} {m : Nat} {rows : List Row} (hp : p ∈ primes) (hR : RwL p rows) : ∀ c, c ≤ m → ∃ ld, RR p m (redN p rows c).2 ld ∧ (∀ i, i < (redN p rows c).2.length → ld i < c) ∧ ∀ r ∈ (redN p rows c).1, ∀ j, j < c → r j = 0 := by
  intro c
  induction c with
  | zero =>
    intro _
    have e : redN p rows 0 = (rows, []) := rfl
    rw [e]
    exact ⟨fun _ => 0, ⟨(fun r hr => by cases hr), (fun i hi => absurd hi (by simp)), (fun i j hi => absurd hi (by simp)), (fun i j _ hj => absurd hj (by simp))⟩, fun i hi => absurd hi (by simp), fun r _ j hj => by omega⟩
  | succ c ih =>
    intro hc
    have hp2 := prime_bd hp
    obtain ⟨ld, rr, hld, hz⟩ := ih (by omega)
    exact redStep_rr hp (by omega) (redN_inv (p := p) (rows := rows) (by omega) hR c).1 rr hld hz
theorem redF_rr {p : Int} {m : Nat} {rows : List Row} (hp : p ∈ primes) (hR : RwL p rows) : ∃ ld, RR p m (redF p m rows) ld := by
  obtain ⟨ld, rr, _⟩ := redN_rr hp hR m (Nat.le_refl _)
  exact ⟨ld, rr⟩
theorem dot_elim {p : Int} {m c : Nat} {piv r z : Row} (h : dot m piv z % p = 0) : dot m (elimR p c piv r) z % p = dot m r z % p := by
  unfold elimR
  rw [dot_less, show dot m r z % p = (dot m r z - r c * 0) % p by rw [Int.mul_zero, Int.sub_zero]]
  exact cg_sub rfl (cg_mul rfl (by rw [h]; simp))
theorem dot_scale0 {p : Int} {m : Nat} {k : Int} {r z : Row} (hk : ∃ k', k' * k % p = 1 % p) : dot m (scaleR p k r) z % p = 0 ↔ dot m r z % p = 0 := by
  rw [dot_scale]
  constructor
  · intro h
    obtain ⟨k', hk'⟩ := hk
    have : (k' * (k * dot m r z)) % p = (k' * 0) % p := cg_mul rfl (by rw [h]; simp)
    rw [← Int.mul_assoc, Int.mul_zero] at this
    have h2 : (k' * k * dot m r z) % p = (1 * dot m r z) % p := cg_mul hk' rfl
    rw [Int.one_mul] at h2
    rw [← h2, this]; simp
  · intro h
    have : (k * dot m r z) % p = (k * 0) % p := cg_mul rfl (by rw [h]; simp)
    rw [this]; simp
theorem inv_ex {p x : Int} (hp : p ∈ primes) (hx : 0 < x ∧ x < p) : ∃ k', k' * invF p x % p = 1 % p := by
  have hp2 := prime_bd hp
  refine ⟨x, ?_⟩
  rw [Int.mul_comm, (inv_mul hp hx).1, Int.emod_eq_of_lt (by omega) (by omega)]
theorem redStep_ker {p : Int} {m c : Nat} {st : List Row × List Row} {z : Row} (hp : p ∈ primes) (h1 : RwL p st.1) :
    (Ker p m (redStep p c st).1 z ∧ Ker p m (redStep p c st).2 z) ↔ (Ker p m st.1 z ∧ Ker p m st.2 z) := by
  rcases idxF_cases (fun i => st.1.getD i Z c != 0) st.1.length with ⟨_, hn⟩ | ⟨k, hk, _, hq, hn⟩
  · rw [redStep_none fun i hi => by simpa using hn i hi]
  · have hne : st.1.getD k Z c ≠ 0 := by simpa using hq
    rw [redStep_some hk hne fun i hi => by simpa using hn i hi]
    have hr := h1 _ (getD_mem hk)
    have hx := hr c
    have hs := dot_scale0 (m := m) (r := st.1.getD k Z) (z := z) (inv_ex hp ⟨by omega, hx.2⟩)
    generalize scaleR p (invF p (st.1.getD k Z c)) (st.1.getD k Z) = piv at *
    have hsplit : ∀ x, x ∈ st.1 → x = st.1.getD k Z ∨ x ∈ st.1.take k ++ st.1.drop (k + 1) := fun x hx => by
      obtain ⟨i, hi, rfl⟩ := mem_getD hx
      rcases Nat.lt_trichotomy i k with h | h | h
      · right
        have : (st.1.take k ++ st.1.drop (k + 1)).getD i Z = st.1.getD i Z := by rw [getD_left (by simp; omega), getD_take h]
        rw [← this]; exact getD_mem (by simp; omega)
      · left; rw [h]
      · right
        have : (st.1.take k ++ st.1.drop (k + 1)).getD (i - 1) Z = st.1.getD i Z := by
          rw [getD_right (by simp; omega), getD_drop]
          congr 1; simp; omega
        rw [← this]; exact getD_mem (by simp; omega)
    have hsub : ∀ x, x ∈ st.1.take k ++ st.1.drop (k + 1) → x ∈ st.1 := fun x hx => by
      rcases List.mem_append.1 hx with h | h
      · exact List.mem_of_mem_take h
      · exact List.mem_of_mem_drop h
    constructor
    · rintro ⟨a, b⟩
      have hpz : dot m piv z % p = 0 := b _ (by simp)
      refine ⟨fun x hx => ?_, fun x hx => ?_⟩
      · rcases hsplit x hx with rfl | h
        · exact hs.1 hpz
        · rw [← dot_elim (c := c) (r := x) hpz]; exact a _ (List.mem_map.2 ⟨x, h, rfl⟩)
      · rw [← dot_elim (c := c) (r := x) hpz]; exact b _ (List.mem_append.2 (.inl (List.mem_map.2 ⟨x, hx, rfl⟩)))
    · rintro ⟨a, b⟩
      have hpz : dot m piv z % p = 0 := hs.2 (a _ (getD_mem hk))
      refine ⟨fun x hx => ?_, fun x hx => ?_⟩
      · obtain ⟨y, hy, rfl⟩ := List.mem_map.1 hx
        rw [dot_elim hpz]; exact a _ (hsub y hy)
      · rcases List.mem_append.1 hx with h | h
        · obtain ⟨y, hy, rfl⟩ := List.mem_map.1 h
          rw [dot_elim hpz]; exact b _ hy
        · simp only [List.mem_singleton] at h; subst h; exact hpz
theorem redN_ker {p : Int} {m : Nat} {rows : List Row} {z : Row} (hp : p ∈ primes) (hR : RwL p rows) : ∀ c, (Ker p m (redN p rows c).1 z ∧ Ker p m (redN p rows c).2 z) ↔ Ker p m rows z
  | 0 => ⟨fun h => h.1, fun h => ⟨h, (fun r hr => by cases hr)⟩⟩
  | c + 1 => (redStep_ker hp (redN_inv (p := p) (rows := rows) (by have := prime_bd hp; omega) hR c).1).trans (redN_ker hp hR c)
theorem redF_ker {p : Int} {m : Nat} {rows : List Row} {z : Row} (hp : p ∈ primes) (hR : RwL p rows) : Ker p m (redF p m rows) z ↔ Ker p m rows z := by
  rw [← redN_ker (m := m) (z := z) hp hR m]
  obtain ⟨ld, _, _, hz⟩ := redN_rr hp hR m (Nat.le_refl _)
  refine ⟨fun h => ⟨fun r hr => ?_, h⟩, fun h => h.2⟩
  unfold dot
  rw [sumN_zero fun i hi => by rw [hz r hr i hi, Int.zero_mul]]; simp
end Go.X
namespace Go.X
def ldN (m : Nat) (r : Row) : Nat := (leadF m r).toNat
def redBy (p : Int) (m : Nat) (out : List Row) (r : Row) : Nat → Row
  | 0 => r
  | k + 1 => lessR p (redBy p m out r k (ldN m (out.getD k Z))) (redBy p m out r k) (out.getD k Z)
def insN (p : Int) (m at_ : Nat) (own : Row) (out : List Row) : Nat → List Row × Bool
  | 0 => ([], false)
  | k + 1 =>
    let s := insN p m at_ own out k
    let s' := if s.2 = false ∧ (at_ : Int) < leadF m (out.getD k Z) then (s.1 ++ [own], true) else s
    (s'.1 ++ [elimR p at_ own (out.getD k Z)], s'.2)
def echOwn (p : Int) (m : Nat) (out : List Row) (r : Row) : Row :=
  scaleR p (invF p (redBy p m out r out.length (ldN m (redBy p m out r out.length)))) (redBy p m out r out.length)
def echStep (p : Int) (m : Nat) (out : List Row) (r : Row) : List Row :=
  if leadF m (redBy p m out r out.length) < 0 then out else
  let s := insN p m (ldN m (redBy p m out r out.length)) (echOwn p m out r) out out.length
  if s.2 then s.1 else s.1 ++ [echOwn p m out r]
def echN (p : Int) (m : Nat) (rows : List Row) : Nat → List Row
  | 0 => []
  | i + 1 => echStep p m (echN p m rows i) (rows.getD i Z)
def echF (p : Int) (m : Nat) (rows : List Row) : List Row := echN p m rows rows.length
section
variable {p : Int} {m : Nat} {out : List Row} {ld : Nat → Nat} {r : Row}
theorem RR.ldN (h : RR p m out ld) {i : Nat} (hi : i < out.length) : ldN m (out.getD i Z) = ld i := by
  unfold Go.X.ldN; rw [(h.lead i hi).leadF]; rfl
theorem redBy_rw (hp : 1 ≤ p) (hr : Rw p r) : ∀ k, Rw p (redBy p m out r k)
  | 0 => hr
  | _ + 1 => lessR_rw hp
theorem redBy_zero (h : RR p m out ld) (hp : 1 ≤ p) : ∀ k, k ≤ out.length → ∀ i, i < k → redBy p m out r k (ld i) = 0
  | 0, _, i, hi => by omega
  | k + 1, hk, i, hi => by
    show (redBy p m out r k (ld i) - redBy p m out r k (Go.X.ldN m (out.getD k Z)) * out.getD k Z (ld i)) % p = 0
    rw [h.ldN (by omega)]
    rcases Nat.lt_or_ge i k with h1 | h1
    · rw [redBy_zero h hp k (by omega) i h1, h.zero i k (by omega) (by omega) (by omega), Int.mul_zero]; simp
    · rw [show i = k by omega, (h.lead k (by omega)).2.1, Int.mul_one, Int.sub_self]; simp
theorem redBy_dot {z : Row} (h : RR p m out ld) (hz : Ker p m out z) : ∀ k, k ≤ out.length → dot m (redBy p m out r k) z % p = dot m r z % p
  | 0, _ => rfl
  | k + 1, hk => by
    show dot m (lessR p _ _ _) z % p = _
    rw [dot_less, ← redBy_dot h hz k (by omega)]
    have e := hz _ (getD_mem (show k < out.length by omega))
    have := cg_sub (p := p) (a := dot m (redBy p m out r k) z) rfl (cg_mul (a := redBy p m out r k (Go.X.ldN m (out.getD k Z))) rfl (show dot m (out.getD k Z) z % p = 0 % p by rw [e]; simp))
    rw [this, Int.mul_zero, Int.sub_zero]
theorem lead_of {m : Nat} {r : Row} (h : 0 ≤ leadF m r) : ldN m r < m ∧ r (ldN m r) ≠ 0 ∧ (∀ j, j < ldN m r → r j = 0) ∧ leadF m r = ldN m r := by
  unfold leadF at *
  rcases idxF_cases (fun i => r i != 0) m with ⟨e, _⟩ | ⟨i, hi, e, hq, hn⟩
  · rw [e] at h; omega
  · unfold ldN leadF
    rw [e]
    simp only [Int.toNat_natCast]
    exact ⟨hi, by simpa using hq, fun j hj => by simpa using hn j hj, trivial⟩
theorem lead_no {m : Nat} {r : Row} (h : leadF m r < 0) : ∀ j, j < m → r j = 0 := by
  unfold leadF at h
  rcases idxF_cases (fun i => r i != 0) m with ⟨e, hn⟩ | ⟨i, hi, e, hq, hn⟩
  · exact fun j hj => by simpa using hn j hj
  · rw [e] at h; omega
theorem echOwn_ok (h : RR p m out ld) (hp : p ∈ primes) (hr : Rw p r) (hl : 0 ≤ leadF m (redBy p m out r out.length)) :
    IsLead m (echOwn p m out r) (ldN m (redBy p m out r out.length)) ∧ Rw p (echOwn p m out r) ∧ ∀ i, i < out.length → echOwn p m out r (ld i) = 0 := by
  have hp2 := prime_bd hp
  obtain ⟨a1, a2, a3, _⟩ := lead_of hl
  have hrw := redBy_rw (m := m) (out := out) (by omega) hr out.length
  refine ⟨scale_lead hp hrw a1 a2 a3, scaleR_rw (by omega), fun i hi => ?_⟩
  show redBy p m out r out.length (ld i) * _ % p = 0
  rw [redBy_zero h (by omega) out.length (Nat.le_refl _) i hi, Int.zero_mul]; simp
theorem insN_len (p : Int) (m at_ : Nat) (own : Row) (out : List Row) : ∀ k, (insN p m at_ own out k).1.length + 1 ≤ 2 * k + 1
  | 0 => by simp [insN]
  | k + 1 => by
    have := insN_len p m at_ own out k
    unfold insN
    dsimp only
    split
    · simp; omega
    · simp; omega
def insAt (p : Int) (q at_ : Nat) (own : Row) (out : List Row) : List Row := (out.take q).map (elimR p at_ own) ++ own :: (out.drop q).map (elimR p at_ own)
theorem take_getD {L : List Row} {k : Nat} (h : k < L.length) : L.take (k + 1) = L.take k ++ [L.getD k Z] := by
  rw [List.take_succ]; simp [h]
theorem insN_eq {at_ q : Nat} {own : Row} (h : RR p m out ld) (hq : q ≤ out.length) (h1 : ∀ i, i < q → ld i ≤ at_) (h2 : ∀ i, q ≤ i → i < out.length → at_ < ld i) : ∀ k, k ≤ out.length →
    insN p m at_ own out k = if k ≤ q then ((out.take k).map (elimR p at_ own), false) else ((out.take q).map (elimR p at_ own) ++ own :: ((out.take k).drop q).map (elimR p at_ own), true)
  | 0, _ => by simp [insN]
  | k + 1, hk => by
    have ih := insN_eq (own := own) h hq h1 h2 k (by omega)
    have hl := (h.lead k (by omega)).leadF
    unfold insN
    rw [ih]
    rcases Nat.lt_trichotomy k q with c | c | c
    · have := h1 k c
      rw [if_pos (by omega), if_pos (by omega)]
      dsimp only
      rw [if_neg (by rw [hl]; omega), take_getD (by omega)]
      simp
    · have := h2 k (by omega) (by omega)
      rw [if_pos (by omega), if_neg (by omega)]
      dsimp only
      rw [if_pos ⟨rfl, by rw [hl]; omega⟩, take_getD (by omega), ← c]
      simp [List.drop_append, show k ≤ out.length by omega]
    · rw [if_neg (by omega), if_neg (by omega)]
      dsimp only
      rw [if_neg (by simp), take_getD (by omega), List.drop_append_of_le_length (by simp; omega)]
      simp
theorem place (h : RR p m out ld) (at_ : Nat) : ∃ q, q ≤ out.length ∧ (∀ i, i < q → ld i ≤ at_) ∧ ∀ i, q ≤ i → i < out.length → at_ < ld i := by
  have key : ∀ n, n ≤ out.length → ∃ q, q ≤ n ∧ (∀ i, i < q → ld i ≤ at_) ∧ ∀ i, q ≤ i → i < n → at_ < ld i := by
    intro n
    induction n with
    | zero => exact fun _ => ⟨0, Nat.le_refl _, fun i hi => by omega, fun i _ hi => by omega⟩
    | succ n ih =>
      intro hn
      obtain ⟨q, hq, h1, h2⟩ := ih (by omega)
      by_cases c : at_ < ld n
      · exact ⟨q, by omega, h1, fun i hi hin => by
          rcases Nat.lt_or_ge i n with h3 | h3
          · exact h2 i hi h3
          · rw [show i = n by omega]; exact c⟩
      · refine ⟨n + 1, Nat.le_refl _, fun i hi => ?_, fun i h3 h4 => by omega⟩
        rcases Nat.lt_or_ge i n with h3 | h3
        · have := h.sort i n h3 (by omega); omega
        · rw [show i = n by omega]; omega
  exact key out.length (Nat.le_refl _)
theorem echStep_eq (h : RR p m out ld) (hl : 0 ≤ leadF m (redBy p m out r out.length)) : ∃ q, q ≤ out.length ∧ (∀ i, i < q → ld i ≤ ldN m (redBy p m out r out.length)) ∧ (∀ i, q ≤ i → i < out.length → ldN m (redBy p m out r out.length) < ld i) ∧
    echStep p m out r = insAt p q (ldN m (redBy p m out r out.length)) (echOwn p m out r) out := by
  obtain ⟨q, hq, h1, h2⟩ := place h (ldN m (redBy p m out r out.length))
  refine ⟨q, hq, h1, h2, ?_⟩
  unfold echStep insAt
  rw [if_neg (by omega)]
  dsimp only
  rw [insN_eq h hq h1 h2 _ (Nat.le_refl _)]
  by_cases c : out.length ≤ q
  · rw [if_pos c]
    have : q = out.length := by omega
    subst this
    simp
  · rw [if_neg c]
    simp
theorem insAt_len (q at_ : Nat) (own : Row) : (insAt p q at_ own out).length = out.length + 1 := by simp [insAt]; omega
theorem insAt_get {q at_ : Nat} {own : Row} (hq : q ≤ out.length) (i : Nat) (hi : i < out.length + 1) :
    (insAt p q at_ own out).getD i Z = if i < q then elimR p at_ own (out.getD i Z) else if i = q then own else elimR p at_ own (out.getD (i - 1) Z) := by
  have h1 : ((out.take q).map (elimR p at_ own)).length = q := by simp; omega
  unfold insAt
  by_cases c : i < q
  · rw [if_pos c, getD_left (by omega), getD_map (by simp; omega), getD_take c]
  · rw [if_neg c, getD_right (by omega), h1]
    by_cases c2 : i = q
    · rw [if_pos c2, show i - q = 0 by omega]; rfl
    · rw [if_neg c2]
      obtain ⟨d, rfl⟩ : ∃ d, i = q + 1 + d := ⟨i - q - 1, by omega⟩
      rw [show q + 1 + d - q = d + 1 by omega, show q + 1 + d - 1 = q + d by omega]
      show ((out.drop q).map (elimR p at_ own)).getD d Z = _
      rw [getD_map (by simp; omega), getD_drop]
theorem insAt_rr {q at_ : Nat} {own : Row} (h : RR p m out ld) (hp : 1 ≤ p) (hq : q ≤ out.length) (h1 : ∀ i, i < q → ld i ≤ at_) (h2 : ∀ i, q ≤ i → i < out.length → at_ < ld i)
    (ho : IsLead m own at_) (hr : Rw p own) (hz : ∀ i, i < out.length → own (ld i) = 0) : RR p m (insAt p q at_ own out) (fun i => if i < q then ld i else if i = q then at_ else ld (i - 1)) := by
  have ne : ∀ i, i < out.length → ld i ≠ at_ := fun i hi e => by have := hz i hi; rw [e, ho.2.1] at this; omega
  have lead1 : ∀ i, i < out.length → IsLead m (elimR p at_ own (out.getD i Z)) (ld i) := fun i hi => by
    have hrw := h.rw _ (getD_mem hi)
    obtain ⟨a1, a2, a3⟩ := h.lead i hi
    refine ⟨a1, by rw [elim_zero hrw (hz i hi)]; exact a2, fun j hj => ?_⟩
    rcases Nat.lt_or_ge at_ (ld i) with c | c
    · rw [elim_none hrw (a3 at_ c)]; exact a3 j hj
    · rw [elim_zero hrw (ho.2.2 j (by omega))]; exact a3 j hj
  have z1 : ∀ i j, i < out.length → j < out.length → i ≠ j → elimR p at_ own (out.getD j Z) (ld i) = 0 := fun i j hi hj hij => by
    rw [elim_zero (h.rw _ (getD_mem hj)) (hz i hi)]; exact h.zero i j hi hj hij
  have z2 : ∀ j, elimR p at_ own (out.getD j Z) at_ = 0 := fun j => elim_piv ho.2.1
  refine ⟨fun x hx => ?_, fun i hi => ?_, fun i j hi hj hij => ?_, fun i j hij hj => ?_⟩
  · unfold insAt at hx
    rcases List.mem_append.1 hx with hx | hx
    · obtain ⟨y, _, rfl⟩ := List.mem_map.1 hx; exact lessR_rw hp
    · rcases List.mem_cons.1 hx with rfl | hx
      · exact hr
      · obtain ⟨y, _, rfl⟩ := List.mem_map.1 hx; exact lessR_rw hp
  · rw [insAt_len] at hi
    rw [insAt_get hq i hi]
    by_cases c : i < q
    · rw [if_pos c, if_pos c]; exact lead1 i (by omega)
    · rw [if_neg c, if_neg c]
      by_cases c2 : i = q
      · rw [if_pos c2, if_pos c2]; exact ho
      · rw [if_neg c2, if_neg c2]; exact lead1 (i - 1) (by omega)
  · rw [insAt_len] at hi hj
    rw [insAt_get hq j hj]
    by_cases c : i < q
    · rw [if_pos c]
      by_cases d : j < q
      · rw [if_pos d]; exact z1 i j (by omega) (by omega) hij
      · rw [if_neg d]
        by_cases d2 : j = q
        · rw [if_pos d2]; exact hz i (by omega)
        · rw [if_neg d2]; exact z1 i (j - 1) (by omega) (by omega) (by omega)
    · rw [if_neg c]
      by_cases c2 : i = q
      · rw [if_pos c2]
        by_cases d : j < q
        · rw [if_pos d]; exact z2 j
        · rw [if_neg d, if_neg (by omega)]; exact z2 (j - 1)
      · rw [if_neg c2]
        by_cases d : j < q
        · rw [if_pos d]; exact z1 (i - 1) j (by omega) (by omega) (by omega)
        · rw [if_neg d]
          by_cases d2 : j = q
          · rw [if_pos d2]; exact hz (i - 1) (by omega)
          · rw [if_neg d2]; exact z1 (i - 1) (j - 1) (by omega) (by omega) (by omega)
  · rw [insAt_len] at hj
    by_cases c : i < q
    · rw [if_pos c]
      by_cases d : j < q
      · rw [if_pos d]; exact h.sort i j hij (by omega)
      · rw [if_neg d]
        by_cases d2 : j = q
        · rw [if_pos d2]; have := h1 i c; have := ne i (by omega); omega
        · rw [if_neg d2]; exact h.sort i (j - 1) (by omega) (by omega)
    · rw [if_neg c, if_neg (show ¬ j < q by omega), if_neg (show ¬ j = q by omega)]
      by_cases c2 : i = q
      · rw [if_pos c2]; exact h2 (j - 1) (by omega) (by omega)
      · rw [if_neg c2]; exact h.sort (i - 1) (j - 1) (by omega) (by omega)
theorem insAt_ker {q at_ : Nat} {own z : Row} (hz : dot m own z % p = 0) : Ker p m (insAt p q at_ own out) z ↔ Ker p m out z := by
  unfold insAt
  constructor
  · intro h x hx
    rw [← dot_elim (c := at_) (r := x) hz]
    rcases List.mem_append.1 (show x ∈ out.take q ++ out.drop q by rw [List.take_append_drop]; exact hx) with h1 | h1
    · exact h _ (List.mem_append.2 (.inl (List.mem_map.2 ⟨x, h1, rfl⟩)))
    · exact h _ (List.mem_append.2 (.inr (List.mem_cons.2 (.inr (List.mem_map.2 ⟨x, h1, rfl⟩)))))
  · intro h x hx
    rcases List.mem_append.1 hx with hx | hx
    · obtain ⟨y, hy, rfl⟩ := List.mem_map.1 hx
      rw [dot_elim hz]; exact h _ (List.mem_of_mem_take hy)
    · rcases List.mem_cons.1 hx with rfl | hx
      · exact hz
      · obtain ⟨y, hy, rfl⟩ := List.mem_map.1 hx
        rw [dot_elim hz]; exact h _ (List.mem_of_mem_drop hy)
theorem echStep_rr (h : RR p m out ld) (hp : p ∈ primes) (hr : Rw p r) : (∃ ld', RR p m (echStep p m out r) ld') ∧ out.length ≤ (echStep p m out r).length ∧ (echStep p m out r).length ≤ out.length + 1 := by
  have hp2 := prime_bd hp
  by_cases c : leadF m (redBy p m out r out.length) < 0
  · have e : echStep p m out r = out := by unfold echStep; rw [if_pos c]
    rw [e]; exact ⟨⟨ld, h⟩, by omega, by omega⟩
  · obtain ⟨a1, a2, a3⟩ := echOwn_ok h hp hr (by omega)
    obtain ⟨q, hq, h1, h2, e⟩ := echStep_eq (r := r) h (by omega)
    rw [e]
    exact ⟨⟨_, insAt_rr h (by omega) hq h1 h2 a1 a2 a3⟩, by rw [insAt_len]; omega, by rw [insAt_len]; omega⟩
theorem echStep_ker {z : Row} (h : RR p m out ld) (hp : p ∈ primes) (hr : Rw p r) : Ker p m (echStep p m out r) z ↔ (Ker p m out z ∧ dot m r z % p = 0) := by
  have hp2 := prime_bd hp
  by_cases c : leadF m (redBy p m out r out.length) < 0
  · have e : echStep p m out r = out := by unfold echStep; rw [if_pos c]
    rw [e]
    refine ⟨fun hz => ⟨hz, ?_⟩, fun hz => hz.1⟩
    rw [← redBy_dot h hz _ (Nat.le_refl _)]
    unfold dot
    rw [sumN_zero fun i hi => by rw [lead_no c i hi, Int.zero_mul]]; simp
  · obtain ⟨q, hq, h1, h2, e⟩ := echStep_eq (r := r) h (by omega)
    obtain ⟨a1, a2, a3, _⟩ := lead_of (m := m) (r := redBy p m out r out.length) (by omega)
    have hx := redBy_rw (m := m) (out := out) (by omega) hr out.length (ldN m (redBy p m out r out.length))
    have hs : dot m (echOwn p m out r) z % p = 0 ↔ dot m (redBy p m out r out.length) z % p = 0 := dot_scale0 (inv_ex hp ⟨by omega, hx.2⟩)
    rw [e]
    constructor
    · intro hz
      have ho : dot m (echOwn p m out r) z % p = 0 := hz _ (by unfold insAt; simp)
      have hk := (insAt_ker ho).1 hz
      exact ⟨hk, by rw [← redBy_dot h hk _ (Nat.le_refl _)]; exact hs.1 ho⟩
    · rintro ⟨hk, hd⟩
      refine (insAt_ker (hs.2 ?_)).2 hk
      rw [redBy_dot h hk _ (Nat.le_refl _)]; exact hd
end
theorem echN_rr {p : Int} {m : Nat} {rows : List Row} (hp : p ∈ primes) (hR : RwL p rows) : ∀ i, i ≤ rows.length → (∃ ld, RR p m (echN p m rows i) ld) ∧ (echN p m rows i).length ≤ i
  | 0, _ => ⟨⟨fun _ => 0, ⟨(fun r hr => by cases hr), (fun i hi => absurd hi (by simp [echN])), (fun i j hi => absurd hi (by simp [echN])), (fun i j _ hj => absurd hj (by simp [echN]))⟩⟩, by simp [echN]⟩
  | i + 1, hi => by
    obtain ⟨⟨ld, h⟩, hl⟩ := echN_rr hp hR i (by omega)
    obtain ⟨h1, _, h2⟩ := echStep_rr (r := rows.getD i Z) h hp (hR _ (getD_mem (by omega)))
    exact ⟨h1, by show (echStep p m _ _).length ≤ _; omega⟩
theorem echN_ker {p : Int} {m : Nat} {rows : List Row} {z : Row} (hp : p ∈ primes) (hR : RwL p rows) : ∀ i, i ≤ rows.length → (Ker p m (echN p m rows i) z ↔ Ker p m (rows.take i) z)
  | 0, _ => ⟨fun _ r hr => by simp at hr, fun _ r hr => by cases hr⟩
  | i + 1, hi => by
    obtain ⟨⟨ld, h⟩, _⟩ := echN_rr (m := m) hp hR i (by omega)
    show Ker p m (echStep p m _ _) z ↔ _
    rw [echStep_ker h hp (hR _ (getD_mem (by omega))), echN_ker hp hR i (by omega), take_getD (by omega)]
    constructor
    · rintro ⟨a, b⟩ x hx
      rcases List.mem_append.1 hx with hx | hx
      · exact a x hx
      · simp only [List.mem_singleton] at hx; subst hx; exact b
    · exact fun a => ⟨fun x hx => a x (List.mem_append.2 (.inl hx)), a _ (by simp)⟩
theorem echF_rr {p : Int} {m : Nat} {rows : List Row} (hp : p ∈ primes) (hR : RwL p rows) : ∃ ld, RR p m (echF p m rows) ld := (echN_rr hp hR _ (Nat.le_refl _)).1
theorem echF_ker {p : Int} {m : Nat} {rows : List Row} {z : Row} (hp : p ∈ primes) (hR : RwL p rows) : Ker p m (echF p m rows) z ↔ Ker p m rows z := by
  unfold echF; rw [echN_ker hp hR _ (Nat.le_refl _), List.take_length]
end Go.X
namespace Go.X
open Go Go.RowKit
noncomputable def dB (p : Prop) : Bool := @decide p (Classical.propDecidable p)
theorem dB_iff {p : Prop} : dB p = true ↔ p := by unfold dB; exact @decide_eq_true_iff p (Classical.propDecidable p)
theorem dB_t {p : Prop} (h : p) : dB p = true := dB_iff.2 h
theorem dB_f {p : Prop} (h : ¬ p) : dB p = false := by
  cases e : dB p with
  | false => rfl
  | true => exact absurd (dB_iff.1 e) h
theorem dB_congr {p q : Prop} (h : p ↔ q) : dB p = dB q := by rw [propext h]
theorem yes {p : Prop} (h : p) : D.bool true = .bool (dB p) := by rw [dB_t h]
theorem no {p : Prop} (h : ¬ p) : D.bool false = .bool (dB p) := by rw [dB_f h]
def VEq (v w : Nat → Int) : Prop := ∀ i : Nat, i < 6 → v i = w i
instance (v w : Nat → Int) : Decidable (VEq v w) := by unfold VEq; infer_instance
theorem eq_vec {v w : Nat → Int} : decide (VEq v w) = true ↔ vecL v = vecL w := by
  rw [decide_eq_true_eq]
  exact ⟨fun h => cel_ext h, fun h => cel_inj h⟩
theorem conf_vec (v : Nat → Int) : Conf [.int .u8, .int .u8, .int .u8, .int .u8, .int .u8, .int .u8] (vecL v) := by
  refine ⟨cel_len .., fun i k x hk hx => ?_⟩
  have hi : i < 6 := by have := (List.getElem?_eq_some_iff.1 hx).1; rwa [cel_len] at this
  rw [cel_get hi] at hx
  simp only [Option.some.injEq] at hx
  subst hx
  have : k = .int .u8 := by
    have h6 : i = 0 ∨ i = 1 ∨ i = 2 ∨ i = 3 ∨ i = 4 ∨ i = 5 := by omega
    rcases h6 with rfl | rfl | rfl | rfl | rfl | rfl <;> simp at hk <;> exact hk.symm
  subst this
  exact .int _ _
def sSolveF (p : Int) (n : Nat) (L : List Row) : Option Row :=
  if L ≠ [] ∧ (echF p (n + 1) L).length = n ∧ ∀ i : Nat, i < n → leadF (n + 1) ((echF p (n + 1) L).getD i Z) = i then some fun i => (echF p (n + 1) L).getD i Z n else none
def solD (n : Nat) : Option Row → Res
  | none => .tup [.emp, .bool false]
  | some r => .tup [rowD n r, .bool true]
def findR (a : Alg) (i k : Nat) : Row := fun j => if j < a.n.toNat then a.T j i k else if i = k then 1 else 0
def findIn (a : Alg) (i : Nat) : Nat → List Row
  | 0 => []
  | k + 1 => findIn a i k ++ [findR a i k]
def findOut (a : Alg) : Nat → List Row
  | 0 => []
  | i + 1 => findOut a i ++ findIn a i a.n.toNat
def vecR (m : Nat) (r : Row) : Nat → Int := fun i => if i < m then r i else 0
def findF (a : Alg) : Option (Nat → Int) :=
  match sSolveF a.p a.n.toNat (findOut a a.n.toNat) with
  | none => none
  | some r => if ∀ i : Nat, i < a.n.toNat → VEq (timesV a (basV i) (vecR a.n.toNat r)) (basV i) then some (vecR a.n.toNat r) else none
def ShapeP (a : Alg) : Prop := a.p ∈ primes ∧ (1 ≤ a.n ∧ a.n ≤ 6) ∧ Small a.f a.n a.p ∧ ∀ i j : Nat, i < 6 → j < 6 → Small (a.T i j) (if a.n ≤ (i : Int) ∨ a.n ≤ (j : Int) then 0 else a.n) a.p
def AssocP (a : Alg) : Prop := ∀ i j k : Nat, (i : Int) < a.n → (j : Int) < a.n → (k : Int) < a.n → VEq (timesV a (a.T i j) (basV k)) (timesV a (basV i) (a.T j k))
theorem findIn_len (a : Alg) (i : Nat) : ∀ k, (findIn a i k).length = k
  | 0 => rfl
  | k + 1 => by simp [findIn, findIn_len a i k]
theorem findOut_len (a : Alg) : ∀ i, (findOut a i).length = i * a.n.toNat
  | 0 => by simp [findOut]
  | i + 1 => by simp [findOut, findOut_len a i, findIn_len, Nat.add_mul]
end Go.X
namespace Go.X
open Go Go.RowKit
def Bd (B : Int) (r : Row) : Prop := ∀ i, 0 ≤ r i ∧ r i ≤ B
theorem Rw.bd {p : Int} {r : Row} (h : Rw p r) (hp : p ≤ 1000) : Bd 1000 r := fun i => by have := h i; omega
def C_n (P : Program) (N : FN) : Prop := ∀ {sz : Nat} {l : List (List D)} {e off : Nat} {a : Alg}, AlgAt l e off a → Can P N.impl_Algebra_n [.pd sz l e off] (.val (.int .i64 a.n))
def C_in (P : Program) (N : FN) : Prop := ∀ {n lo hi : Int}, Can P N.impl_in [.int .i64 n, .int .i64 lo, .int .i64 hi] (.val (.bool (decide (lo ≤ n ∧ n ≤ hi))))
def C_sIn (P : Program) (N : FN) : Prop := ∀ {n lo hi : Int}, Can P N.spec_l01In [.int .i64 n, .int .i64 lo, .int .i64 hi] (.val (.bool (decide (lo ≤ n ∧ n ≤ hi))))
def C_Index (P : Program) (N : FN) : Prop := ∀ {m : Nat} {f : Nat → Int} {x : Int}, m ≤ 1000000 → Can P N.slices_Index_Lint64_int64 [rowD m f, .int .i64 x] (.val (.int .i64 (idxF (fun i => f i == x) m)))
def C_Contains (P : Program) (N : FN) : Prop := ∀ {m : Nat} {f : Nat → Int} {x : Int}, m ≤ 1000000 → Can P N.slices_Contains_Lint64_int64 [rowD m f, .int .i64 x] (.val (.bool (decide (0 ≤ idxF (fun i => f i == x) m))))
def C_isPrime (P : Program) (N : FN) : Prop := ∀ {p : Int}, Can P N.impl_isPrime [.int .i64 p] (.val (.bool (decide (p ∈ primes))))
def C_sPrime (P : Program) (N : FN) : Prop := ∀ {p : Int}, Can P N.spec_l01Prime [.int .i64 p] (.val (.bool (decide (p ∈ primes))))
def C_rest (P : Program) (N : FN) : Prop := ∀ {x p : Int}, -1000000000000 ≤ x ∧ x ≤ 1000000000000 → 1 ≤ p ∧ p ≤ 1000 → Can P N.impl_rest [.int .i64 x, .int .i64 p] (.val (.int .i64 (x % p)))
def C_sMod (P : Program) (N : FN) : Prop := ∀ {x p : Int}, -1000000000000 ≤ x ∧ x ≤ 1000000000000 → 1 ≤ p ∧ p ≤ 1000 → Can P N.spec_l01Mod [.int .i64 p, .int .i64 x] (.val (.int .i64 (x % p)))
def C_power (P : Program) (N : FN) : Prop := ∀ {x k p : Int}, 0 ≤ x ∧ x ≤ 1000 → 0 ≤ k ∧ k ≤ 1000000 → 1 ≤ p ∧ p ≤ 1000 → Can P N.impl_power [.int .i64 x, .int .i64 k, .int .i64 p] (.val (.int .i64 (powR x p k.toNat)))
def C_inverse (P : Program) (N : FN) : Prop := ∀ {x p : Int}, p ∈ primes → 0 < x ∧ x < p → Can P N.impl_inverse [.int .i64 x, .int .i64 p] (.val (.int .i64 (invF p x)))
def C_sInverse (P : Program) (N : FN) : Prop := ∀ {x p : Int}, 2 ≤ p ∧ p ≤ 1000 → -1000000000 ≤ x ∧ x ≤ 1000000000 → Can P N.spec_l01Inverse [.int .i64 p, .int .i64 x] (.val (.int .i64 (invF p x)))
def C_isVector (P : Program) (N : FN) : Prop := ∀ {v : Nat → Int} {n p : Int}, Byts v → Can P N.impl_isVector [vecD v, .int .i64 n, .int .i64 p] (.val (.bool (decide (Small v n p))))
def C_sSmall (P : Program) (N : FN) : Prop := ∀ {v : Nat → Int} {n p : Int}, Byts v → Can P N.spec_l01Small [.int .i64 p, .int .i64 n, vecD v] (.val (.bool (decide (Small v n p))))
def C_sVector (P : Program) (N : FN) : Prop := ∀ {a : Alg} {v : Nat → Int}, Byts v → Can P N.spec_l01Vector [algD a, vecD v] (.val (.bool (decide (Small v a.n a.p))))
def C_basis (P : Program) (N : FN) : Prop := ∀ {i : Nat}, i < 6 → Can P N.impl_basis [.int .i64 i] (.val (vecD (basV i)))
def C_sBasis (P : Program) (N : FN) : Prop := ∀ {i : Nat}, i < 6 → Can P N.spec_l01Basis [.int .i64 i] (.val (vecD (basV i)))
def C_add (P : Program) (N : FN) : Prop := ∀ {sz : Nat} {l : List (List D)} {e off : Nat} {a : Alg} {v w : Nat → Int} {k : Int}, AlgAt l e off a → Byts v → Byts w → 1 ≤ a.p ∧ a.p ≤ 255 → 0 ≤ k ∧ k ≤ 1000 →
  Can P N.impl_Algebra_add [.pd sz l e off, vecD v, vecD w, .int .i64 k] (.val (vecD (addV a.p k v w)))
def C_sAdd (P : Program) (N : FN) : Prop := ∀ {p : Int} {v w : Nat → Int} {k : Int}, Byts v → Byts w → 1 ≤ p ∧ p ≤ 255 → 0 ≤ k ∧ k ≤ 1000 →
  Can P N.spec_l01Add [.int .i64 p, vecD v, vecD w, .int .i64 k] (.val (vecD (addV p k v w)))
def C_form (P : Program) (N : FN) : Prop := ∀ {sz : Nat} {l : List (List D)} {e off : Nat} {a : Alg} {v : Nat → Int}, AlgAt l e off a → AlgB a → Byts v → 1 ≤ a.p → Can P N.impl_Algebra_form [.pd sz l e off, vecD v] (.val (.int .i64 (formV a v)))
def C_sForm (P : Program) (N : FN) : Prop := ∀ {a : Alg} {v : Nat → Int}, AlgB a → Byts v → 1 ≤ a.p → Can P N.spec_l01Form [algD a, vecD v] (.val (.int .i64 (formV a v)))
def C_scaled (P : Program) (N : FN) : Prop := ∀ {m : Nat} {r : Row} {k p : Int}, m ≤ 1000000 → Bd 1000 r → 0 ≤ k ∧ k ≤ 1000 → 1 ≤ p ∧ p ≤ 1000 → Can P N.impl_scaled [rowD m r, .int .i64 k, .int .i64 p] (.val (rowD m (scaleR p k r)))
def C_lessTimes (P : Program) (N : FN) : Prop := ∀ {m : Nat} {r o : Row} {k p : Int}, m ≤ 1000000 → Bd 1000 r → Bd 1000 o → 0 ≤ k ∧ k ≤ 1000 → 1 ≤ p ∧ p ≤ 1000 → Can P N.impl_lessTimes [rowD m r, rowD m o, .int .i64 k, .int .i64 p] (.val (rowD m (lessR p k r o)))
def C_sLess (P : Program) (N : FN) : Prop := ∀ {m : Nat} {r o : Row} {k p : Int}, m ≤ 1000000 → Bd 1000 r → Bd 1000 o → 0 ≤ k ∧ k ≤ 1000 → 1 ≤ p ∧ p ≤ 1000 → Can P N.spec_l01Less [.int .i64 p, rowD m r, rowD m o, .int .i64 k] (.val (rowD m (lessR p k r o)))
def C_sOwn (P : Program) (N : FN) : Prop := ∀ {m : Nat} {r : Row}, m ≤ 1000000 → Can P N.spec_l01Own [rowD m r] (.own 1 (row m r))
def C_sLead (P : Program) (N : FN) : Prop := ∀ {m : Nat} {r : Row}, m ≤ 1000000 → Can P N.spec_l01Lead [rowD m r] (.val (.int .i64 (leadF m r)))
def C_IdxInt (P : Program) (N : FN) : Prop := ∀ {m : Nat} {f : Row} {g : FuncId} {q : Nat → Bool}, m ≤ 1000000 → (∀ i, i < m → Can P g [.int .i64 (f i)] (.val (.bool (q i)))) → Can P N.slices_IndexFunc_Lint64_int64 [rowD m f, .fn g [] []] (.val (.int .i64 (idxF q m)))
def C_leader1 (P : Program) (N : FN) : Prop := ∀ {x : Int}, Can P N.impl_leader_1 [.int .i64 x] (.val (.bool (x != 0)))
def C_leader (P : Program) (N : FN) : Prop := ∀ {m : Nat} {r : Row}, m ≤ 1000000 → Can P N.impl_leader [rowD m r] (.val (.int .i64 (leadF m r)))
def C_IdxRows (P : Program) (N : FN) : Prop := ∀ {m : Nat} {L : List Row} {g : FuncId} {c : D} {q : Nat → Bool}, L.length ≤ 1000000 → (∀ i, i < L.length → Can P g [rowD m (L.getD i Z), c] (.val (.bool (q i)))) → Can P N.slices_IndexFunc_LLint64_Lint64 [rowsD m L, .fn g [] [c]] (.val (.int .i64 (idxF q L.length)))
def C_reduce1 (P : Program) (N : FN) : Prop := ∀ {m c : Nat} {r : Row}, c < m → Can P N.impl_reduce_1 [rowD m r, .pd 1 [[.int .i64 c]] 0 0] (.val (.bool (r c != 0)))
def C_Clone (P : Program) (N : FN) : Prop := ∀ {l : List (List D)}, 0 < l.length ∧ l.length ≤ 1000000 → Can P N.slices_Clone_LLint64_Lint64 [.lst 1 l] (.own 1 l)
def C_Delete (P : Program) (N : FN) : Prop := ∀ {l : List (List D)} {i j : Nat}, i < j ∧ j ≤ l.length ∧ l.length ≤ 1000000 → Can P N.slices_Delete_LLint64_Lint64 [.ownA 1 l, .int .i64 i, .int .i64 j] (.post none (.own 1 (l.take i ++ l.drop j)))
def C_times (P : Program) (N : FN) : Prop := ∀ {sz : Nat} {l : List (List D)} {e off : Nat} {a : Alg} {v w : Nat → Int}, AlgAt l e off a → AlgB a → Byts v → Byts w → 1 ≤ a.p ∧ a.p ≤ 255 → 0 ≤ a.n ∧ a.n ≤ 6 →
  Can P N.impl_Algebra_times [.pd sz l e off, vecD v, vecD w] (.val (vecD (timesV a v w)))
def C_sTimes (P : Program) (N : FN) : Prop := ∀ {a : Alg} {v w : Nat → Int}, AlgB a → Byts v → Byts w → 1 ≤ a.p ∧ a.p ≤ 255 → 0 ≤ a.n ∧ a.n ≤ 6 → Can P N.spec_l01Times [algD a, vecD v, vecD w] (.val (vecD (timesV a v w)))
def C_vector (P : Program) (N : FN) : Prop := ∀ {m : Nat} {r : Row}, m ≤ 6 → Bd 255 r → Can P N.impl_vector [rowD m r] (.val (vecD (vecR m r)))
def C_vectorE (P : Program) (N : FN) : Prop := Can P N.impl_vector [.emp] (.val (vecD Z))
def C_reduce (P : Program) (N : FN) : Prop := ∀ {m : Nat} {L : List Row} {p : Int}, m ≤ 1000 → L.length ≤ 1000 → p ∈ primes → RwL p L → Can P N.impl_reduce [rowsD m L, .int .i64 p] (.val (rowsD m (redF p m L)))
def C_sLessO (P : Program) (N : FN) : Prop := ∀ {m : Nat} {r o : Row} {k p : Int}, m ≤ 1000000 → Bd 1000 r → Bd 1000 o → 0 ≤ k ∧ k ≤ 1000 → 1 ≤ p ∧ p ≤ 1000 → Can P N.spec_l01Less [.int .i64 p, rowD m r, rowD m o, .int .i64 k] (.own 1 (row m (lessR p k r o)))
def C_sEchelon (P : Program) (N : FN) : Prop := ∀ {m : Nat} {L : List Row} {p : Int}, m ≤ 1000 → L.length ≤ 1000 → p ∈ primes → RwL p L → Can P N.spec_l01Echelon [.int .i64 p, rowsD m L] (.val (rowsD m (echF p m L)))
def C_sSolve (P : Program) (N : FN) : Prop := ∀ {n : Nat} {L : List Row} {p : Int}, n ≤ 900 → L.length ≤ 1000 → p ∈ primes → RwL p L → Can P N.spec_l01Solve [.int .i64 p, rowsD (n + 1) L] (solD n (sSolveF p n L))
def C_sShape (P : Program) (N : FN) : Prop := ∀ {a : Alg}, AlgB a → Can P N.spec_l01Shape [algD a] (.val (.bool (dB (ShapeP a))))
def optD : Option (Nat → Int) → Res
  | none => .tup [vecD Z, .bool false]
  | some u => .tup [vecD u, .bool true]
structure AlgOk (a : Alg) : Prop where
  p : a.p ∈ primes
  n : 1 ≤ a.n ∧ a.n ≤ 6
  T : ∀ i j k, 0 ≤ a.T i j k ∧ a.T i j k < a.p
  f : ∀ i, 0 ≤ a.f i ∧ a.f i < a.p
  z : ∀ i j k : Nat, a.n ≤ (i : Int) ∨ a.n ≤ (j : Int) ∨ a.n ≤ (k : Int) → a.T i j k = 0
  fz : ∀ i : Nat, a.n ≤ (i : Int) → a.f i = 0
theorem AlgOk.b {a : Alg} (h : AlgOk a) : AlgB a := by
  have := prime_bd h.p
  exact ⟨fun i j k => by have := h.T i j k; omega, fun i => by have := h.f i; omega⟩
def C_sFind (P : Program) (N : FN) : Prop := ∀ {a : Alg}, AlgOk a → Can P N.spec_l01Find [algD a] (optD (findF a))
def C_sUnit (P : Program) (N : FN) : Prop := ∀ {a : Alg}, AlgOk a → Can P N.spec_l01Unit [algD a] (.val (vecD ((findF a).getD Z)))
def C_sAlgebra (P : Program) (N : FN) : Prop := ∀ {a : Alg}, AlgB a → (ShapeP a → AlgOk a) → Can P N.spec_l01Algebra [algD a] (.val (.bool (dB (ShapeP a ∧ AssocP a ∧ (findF a).isSome = true))))
def TabP (a : Alg) : Prop := (∀ i j : Nat, i < 6 → j < 6 → Small (a.T i j) a.n a.p ∧ (a.n ≤ (i : Int) ∨ a.n ≤ (j : Int) → VEq (a.T i j) Z)) ∧ Small a.f a.n a.p
def C_tableOk (P : Program) (N : FN) : Prop := ∀ {sz : Nat} {l : List (List D)} {e off : Nat} {a : Alg}, AlgAt l e off a → AlgB a → Can P N.impl_Algebra_tableOk [.pd sz l e off] (.val (.bool (dB (TabP a))))
def C_associative (P : Program) (N : FN) : Prop := ∀ {sz : Nat} {l : List (List D)} {e off : Nat} {a : Alg}, AlgAt l e off a → AlgOk a → Can P N.impl_Algebra_associative [.pd sz l e off] (.val (.bool (dB (AssocP a))))
theorem sumN_one {f : Nat → Int} {i : Nat} : ∀ {n : Nat}, i < n → (∀ j, j ≠ i → f j = 0) → sumN n f = f i
  | n + 1, hi, h => by
    simp only [sumN]
    by_cases e : i = n
    · subst e
      rw [sumN_zero fun j hj => h j (by omega)]; omega
    · rw [sumN_one (show i < n by omega) h, h n (by omega)]; omega
theorem tsum_bas (a : Alg) {i j k : Nat} (hi : (i : Int) < a.n) (hj : (j : Int) < a.n) : tsum a (basV i) (basV j) k a.n.toNat = a.T i j k := by
  unfold tsum
  rw [sumN_one (i := i) (by omega) fun i' h => by
    refine sumN_zero fun j' _ => ?_
    simp [basV, h]]
  rw [sumN_one (i := j) (by omega) fun j' h => by simp [basV, h]]
  simp [basV]
theorem bas_times {a : Alg} (ha : AlgOk a) {i j : Nat} (hi : (i : Int) < a.n) (hj : (j : Int) < a.n) (k : Nat) : timesV a (basV i) (basV j) k = a.T i j k := by
  unfold timesV
  split
  · rw [tsum_bas a hi hj]; exact Int.emod_eq_of_lt (ha.T i j k).1 (ha.T i j k).2
  · rw [ha.z i j k (by omega)]
def nestC (f : Nat → List (List D)) : Nat → Chunk
  | 0 => .data 1 []
  | n + 1 => .nest 1 (arr (n + 1) f) none
theorem nest_put0 {f : Nat → List (List D)} {x y : List (List D)} (hy : y = f 0) : Chunk.nest 1 (([x] : List (List (List D))).set 0 y) none = nestC f 1 := by subst hy; rfl
theorem nest_put {f : Nat → List (List D)} {n : Nat} {x y : List (List D)} (hy : y = f (n + 1)) : Chunk.nest 1 ((arr (n + 1) f ++ [x]).set (arr (n + 1) f).length y) none = nestC f (n + 2) := by
  subst hy
  show _ = Chunk.nest 1 (arr (n + 2) f) none
  rw [arr_succ (n + 1)]
  congr 1
  rw [List.set_append_right _ _ (Nat.le_refl _), Nat.sub_self]; rfl
theorem nestD_rows {m n : Nat} {f : Nat → Row} : nestD 1 (arr n fun i => row m (f i)) = rowsL m (arr n f) := by
  unfold nestD rowsL; rw [arr_map, arr_map]
def iSolveF (p : Int) (n : Nat) (L : List Row) : Option Row := solN n (redF p (n + 1) L) (redF p (n + 1) L).length
def C_solve (P : Program) (N : FN) : Prop := ∀ {n : Nat} {L : List Row} {p : Int}, n ≤ 900 → L.length ≤ 1000 → p ∈ primes → RwL p L → Can P N.impl_solve [rowsD (n + 1) L, .int .i64 n, .int .i64 p] (solD n (iSolveF p n L))
def fnBehind (N : FN) (sz : Nat) (l : List (List D)) (e off : Nat) (w : Nat → Int) : D := .fn N.impl_Algebra_behind_1 [] [.pd 1 [[.pd sz l e off]] 0 0, .pd 6 [vecL w] 0 0]
def fnAhead (N : FN) (sz : Nat) (l : List (List D)) (e off : Nat) (w : Nat → Int) : D := .fn N.impl_Algebra_ahead_1 [] [.pd 1 [[.pd sz l e off]] 0 0, .pd 6 [vecL w] 0 0]
def C_behind (P : Program) (N : FN) : Prop := ∀ {sz : Nat} {l : List (List D)} {e off : Nat} {w : Nat → Int}, Can P N.impl_Algebra_behind [.pd sz l e off, vecD w] (.val (fnBehind N sz l e off w))
def C_ahead (P : Program) (N : FN) : Prop := ∀ {sz : Nat} {l : List (List D)} {e off : Nat} {w : Nat → Int}, Can P N.impl_Algebra_ahead [.pd sz l e off, vecD w] (.val (fnAhead N sz l e off w))
def C_behind1 (P : Program) (N : FN) : Prop := ∀ {sz : Nat} {l : List (List D)} {e off : Nat} {a : Alg} {v w : Nat → Int}, AlgAt l e off a → AlgOk a → Byts v → Byts w → Can P N.impl_Algebra_behind_1 [vecD v, .pd 1 [[.pd sz l e off]] 0 0, .pd 6 [vecL w] 0 0] (.val (vecD (timesV a v w)))
def C_ahead1 (P : Program) (N : FN) : Prop := ∀ {sz : Nat} {l : List (List D)} {e off : Nat} {a : Alg} {v w : Nat → Int}, AlgAt l e off a → AlgOk a → Byts v → Byts w → Can P N.impl_Algebra_ahead_1 [vecD v, .pd 1 [[.pd sz l e off]] 0 0, .pd 6 [vecL w] 0 0] (.val (vecD (timesV a w v)))
def mapsL (m : Nat) (g : Nat → FuncId) (c d : Nat → D) : List (List D) := arr m fun q => [.fn (g q) [] [c q, d q]]
def eqR (M : Nat → Nat → Nat → Int) (n r : Nat) : Row := fun i => M (r / n) i (r % n)
def C_equations (P : Program) (N : FN) : Prop := ∀ {sz : Nat} {l : List (List D)} {e off : Nat} {a : Alg} {m : Nat} {g : Nat → FuncId} {c d : Nat → D} {M : Nat → Nat → Nat → Int}, AlgAt l e off a → AlgOk a → 1 ≤ m ∧ m ≤ 100 → (∀ q i k, 0 ≤ M q i k ∧ M q i k ≤ 255) →
  (∀ q i : Nat, q < m → i < a.n.toNat → Can P (g q) [vecD (basV i), c q, d q] (.val (vecD (M q i)))) → Can P N.impl_Algebra_equations [.pd sz l e off, .lst 1 (mapsL m g c d)] (.ownN 1 (arr (m * a.n.toNat) fun r => row a.n.toNat (eqR M a.n.toNat r)))
def fullR (M : Nat → Nat → Nat → Int) (tg : Nat → Nat → Int) (n r : Nat) : Row := fun i => if i < n then M (r / n) i (r % n) else tg (r / n) (r % n)
def solvedF (p : Int) (n m : Nat) (M : Nat → Nat → Nat → Int) (tg : Nat → Nat → Int) : Option (Nat → Int) := (iSolveF p n (arr (m * n) (fullR M tg n))).map (vecR n)
def C_solved (P : Program) (N : FN) : Prop := ∀ {sz : Nat} {l : List (List D)} {e off : Nat} {a : Alg} {m : Nat} {g : Nat → FuncId} {c d : Nat → D} {M : Nat → Nat → Nat → Int} {tg : Nat → Nat → Int}, AlgAt l e off a → AlgOk a → 1 ≤ m ∧ m ≤ 100 → (∀ q i k, 0 ≤ M q i k ∧ M q i k < a.p) → (∀ q k, 0 ≤ tg q k ∧ tg q k < a.p) →
  (∀ q i : Nat, q < m → i < a.n.toNat → Can P (g q) [vecD (basV i), c q, d q] (.val (vecD (M q i)))) → Can P N.impl_Algebra_solved [.pd sz l e off, .lst 6 (arr m fun q => vecL (tg q)), .lst 1 (mapsL m g c d)] (optD (solvedF a.p a.n.toNat m M tg))
def uM (a : Alg) (q i : Nat) : Nat → Int := if q % 2 = 0 then timesV a (basV i) (basV (q / 2)) else timesV a (basV (q / 2)) (basV i)
def uT (q : Nat) : Nat → Int := basV (q / 2)
def iFindF (a : Alg) : Option (Nat → Int) := solvedF a.p a.n.toNat (2 * a.n.toNat) (uM a) uT
def C_findUnit (P : Program) (N : FN) : Prop := ∀ {sz : Nat} {l : List (List D)} {e off : Nat} {a : Alg}, AlgAt l e off a → AlgOk a → Can P N.impl_Algebra_findUnit [.pd sz l e off] (optD (iFindF a))
def C_unit (P : Program) (N : FN) : Prop := ∀ {sz : Nat} {l : List (List D)} {e off : Nat} {a : Alg}, AlgAt l e off a → AlgOk a → Can P N.impl_Algebra_unit [.pd sz l e off] (.val (vecD ((iFindF a).getD Z)))
def IsAlgP (a : Alg) : Prop := a.p ∈ primes ∧ (1 ≤ a.n ∧ a.n ≤ 6) ∧ TabP a ∧ AssocP a ∧ (iFindF a).isSome = true
def C_IsAlgebra (P : Program) (N : FN) : Prop := ∀ {a : Alg}, AlgB a → (a.p ∈ primes → (1 ≤ a.n ∧ a.n ≤ 6) → TabP a → AlgOk a) → Can P N.impl_IsAlgebra [algD a] (.val (.bool (dB (IsAlgP a))))
theorem basV_byt (i : Nat) : Byts (basV i) := fun j => by unfold basV; split <;> omega
theorem times_rw {a : Alg} (hp : 1 ≤ a.p) (v w : Nat → Int) : Rw a.p (timesV a v w) := fun k => by
  unfold timesV
  split
  · exact mod_bd _ hp
  · omega
structure Pr where
  c : Alg
  o : Alg
  z : Nat → Nat → Int
def pairF (x : Pr) : Nat → D := fun q => if q < 224 then algF x.c q else if q < 448 then algF x.o (q - 224) else .int .u8 (x.z ((q - 448) / 6) ((q - 448) % 6))
def pairL (x : Pr) : List D := arr 484 (pairF x)
def PairAt (l : List (List D)) (e off : Nat) (x : Pr) : Prop := ∀ q, q < 484 → get2 l e (off + q) = some (pairF x q)
theorem PairAt.c {l : List (List D)} {e off : Nat} {x : Pr} (h : PairAt l e off x) : AlgAt l e off x.c := fun q hq => by
  rw [h q (by omega)]; unfold pairF; rw [if_pos hq]
theorem PairAt.o {l : List (List D)} {e off : Nat} {x : Pr} (h : PairAt l e off x) : AlgAt l e (off + 224) x.o := fun q hq => by
  rw [Nat.add_assoc, h (224 + q) (by omega)]; unfold pairF
  rw [if_neg (by omega), if_pos (by omega), show 224 + q - 224 = q by omega]
theorem PairAt.z {l : List (List D)} {e off : Nat} {x : Pr} (h : PairAt l e off x) {i k : Nat} (hi : i < 6) (hk : k < 6) : get2 l e (off + 448 + i * 6 + k) = some (.int .u8 (x.z i k)) := by
  rw [show off + 448 + i * 6 + k = off + (448 + i * 6 + k) by omega, h _ (by omega)]; unfold pairF
  rw [if_neg (by omega), if_neg (by omega), show (448 + i * 6 + k - 448) / 6 = i by omega, show (448 + i * 6 + k - 448) % 6 = k by omega]
theorem PairAt.zv {l : List (List D)} {e off : Nat} {x : Pr} (h : PairAt l e off x) {i : Nat} (hi : i < 6) : sub2 l e (off + 448 + ((i : Nat) : Int).toNat * 6) 6 = some (vecL (x.z i)) := by
  rw [Int.toNat_natCast]
  exact sub2_of (fun q hq => h.z hi hq) (by omega)
theorem PairAt.all {l : List (List D)} {e off : Nat} {x : Pr} (h : PairAt l e off x) : sub2 l e off 484 = some (pairL x) := sub2_of h (by omega)
theorem rd_vecs {m i : Nat} {f : Nat → Nat → Int} (h : i < m) : sub2 (arr m fun i => vecL (f i)) ((i : Nat) : Int).toNat 0 6 = some (vecL (f i)) := by
  simp only [sub2, Int.toNat_natCast, arr_get h, Option.bind_some, cut, cel_len, Nat.zero_add, Nat.le_refl, if_true, List.drop_zero]
  rw [List.take_of_length_le (by rw [cel_len]; omega)]
theorem st_all {k : IntKind} {m z : Nat} {f g : Nat → Int} : Chunk.data z ([cel k m f].set 0 (splice (cel k m f) 0 (cel k m g))) = .data z [cel k m g] := by
  have e : splice (cel k m f) 0 (cel k m g) = cel k m g := by
    unfold splice
    rw [List.take_zero, List.nil_append, cel_len, List.drop_eq_nil_of_le (by rw [cel_len]; omega), List.append_nil]
  rw [e]; rfl
theorem addV_rw {p k : Int} {v w : Nat → Int} (hp : 1 ≤ p) : Rw p (addV p k v w) := fun i => mod_bd _ hp
structure PrOk (x : Pr) : Prop where
  c : AlgOk x.c
  o : AlgOk x.o
  p : x.c.p = x.o.p
  z : ∀ i k, 0 ≤ x.z i k ∧ x.z i k ≤ 255
def C_IdxVec (P : Program) (N : FN) : Prop := ∀ {m : Nat} {f : Nat → Nat → Int} {g : FuncId} {c : D} {q : Nat → Bool}, m ≤ 1000 → (∀ i, i < m → Can P g [vecD (f i), c] (.val (.bool (q i)))) → Can P N.slices_IndexFunc_Limpl_Vector_impl_Vector [.lst 6 (arr m fun i => vecL (f i)), .fn g [] [c]] (.val (.int .i64 (idxF q m)))
def C_ContainsVec (P : Program) (N : FN) : Prop := ∀ {m : Nat} {f : Nat → Nat → Int} {g : FuncId} {c : D} {q : Nat → Bool}, m ≤ 1000 → (∀ i, i < m → Can P g [vecD (f i), c] (.val (.bool (q i)))) → Can P N.slices_ContainsFunc_Limpl_Vector_impl_Vector [.lst 6 (arr m fun i => vecL (f i)), .fn g [] [c]] (.val (.bool (decide (0 ≤ idxF q m))))
structure AlgIn (a : Alg) : Prop where
  b : AlgB a
  ok : a.p ∈ primes → (1 ≤ a.n ∧ a.n ≤ 6) → TabP a → AlgOk a
theorem AlgIn.alg {a : Alg} (h : AlgIn a) (hi : IsAlgP a) : AlgOk a := h.ok hi.1 hi.2.1 hi.2.2.1
structure PrIn (x : Pr) : Prop where
  c : AlgIn x.c
  o : AlgIn x.o
  z : ∀ i, Byts (x.z i)
def iUnit (a : Alg) : Nat → Int := (iFindF a).getD Z
theorem can_t {P : Program} {f : FuncId} {args : List D} {p : Prop} (h : Can P f args (.val (.bool (dB p)))) (hp : p) : Can P f args (.val (.bool true)) := by rwa [dB_t hp] at h
theorem can_f {P : Program} {f : FuncId} {args : List D} {p : Prop} (h : Can P f args (.val (.bool (dB p)))) (hp : ¬ p) : Can P f args (.val (.bool false)) := by rwa [dB_f hp] at h
theorem can_dt {P : Program} {f : FuncId} {args : List D} {p : Prop} [Decidable p] (h : Can P f args (.val (.bool (decide p)))) (hp : p) : Can P f args (.val (.bool true)) := by rwa [decide_eq_true hp] at h
theorem can_df {P : Program} {f : FuncId} {args : List D} {p : Prop} [Decidable p] (h : Can P f args (.val (.bool (decide p)))) (hp : ¬ p) : Can P f args (.val (.bool false)) := by rwa [decide_eq_false hp] at h
theorem fullR_rw {M : Nat → Nat → Nat → Int} {tg : Nat → Nat → Int} {p : Int} {n c : Nat} (h1 : ∀ q i k, 0 ≤ M q i k ∧ M q i k < p) (h2 : ∀ q k, 0 ≤ tg q k ∧ tg q k < p) : RwL p (arr c (fullR M tg n)) := fun r hr => by
  simp only [arr, List.mem_map] at hr
  obtain ⟨i, _, rfl⟩ := hr
  intro j
  unfold fullR
  split
  · exact h1 ..
  · exact h2 ..
theorem iSolve_rw {p : Int} {n : Nat} {L : List Row} {r : Row} (hp : p ∈ primes) (hR : RwL p L) (h : iSolveF p n L = some r) : Rw p r := by
  have hp2 := prime_bd hp
  have rr := (redN_inv (p := p) (rows := L) (by omega) hR (n + 1)).2.1
  have key : ∀ i o, solN n (redF p (n + 1) L) i = some o → Rw p o := by
    intro i
    induction i with
    | zero => intro o h; simp only [solN, Option.some.injEq] at h; subst h; intro j; simp [Z]; omega
    | succ i ih =>
      intro o h
      unfold solN at h
      split at h
      · cases h
      · rename_i o' ho
        split at h
        · cases h
        · simp only [Option.some.injEq] at h; subst h
          intro j
          unfold upd
          split
          · exact RwL.get rr (by omega) i n
          · exact ih o' ho j
  exact key _ _ h
theorem uM_rw {a : Alg} (hp : 1 ≤ a.p) (q i k : Nat) : 0 ≤ uM a q i k ∧ uM a q i k < a.p := by
  unfold uM
  split
  · exact times_rw hp _ _ k
  · exact times_rw hp _ _ k
theorem uT_rw {p : Int} (hp : 2 ≤ p) (q k : Nat) : 0 ≤ uT q k ∧ uT q k < p := by unfold uT basV; split <;> omega
theorem vecR_rw {p : Int} {n : Nat} {r : Row} (hp : 1 ≤ p) (h : Rw p r) : Rw p (vecR n r) := fun i => by
  have := h i
  unfold vecR; split <;> omega
theorem iUnit_rw {a : Alg} (ha : AlgOk a) : Rw a.p (iUnit a) := by
  have hp2 := prime_bd ha.p
  unfold iUnit iFindF solvedF
  cases h : iSolveF a.p a.n.toNat (arr (2 * a.n.toNat * a.n.toNat) (fullR (uM a) uT a.n.toNat)) with
  | none => intro i; simp [Z]; omega
  | some r =>
    exact vecR_rw (by omega) (iSolve_rw ha.p (fullR_rw (fun q i k => uM_rw (by omega) q i k) (fun q k => uT_rw hp2.1 q k)) h)
theorem eq_t {v w : Nat → Int} (h : VEq v w) : (true = true ↔ vecL v = vecL w) := ⟨fun _ => cel_ext h, fun _ => rfl⟩
theorem eq_f {v w : Nat → Int} (h : ¬ VEq v w) : (false = true ↔ vecL v = vecL w) := ⟨(fun h => by cases h), fun e => absurd (cel_inj e) h⟩
theorem Rw.byt {p : Int} {v : Nat → Int} (h : Rw p v) (hp : p ≤ 255) : Byts v := fun i => by have := h i; omega
def sAlgP (a : Alg) : Prop := ShapeP a ∧ AssocP a ∧ (findF a).isSome = true
def sUnit (a : Alg) : Nat → Int := (findF a).getD Z
structure SAlgIn (a : Alg) : Prop where
  b : AlgB a
  ok : ShapeP a → AlgOk a
structure SPrIn (x : Pr) : Prop where
  c : SAlgIn x.c
  o : SAlgIn x.o
  z : ∀ i, Byts (x.z i)
def sCommP (a : Alg) : Prop := ∀ i : Nat, i < 6 → ∀ j : Nat, j < i → VEq (a.T i j) (a.T j i)
end Go.X
namespace Go.X
open Go Go.RowKit
theorem sz_ {p : Prop} (h : p := by first | omega | assumption | (simp only [List.length_take, List.length_drop, cel_len, row_len, rowsL_len, mapN_len, arr_len, List.length_append, List.length_cons, List.length_nil, List.length_map, List.length_replicate, maxRow]; omega)) : p := h
theorem om_ {p : Prop} (h : p := by omega) : p := h
theorem sd_ {p : Prop} (h : p := by first
  | exact rfl | omega | assumption
  | (and_intros <;> first | exact rfl | omega | decide | (simp only [List.length_take, List.length_drop, cel_len, row_len, rowsL_len, mapN_len, arr_len, List.length_append, List.length_cons, List.length_nil, List.length_map, List.length_replicate, maxRow]; omega))
  | (simp only [List.length_take, List.length_drop, cel_len, row_len, rowsL_len, mapN_len, arr_len, List.length_append, List.length_cons, List.length_nil, List.length_map, List.length_replicate, maxRow]; omega)
  | (simp only [List.length_take, List.length_drop, cel_len, row_len, rowsL_len, mapN_len, arr_len, List.length_append, List.length_cons, List.length_nil, List.length_map, List.length_replicate, maxRow]; done)
  | exact ⟨rfl, rfl, rfl, by (simp only [List.length_take, List.length_drop, cel_len, row_len, rowsL_len, mapN_len, arr_len, List.length_append, List.length_cons, List.length_nil, List.length_map, List.length_replicate, maxRow]; omega), fun p hp => by cases hp; rfl⟩
  | decide | exact Nat.lt_of_lt_of_eq (m := 6) (by omega) rfl | exact .inl rfl | exact .inr flat_row | exact .inr (flat2 (flat_cel _ _ _) (.bool _)) | exact .inr (.int _ _) | exact .inr (.bool _) | exact .inr (flat_cel _ _ _) | exact st_prog rfl | exact row_app rfl
  | (refine congrArg (fun x => AV.d (D.int .i64 x)) ?_; first | omega | (simp only [List.length_take, List.length_drop, cel_len, row_len, rowsL_len, mapN_len, arr_len, List.length_append, List.length_cons, List.length_nil, List.length_map, List.length_replicate, maxRow]; omega))
  | exact rowsL_app) : p := h
theorem rd1_ {p : Prop} (h : p := by with_reducible first
  | exact rfl | exact rd_celP (by omega) | exact rd_cel (by omega) | exact rd_idx (by omega) | exact rd_all | exact rd_stall rfl | exact rd_rowP (by omega) | exact rd_row (by omega) | exact get_rowsN (by omega) | exact get_rows (by omega) | exact get_row (by omega) | exact rd_rowsN (by omega) | exact rd_rows (by omega)
  | exact AlgAt.p ‹_› | exact AlgAt.n ‹_› | exact AlgAt.T ‹_› (by omega) (by omega) (by omega) | exact AlgAt.f ‹_› (by omega) | exact AlgAt.vecT ‹_› (by omega) (by omega) | exact AlgAt.vecf ‹_› | exact AlgAt.p (algAt_one _) | exact AlgAt.n (algAt_one _) | exact AlgAt.T (algAt_one _) (by omega) (by omega) (by omega) | exact AlgAt.f (algAt_one _) (by omega) | exact (algAt_one _).all | exact AlgAt.vecT (algAt_one _) (by omega) (by omega) | exact AlgAt.vecf (algAt_one _)) : p := h
theorem rd_ {p : Prop} (h : p := by first
  | exact rd1_
  | exact rd_celP (by omega) | exact rd_cel (by omega) | exact rd_idx (by omega) | exact rd_all | exact rd_stall rfl | exact rd_rowP (by omega) | exact rd_row (by omega) | exact get_rowsN (by omega) | exact get_rows (by omega) | exact get_row (by omega) | exact rd_rowsN (by omega) | exact rd_rows (by omega)
  | exact AlgAt.p ‹_› | exact AlgAt.n ‹_› | exact AlgAt.T ‹_› (by omega) (by omega) (by omega) | exact AlgAt.f ‹_› (by omega) | exact AlgAt.vecT ‹_› (by omega) (by omega) | exact AlgAt.vecf ‹_› | exact AlgAt.p (algAt_one _) | exact AlgAt.n (algAt_one _) | exact AlgAt.T (algAt_one _) (by omega) (by omega) (by omega) | exact AlgAt.f (algAt_one _) (by omega) | exact (algAt_one _).all | exact AlgAt.vecT (algAt_one _) (by omega) (by omega) | exact AlgAt.vecf (algAt_one _)
  | exact rfl) : p := h
theorem ifs_ : (∀ b : Bool, ((!b) = true) = (b = false)) ∧ (∀ b : Bool, ((!b) = false) = (b = true)) ∧ (∀ (p : Prop) [Decidable p], (decide p = true) = p) ∧ (∀ (p : Prop) [Decidable p], (decide p = false) = ¬ p) ∧
    (∀ a b : Int, ((a == b) = true) = (a = b)) ∧ (∀ a b : Int, ((a != b) = true) = ¬ (a = b)) ∧ (∀ a b : Int, ((a == b) = false) = ¬ (a = b)) ∧ (∀ a b : Int, ((a != b) = false) = (a = b)) ∧
    (∀ p : Prop, (¬ ¬ p) = p) ∧ ((!true) = false) ∧ ((!false) = true) ∧ ((false = true) = False) ∧ ((true = false) = False) ∧ (∀ a b : Int, (¬ (a < b)) = (b ≤ a)) ∧ (∀ a b : Int, (¬ (a ≤ b)) = (b < a)) ∧
    (∀ (α : Type) (a : α) (l : List α), (a :: l).length = l.length + 1) ∧ (∀ (α : Type) (l m : List α), (l ++ m).length = l.length + m.length) ∧ (∀ (α : Type) (l : List α) (n : Nat), (l.take n).length = min n l.length) ∧
    (∀ (α : Type) (l : List α) (n : Nat), (l.drop n).length = l.length - n) ∧ (∀ α : Type, ([] : List α).length = 0) ∧ (∀ m f, (row m f).length = m) ∧ (∀ m L, (rowsL m L).length = L.length) ∧
    (∀ k m f, (cel k m f).length = m) ∧ (∀ i g L, (mapN i g L).length = L.length) ∧ ((¬ True) = False) ∧ ((¬ False) = True) ∧ (∀ (α : Type) (a b : α), (a ≠ b) = ¬ (a = b)) := by
  refine ⟨fun b => by cases b <;> simp, fun b => by cases b <;> simp, fun p _ => by simp, fun p _ => by simp, fun a b => by simp, fun a b => by simp, fun a b => by simp, fun a b => by simp, fun p => by simp [Classical.not_not], rfl, rfl, by simp, by simp, fun a b => by simp, fun a b => by simp,
    fun α a l => by simp, fun α l m => by simp, fun α l n => by simp, fun α l n => by simp, fun α => by simp, row_len, rowsL_len, cel_len, mapN_len, by simp, by simp, fun α a b => rfl⟩
class IfG (g : Prop) (X Y A B : outParam Prop) : Prop where
  go : (X → A) → (Y → B) → g
instance {X Y A B : Prop} : IfG ((X → A) ∧ (Y → B)) X Y A B := ⟨fun a b => ⟨a, b⟩⟩
theorem if_ {g X Y A B p q : Prop} [i : IfG g X Y A B] (ha : p → A) (hb : q → B) (hp : X = p := by first | (conv => lhs; simp only [ifs_, Cm.int, reduceCtorEq, reduceIte]) | exact rfl) (hq : Y = q := by first | (conv => lhs; simp only [ifs_, Cm.int, reduceCtorEq, reduceIte]) | exact rfl) : g :=
  i.go (fun h => ha (hp ▸ h)) (fun h => hb (hq ▸ h))
class VS (g : Prop) (s r : outParam Prop) : Prop where
  go : s → r → g
instance {p q : Prop} : VS (p ∧ q) p q := ⟨fun a b => ⟨a, b⟩⟩
section
variable {x y : Int} {i n : Nat} {K : Int → Prop}
instance : VS (Ar.int .add .i64 x y K) (-9223372036854775808 ≤ x + y ∧ x + y ≤ 9223372036854775807) (K (x + y)) := ⟨ar_add⟩
instance : VS (Ar.int .sub .i64 x y K) (-9223372036854775808 ≤ x - y ∧ x - y ≤ 9223372036854775807) (K (x - y)) := ⟨ar_sub⟩
instance : VS (Ar.int .mul .i64 x y K) (-9223372036854775808 ≤ x * y ∧ x * y ≤ 9223372036854775807) (K (x * y)) := ⟨ar_mul⟩
instance : VS (wrapK .i64 x K) (-9223372036854775808 ≤ x ∧ x ≤ 9223372036854775807) (K x) := ⟨wk_i64⟩
instance : VS (wrapK .u8 x K) (0 ≤ x ∧ x ≤ 255) (K x) := ⟨wk_u8⟩
end
theorem vs_ {g s r : Prop} [i : VS g s r] (hr : r) (hs : s := by exact sd_) : g := i.go hs hr
class DivG (g : Prop) (o : outParam Ar) (x y : outParam Int) (K : outParam (Int → Prop)) : Prop where
  go : Ar.int o .i64 x y K → g
instance {o : Ar} {x y : Int} {K : Int → Prop} : DivG (Ar.int o .i64 x y K) o x y K := ⟨id⟩
def ArTo (o : Ar) (x y z : Int) : Prop := ∀ K : Int → Prop, K z → Ar.int o .i64 x y K
theorem dv_ {g : Prop} {o : Ar} {x y z : Int} {K : Int → Prop} [i : DivG g o x y K] (hk : K z) (h : ArTo o x y z := by first
  | exact fun _ => ar_remN om_ | exact fun _ => ar_quoN om_ | exact fun _ => ar_rem sz_ | exact fun _ => ar_quo sz_) : g := i.go (h K hk)
theorem dvT_ {g : Prop} {o : Ar} {x y z : Int} {K : Int → Prop} [i : DivG g o x y K] (hk : K z) (h : ArTo o x y z := by first
  | exact fun _ => ar_remN om_ | exact fun _ => ar_quoN om_ | exact fun _ => ar_rem sz_ | exact fun _ => ar_remT om_ | exact fun _ => ar_quo sz_) : g := i.go (h K hk)
theorem fin_ {p : Prop} (h : p := by first | exact True.intro | (with_reducible exact rfl) | exact congrArg D.agg (cel_prog (by omega)) | exact Eq.refl _) : p := h
theorem ex_ {α : Type} {p q : α → Prop} {a : α} (hq : q a) (h : p a := by exact rd_) : ∃ x, p x ∧ q x := ⟨a, h, hq⟩
theorem ex2_ {α β : Type} {p q : α → β → Prop} {a : α} {b : β} (hq : q a b) (h : p a b := by exact rd_) : ∃ x y, p x y ∧ q x y := ⟨a, b, h, hq⟩
theorem lp_ {p : Prop} (h : p := by first | omega | (and_intros <;> first | omega | (intros; omega) | rfl | simp) | (intros; omega) | simp) : p := h
end Go.X
