import Derived.Test.YtiefibobgdbcdaaK16
import Derived.Test.YtiefibobgdbcdaaK14
set_option linter.all false
namespace Go.X
open Go Go.RowKit
set_option maxRecDepth 100000
structure Tb where
  m : Nat
  n : Nat → Nat
  f : Nat → Row
def tbN (t : Tb) : List (List (List D)) := arr t.m fun i => row (t.n i) (t.f i)
def tbL (t : Tb) : List (List D) := arr t.m fun i => [rowD (t.n i) (t.f i)]
abbrev tbD (t : Tb) : D := .lst 1 (tbL t)
theorem tbL_len (t : Tb) : (tbL t).length = t.m := arr_len ..
theorem nest_tb (t : Tb) : nestD 1 (tbN t) = tbL t := by
  unfold nestD tbN tbL
  rw [arr_map]
theorem tb_get {t : Tb} {i : Nat} (h : i < t.m) : get2 (tbL t) ((i : Nat) : Int).toNat 0 = some (rowD (t.n i) (t.f i)) := by
  unfold get2 tbL
  rw [Int.toNat_natCast, arr_get h]; rfl
def TbS (t : Tb) : Prop := t.m ≤ 1048576 ∧ ∀ i, i < t.m → t.n i ≤ 1048576
def lenT (t : Tb) : Nat → Nat
  | 0 => 0
  | i + 1 => lenT t i + t.n i
theorem lenT_le (t : Tb) {i j : Nat} (h : i ≤ j) : lenT t i ≤ lenT t j := by
  induction j with
  | zero => rw [show i = 0 by omega]; exact Nat.le_refl _
  | succ j ih =>
    by_cases e : i = j + 1
    · subst e; exact Nat.le_refl _
    · have := ih (by omega)
      show _ ≤ lenT t j + t.n j
      omega
def szT (t : Tb) (k : Int) : Int := if k < (t.m : Int) + lenT t t.m then -1 else k - t.m - lenT t t.m
theorem szT_small {t : Tb} (h : 0 ≤ szT t 1048576) : TbS t ∧ t.m + lenT t t.m ≤ 1048576 := by
  unfold szT at h
  have h1 : ¬ ((1048576 : Int) < (t.m : Int) + lenT t t.m) := by intro c; rw [if_pos c] at h; omega
  refine ⟨⟨by omega, fun i hi => ?_⟩, by omega⟩
  have := lenT_le t (show i + 1 ≤ t.m by omega)
  have : lenT t (i + 1) = lenT t i + t.n i := rfl
  omega
def sqP (n p : Int) (t : Tb) : Prop := (t.m : Int) = n ∧ ∀ i, i < t.m → t.n i = t.m ∧ ∀ j, j < t.m → 0 ≤ t.f i j ∧ t.f i j ≤ p - 1
def celP (g : Grp) (p : Int) (t : Tb) (i j k : Nat) : Prop := t.f i j * t.f (mN g i j) k % p = t.f j k * t.f i (mN g j k) % p
def cocL (g : Grp) (p : Int) (t : Tb) : Prop := ∀ i, i < g.n.toNat → ∀ j, j < g.n.toNat → t.f i j ≠ 0 ∧ ∀ k, k < g.n.toNat → celP g p t i j k
noncomputable def cocB (g : Grp) (p : Int) (t : Tb) : Bool := dB (cocL g p t) && (t.f 0 0 == 1)
noncomputable def tabG (g : Grp) (p : Int) (t : Tb) : Int := if codG (dB (GP g)) (decide (p ∈ primes)) = 0 then (if dB (sqP g.n p t) then 0 else 2) else codG (dB (GP g)) (decide (p ∈ primes))
noncomputable def twiG (g : Grp) (p : Int) (t : Tb) : Int := if tabG g p t = 0 then (if cocB g p t then 0 else 2) else tabG g p t
theorem tabG_zero {g : Grp} {p : Int} {t : Tb} (h : tabG g p t = 0) : GP g ∧ p ∈ primes ∧ sqP g.n p t := by
  unfold tabG at h
  by_cases g1 : GP g
  · by_cases g2 : p ∈ primes
    · rw [dB_t g1, decide_eq_true g2] at h
      by_cases g3 : sqP g.n p t
      · exact ⟨g1, g2, g3⟩
      · rw [dB_f g3, if_pos (by rfl)] at h; cases h
    · rw [dB_t g1, decide_eq_false g2, show codG true false = 2 from rfl, if_neg (by decide)] at h; cases h
  · rw [dB_f g1] at h
    rw [show codG false (decide (p ∈ primes)) = 1 from rfl, if_neg (by decide)] at h
    cases h
def regP (g : Grp) (t : Tb) (x y : Nat) : Prop := g.t x y = g.t y x → t.f x y = t.f y x
def regC (g : Grp) (t : Tb) (q n : Nat) : Prop := ∀ y, y < n → regP g t ((cS g q).getD 0 0) y
noncomputable def regL (g : Grp) (t : Tb) (k : Nat) : List Int := ((List.range k).filter fun q => dB (regC g t q g.n.toNat)).map fun q => ((q : Nat) : Int)
noncomputable def regR (g : Grp) (t : Tb) (c : Int) : Res := .tupO 1 (if c = 0 then iL (regL g t (clsS g).length) else []) [] [.int .i64 c]
theorem regL_s (g : Grp) (t : Tb) (k : Nat) : regL g t (k + 1) = if dB (regC g t k g.n.toNat) = true then regL g t k ++ [((k : Nat) : Int)] else regL g t k := by
  unfold regL
  rw [List.range_succ, List.filter_append, List.map_append]
  by_cases h : regC g t k g.n.toNat
  · rw [dB_t h]; simp [dB_t h]
  · rw [dB_f h]; simp [dB_f h]
theorem regL_len (g : Grp) (t : Tb) (k : Nat) : (regL g t k).length ≤ k := by
  unfold regL
  rw [List.length_map]
  have := List.length_filter_le (fun q => dB (regC g t q g.n.toNat)) (List.range k)
  rwa [List.length_range] at this
theorem iL_row (L : List Int) : iL L = row L.length fun i => L.getD i 0 := by
  refine List.ext_getElem? fun i => ?_
  unfold iL
  rw [List.getElem?_map]
  by_cases h : i < L.length
  · rw [show (row L.length fun i => L.getD i 0)[i]? = some [.int .i64 (L.getD i 0)] from arr_get h, List.getD_eq_getElem?_getD, List.getElem?_eq_getElem h]; rfl
  · rw [List.getElem?_eq_none (by omega), List.getElem?_eq_none (by rw [row_len]; omega)]; rfl
def C_sz1 (P : Program) (N : FN) : Prop := ∀ {m : Nat} {f : Row} {k : Int}, m ≤ 9223372036854775807 → 0 ≤ k ∧ k ≤ 1048576 → Can P N.laws_szInt64S [rowD m f, .int .i64 k] (.val (.int .i64 (if k < m then -1 else k - m)))
def C_szSS (P : Program) (N : FN) : Prop := ∀ {t : Tb} {k : Int}, t.m ≤ 9223372036854775807 → (∀ i, i < t.m → t.n i ≤ 9223372036854775807) → 0 ≤ k ∧ k ≤ 1048576 → Can P N.laws_szInt64SS [tbD t, .int .i64 k] (.val (.int .i64 (szT t k)))
def C_to1 (P : Program) (N : FN) : Prop := ∀ {m : Nat} {f : Row}, m ≤ 1048576 → Can P N.laws_toInt64S [rowD m f] (.own 1 (row m f))
def C_toSS (P : Program) (N : FN) : Prop := ∀ {t : Tb}, TbS t → Can P N.laws_toInt64SS [tbD t] (.ownN 1 (tbN t))
def C_eqSS (P : Program) (N : FN) : Prop := ∀ {t : Tb}, TbS t → Can P N.laws_eqInt64SS [tbD t, tbD t] (.val (.bool true))
def C_markSS (P : Program) (N : FN) : Prop := ∀ {t : Tb}, TbS t → t.m + lenT t t.m ≤ 1048576 → Can P N.laws_markInt64SS [.int .i64 1] (.postN 1 (tbN t) (.int .i64 (1 + lenT t t.m)))
def C_sTabG (P : Program) (N : FN) : Prop := ∀ {g : Grp} {p : Int} {t : Tb}, GrpB g → TbS t → Can P N.spec_l06Table [.int .i64 p, grpD g, tbD t] (.val (.int .i64 (tabG g p t)))
def C_sCoc (P : Program) (N : FN) : Prop := ∀ {g : Grp} {p : Int} {t : Tb}, GrpB g → GP g → p ∈ primes → sqP g.n p t → Can P N.spec_l06Cocycle [.int .i64 p, grpD g, tbD t] (.val (.bool (cocB g p t)))
def C_sTwist (P : Program) (N : FN) : Prop := ∀ {g : Grp} {p : Int} {t : Tb}, GrpB g → TbS t → Can P N.spec_l06Twist [.int .i64 p, grpD g, tbD t] (.val (.int .i64 (twiG g p t)))
def C_IdxIntC (P : Program) (N : FN) : Prop := ∀ {m : Nat} {f : Row} {g : FuncId} {c : D} {q : Nat → Bool}, m ≤ 4000000 → (∀ i, i < m → Can P g [.int .i64 (f i), c] (.val (.bool (q i)))) → Can P N.slices_IndexFunc_Lint64_int64 [rowD m f, .fn g [] [c]] (.val (.int .i64 (idxF q m)))
def C_CFIntC (P : Program) (N : FN) : Prop := ∀ {m : Nat} {f : Row} {g : FuncId} {c : D} {q : Nat → Bool}, m ≤ 4000000 → (∀ i, i < m → Can P g [.int .i64 (f i), c] (.val (.bool (q i)))) → Can P N.slices_ContainsFunc_Lint64_int64 [rowD m f, .fn g [] [c]] (.val (.bool (Cm.geq.int (idxF q m) 0)))
def C_IdxTb (P : Program) (N : FN) : Prop := ∀ {t : Tb} {g : FuncId} {c d : D} {q : Nat → Bool}, t.m ≤ 4000000 → (∀ i, i < t.m → Can P g [rowD (t.n i) (t.f i), c, d] (.val (.bool (q i)))) → Can P N.slices_IndexFunc_LLint64_Lint64 [tbD t, .fn g [] [c, d]] (.val (.int .i64 (idxF q t.m)))
def C_CFTb (P : Program) (N : FN) : Prop := ∀ {t : Tb} {g : FuncId} {c d : D} {q : Nat → Bool}, t.m ≤ 4000000 → (∀ i, i < t.m → Can P g [rowD (t.n i) (t.f i), c, d] (.val (.bool (q i)))) → Can P N.slices_ContainsFunc_LLint64_Lint64 [tbD t, .fn g [] [c, d]] (.val (.bool (Cm.geq.int (idxF q t.m) 0)))
def rowP (n p : Int) (m : Nat) (f : Row) : Prop := (m : Int) = n ∧ ∀ j, j < m → 0 ≤ f j ∧ f j ≤ p - 1
def C_sq11 (P : Program) (N : FN) : Prop := ∀ {x p : Int}, 0 ≤ p ∧ p ≤ 1000 → Can P N.impl_squareOk_1_1 [.int .i64 x, .pd 1 [[.int .i64 p]] 0 0] (.val (.bool (!decide (0 ≤ x ∧ x ≤ p - 1))))
def C_sq1 (P : Program) (N : FN) : Prop := ∀ {m : Nat} {f : Row} {n p : Int}, m ≤ 1048576 → 0 ≤ p ∧ p ≤ 1000 → Can P N.impl_squareOk_1 [rowD m f, .pd 1 [[.int .i64 n]] 0 0, .pd 1 [[.int .i64 p]] 0 0] (.val (.bool (!dB (rowP n p m f))))
def C_square (P : Program) (N : FN) : Prop := ∀ {t : Tb} {n p : Int}, TbS t → 0 ≤ p ∧ p ≤ 1000 → Can P N.impl_squareOk [tbD t, .int .i64 n, .int .i64 p] (.val (.bool (dB (sqP n p t))))
def C_tabled (P : Program) (N : FN) : Prop := ∀ {g : Grp} {p : Int} {t : Tb}, GrpB g → TbS t → Can P N.impl_tabled [.int .i64 p, grpD g, tbD t] (.val (.int .i64 (tabG g p t)))
def C_coc (P : Program) (N : FN) : Prop := ∀ {sz : Nat} {l : List (List D)} {e off : Nat} {g : Grp} {p : Int} {t : Tb}, GrpAt l e off g → GrpB g → GP g → p ∈ primes → sqP g.n p t → Can P N.impl_Group_cocycle [.pd sz l e off, .int .i64 p, tbD t] (.val (.bool (cocB g p t)))
noncomputable def icR (g : Grp) (p : Int) (t : Tb) : Res := .tup [.bool (if tabG g p t = 0 then cocB g p t else false), .int .i64 (tabG g p t)]
def C_IsCoc (P : Program) (N : FN) : Prop := ∀ {g : Grp} {p : Int} {t : Tb}, GrpB g → TbS t → Can P N.impl_IsCocycle [.int .i64 p, grpD g, tbD t] (icR g p t)
def C_twisting (P : Program) (N : FN) : Prop := ∀ {g : Grp} {p : Int} {t : Tb}, GrpB g → TbS t → Can P N.impl_twisting [.int .i64 p, grpD g, tbD t] (.val (.int .i64 (twiG g p t)))
def C_sReg (P : Program) (N : FN) : Prop := ∀ {g : Grp} {p : Int} {t : Tb}, GrpB g → TbS t → Can P N.spec_RegularClasses [.int .i64 p, grpD g, tbD t] (regR g t (twiG g p t))
def C_Reg (P : Program) (N : FN) : Prop := ∀ {g : Grp} {p : Int} {t : Tb}, GrpB g → TbS t → Can P N.impl_RegularClasses [.int .i64 p, grpD g, tbD t] (regR g t (twiG g p t))
theorem twiG_zero {g : Grp} {p : Int} {t : Tb} (h : twiG g p t = 0) : GP g ∧ p ∈ primes ∧ sqP g.n p t := by
  unfold twiG at h
  by_cases c : tabG g p t = 0
  · exact tabG_zero c
  · rw [if_neg c] at h; exact absurd h c
theorem sq_cell {g : Grp} (hb : GrpB g) (h : GP g) {p : Int} {t : Tb} (hs : sqP g.n p t) {i j : Nat} (hi : i < g.n.toNat) (hj : j < g.n.toNat) : i < t.m ∧ j < t.n i ∧ 0 ≤ t.f i j ∧ t.f i j ≤ p - 1 := by
  have hn := h.1
  obtain ⟨h1, h2⟩ := hs
  have hi' : i < t.m := by omega
  obtain ⟨h3, h4⟩ := h2 i hi'
  exact ⟨hi', by omega, h4 j (by omega)⟩
theorem mulG_bd {x y p : Int} (hp : 2 ≤ p ∧ p ≤ 13) (hx : 0 ≤ x ∧ x ≤ p - 1) (hy : 0 ≤ y ∧ y ≤ p - 1) : 0 ≤ x * y ∧ x * y ≤ 144 := by
  have h1 := Int.mul_nonneg hx.1 hy.1
  have h2 : x * y ≤ 12 * 12 := Int.mul_le_mul (by omega) (by omega) hy.1 (by omega)
  omega
def pgN (t : Tb) (i j : Nat) : List (List D) := if j < i then row (t.n j) (t.f j) else []
theorem pgN_0 {t : Tb} : Chunk.nest 1 (List.replicate (List.replicate ((t.m : Nat) : Int).toNat [D.emp]).length []) none = .nest 1 (arr t.m (pgN t 0)) none := by
  congr 1
  refine arr_of (by simp) fun q hq => ?_
  rw [List.getElem?_replicate, if_pos (by simpa using hq)]
  rfl
theorem pgN_s {t : Tb} {i : Nat} (hi : i < t.m) {r : List (List D)} (hr : r = row (t.n i) (t.f i)) : Chunk.nest 1 ((arr t.m (pgN t i)).set ((i : Nat) : Int).toNat r) none = .nest 1 (arr t.m (pgN t (i + 1))) none := by
  congr 1
  refine arr_of (by rw [List.length_set]; exact arr_len ..) fun q hq => ?_
  rw [Int.toNat_natCast, List.getElem?_set]
  by_cases e : i = q
  · subst e
    rw [if_pos rfl, if_pos (by rw [arr_len]; exact hi), hr]
    unfold pgN; rw [if_pos (by omega)]
  · rw [if_neg e, arr_get hq]
    unfold pgN
    by_cases c : q < i
    · rw [if_pos c, if_pos (by omega)]
    · rw [if_neg c, if_neg (by omega)]
theorem pgN_n {t : Tb} : arr t.m (pgN t t.m) = tbN t := by
  unfold tbN
  refine arr_ext fun q hq => ?_
  unfold pgN; rw [if_pos hq]
def pgM (t : Tb) (i j : Nat) : List (List D) := if j < i then row (t.n j) (fun q => (1 + (lenT t j : Int)) + (q : Int)) else row (t.n j) (t.f j)
theorem pgM_0 {t : Tb} : arr t.m (pgM t 0) = tbN t := by
  unfold tbN
  refine arr_ext fun q hq => ?_
  unfold pgM; rw [if_neg (by omega)]
theorem pgM_get {t : Tb} {i : Nat} (hi : i < t.m) : (arr t.m (pgM t i))[((i : Nat) : Int).toNat]? = some (row (t.n i) (t.f i)) := by
  rw [Int.toNat_natCast, arr_get hi]
  unfold pgM; rw [if_neg (by omega)]
theorem pgM_s {t : Tb} {i : Nat} (hi : i < t.m) {r : List (List D)} (hr : r = row (t.n i) (fun q => (1 + (lenT t i : Int)) + (q : Int))) : Chunk.nest 1 ((arr t.m (pgM t i)).set ((i : Nat) : Int).toNat r) none = .nest 1 (arr t.m (pgM t (i + 1))) none := by
  congr 1
  refine arr_of (by rw [List.length_set]; exact arr_len ..) fun q hq => ?_
  rw [Int.toNat_natCast, List.getElem?_set]
  by_cases e : i = q
  · subst e
    rw [if_pos rfl, if_pos (by rw [arr_len]; exact hi), hr]
    unfold pgM; rw [if_pos (by omega)]
  · rw [if_neg e, arr_get hq]
    unfold pgM
    by_cases c : q < i
    · rw [if_pos c, if_pos (by omega)]
    · rw [if_neg c, if_neg (by omega)]
theorem lenT_s (t : Tb) (i : Nat) : ((lenT t (i + 1) : Nat) : Int) = (lenT t i : Int) + (t.n i : Int) := by
  show ((lenT t i + t.n i : Nat) : Int) = _
  omega
def prgI (f : Row) (i : Nat) : Row := fun j => if j < i then f j else 0
theorem prgI_0 {m : Nat} {f : Row} : Chunk.data 1 (List.replicate ((m : Nat) : Int).toNat [D.int .i64 0]) = .data 1 (row m (prgI f 0)) := by
  congr 1
  refine arr_of (by simp) fun q hq => ?_
  rw [List.getElem?_replicate, if_pos (by simpa using hq)]
  rfl
theorem prgI_s {m i : Nat} {f : Row} (hi : i < m) {r : List D} (hr : r = [.int .i64 (f i)]) : Chunk.data 1 ((row m (prgI f i)).set ((i : Nat) : Int).toNat r) = .data 1 (row m (prgI f (i + 1))) := by
  congr 1
  refine arr_of (by rw [List.length_set]; exact arr_len ..) fun q hq => ?_
  rw [Int.toNat_natCast, List.getElem?_set]
  by_cases e : i = q
  · subst e
    rw [if_pos rfl, if_pos (by rw [row_len]; exact hi), hr]
    unfold prgI; rw [if_pos (by omega)]
  · rw [if_neg e, show (row m (prgI f i))[q]? = some [.int .i64 (prgI f i q)] from arr_get hq]
    unfold prgI
    by_cases c : q < i
    · rw [if_pos c, if_pos (by omega)]
    · rw [if_neg c, if_neg (by omega)]
theorem prgI_n {m : Nat} {f : Row} : row m (prgI f m) = row m f := row_ext fun j hj => by unfold prgI; rw [if_pos hj]
end Go.X
