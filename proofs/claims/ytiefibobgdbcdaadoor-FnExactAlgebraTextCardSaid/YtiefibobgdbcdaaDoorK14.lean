import Derived.Test.YtiefibobgdbcdaaDoorK13
import Derived.Test.YtiefibobgdbcdaaDoorK5
import Derived.Lib.Join
set_option linter.all false
namespace Go.X
open Go Go.RowKit
set_option maxRecDepth 100000
theorem digS_size : digS.size = 36 := rfl
theorem smallS_size : smallS.size = 200 := rfl
theorem signS_size : signS.size = 13 := rfl
def by1 (x : Int) : ByteArray := ByteArray.empty.push (UInt8.ofNat x.toNat)
abbrev comma : ByteArray := ⟨#[44]⟩
abbrev colon : ByteArray := ⟨#[58]⟩
def decB (n : Int) : ByteArray := if n < 10 then by1 (48 + n) else by1 (48 + n / 10) ++ by1 (48 + n % 10)
def sgn (x : Int) : Int := if x < 10 then 48 + x else 87 + x
def vtL (v : Nat → Int) (n : Nat) : List (List D) := arr n fun i => [.int .u8 (sgn (v i))]
def vtB (v : Nat → Int) (n : Nat) : ByteArray := strOf (vtL v n)
def tparts (a : Alg) (n k : Nat) : List ByteArray := arr k fun q => vtB (a.T (q / n) (q % n)) n
def joinB (xs : List ByteArray) : ByteArray := ⟨(Lib.join (xs.map (·.data.toList)) comma.data.toList).toArray⟩
def headB (p n : Int) : ByteArray := ((decB p ++ colon) ++ decB n) ++ colon
def textB (a : Alg) : ByteArray := ((headB a.p a.n ++ joinB (tparts a a.n.toNat (a.n.toNat * a.n.toNat))) ++ colon) ++ vtB a.f a.n.toNat
def Sgs (v : Nat → Int) (n : Nat) : Prop := ∀ i, i < n → 0 ≤ v i ∧ v i < 13
theorem vtL_len (v : Nat → Int) (n : Nat) : (vtL v n).length = n := arr_len ..
theorem fpush_size (l : List Int) : ∀ r : ByteArray, (l.foldl (fun r n => r.push (UInt8.ofNat n.toNat)) r).size = r.size + l.length := by
  induction l with
  | nil => intro r; rfl
  | cons x l ih =>
    intro r
    rw [List.foldl_cons, ih, ByteArray.size_push, List.length_cons]; omega
theorem strOf_size (l : List (List D)) : (strOf l).size = l.length := by
  unfold strOf
  rw [fpush_size, List.length_map]
  show 0 + l.length = _
  omega
theorem vtB_size (v : Nat → Int) (n : Nat) : (vtB v n).size = n := by unfold vtB; rw [strOf_size, vtL_len]
theorem byt_vt (v : Nat → Int) (n : Nat) : BytL (vtL v n) := fun r hr => by
  obtain ⟨i, _, rfl⟩ := List.mem_map.1 hr
  exact ⟨_, rfl⟩
theorem byt1 (x : Int) : BytL [[.int .u8 x]] := fun r hr => ⟨x, by simpa using hr⟩
theorem str1 (x : Int) : strOf [[.int .u8 x]] = by1 x := rfl
theorem by1_size (x : Int) : (by1 x).size = 1 := by unfold by1; rw [ByteArray.size_push]; rfl
theorem ba_ext {x y : ByteArray} (h : x.data.toList = y.data.toList) : x = y := by
  obtain ⟨⟨x⟩⟩ := x
  obtain ⟨⟨y⟩⟩ := y
  cases h; rfl
theorem ba_app (x y : ByteArray) : (x ++ y).data.toList = x.data.toList ++ y.data.toList := by
  rw [ByteArray.data_append, Array.toList_append]
theorem ba_assoc (x y z : ByteArray) : (x ++ y) ++ z = x ++ (y ++ z) := ba_ext (by rw [ba_app, ba_app, ba_app, ba_app, List.append_assoc])
theorem ba_size (x y : ByteArray) : (x ++ y).size = x.size + y.size := ByteArray.size_append
theorem joinB_nil : joinB [] = ByteArray.empty := rfl
theorem joinB_one (y : ByteArray) : joinB [y] = y := ba_ext (by
  show (Lib.join [y.data.toList] _).toArray.toList = _
  rw [Lib.join_one])
theorem joinB_snoc {x : ByteArray} {xs : List ByteArray} {y : ByteArray} : joinB ((x :: xs) ++ [y]) = (joinB (x :: xs) ++ comma) ++ y := ba_ext (by
  rw [ba_app, ba_app]
  show (Lib.join (((x :: xs) ++ [y]).map _) _).toArray.toList = (Lib.join ((x :: xs).map _) _).toArray.toList ++ _ ++ _
  simp only [List.cons_append, List.map_cons, List.map_append, List.map_nil, Lib.join_cons, Lib.joinTail, List.map_append, List.flatten_append, List.flatten_cons, List.flatten_nil, List.append_nil, List.append_assoc])
theorem tparts_len (a : Alg) (n k : Nat) : (tparts a n k).length = k := arr_len ..
theorem tparts_s (a : Alg) (n k : Nat) : tparts a n (k + 1) = tparts a n k ++ [vtB (a.T (k / n) (k % n)) n] := arr_succ ..
theorem join_step (a : Alg) (n k : Nat) (hk : 0 < k) : joinB (tparts a n (k + 1)) = (joinB (tparts a n k) ++ comma) ++ vtB (a.T (k / n) (k % n)) n := by
  rw [tparts_s]
  have := tparts_len a n k
  cases h : tparts a n k with
  | nil => rw [h] at this; simp at this; omega
  | cons x xs => exact joinB_snoc
theorem join_step0 (a : Alg) (n : Nat) : joinB (tparts a n 1) = vtB (a.T (0 / n) (0 % n)) n := joinB_one _
theorem join_size (a : Alg) (n : Nat) (hn : n ≤ 6) : ∀ k, (joinB (tparts a n k)).size ≤ 7 * k
  | 0 => Nat.le_refl _
  | 1 => by rw [join_step0, vtB_size]; omega
  | k + 2 => by
    have := join_size a n hn (k + 1)
    rw [join_step a n (k + 1) (by omega), ba_size, ba_size, vtB_size, show comma.size = 1 from rfl]
    omega
theorem decB_size (n : Int) : (decB n).size ≤ 2 := by
  unfold decB
  split
  · rw [by1_size]; omega
  · rw [ba_size, by1_size, by1_size]; omega
def strsL (xs : List ByteArray) : List (List D) := xs.map fun s => [.str s]
theorem strs_app (xs : List ByteArray) (s : ByteArray) : strsL xs ++ [[.str s]] = strsL (xs ++ [s]) := by unfold strsL; rw [List.map_append]; rfl
theorem strs_len (xs : List ByteArray) : (strsL xs).length = xs.length := List.length_map ..
theorem vtL_s (v : Nat → Int) (n : Nat) : vtL v (n + 1) = vtL v n ++ [[.int .u8 (sgn (v n))]] := arr_succ ..
def C_small (P : Program) (N : FN) : Prop := ∀ {n : Int}, 0 ≤ n ∧ n ≤ 13 → Can P N.internal_strconv_small [.int .i64 n] (.val (.str (decB n)))
def C_iFormatInt (P : Program) (N : FN) : Prop := ∀ {n : Int}, 0 ≤ n ∧ n ≤ 13 → Can P N.internal_strconv_FormatInt [.int .i64 n, .int .i64 10] (.val (.str (decB n)))
def C_FormatInt (P : Program) (N : FN) : Prop := ∀ {n : Int}, 0 ≤ n ∧ n ≤ 13 → Can P N.strconv_FormatInt [.int .i64 n, .int .i64 10] (.val (.str (decB n)))
def C_Join (P : Program) (N : FN) : Prop := ∀ {xs : List ByteArray}, xs.length ≤ 1000 → (joinB xs).size ≤ 100000 → Can P N.strings_Join [.lst 1 (strsL xs), .str comma] (.val (.str (joinB xs)))
def C_vText (P : Program) (N : FN) : Prop := ∀ {v : Nat → Int} {n : Nat}, Sgs v n → n ≤ 6 → Can P N.impl_vectorText [vecD v, .int .i64 n] (.val (.str (vtB v n)))
def C_text (P : Program) (N : FN) : Prop := ∀ {sz : Nat} {l : List (List D)} {e off : Nat} {a : Alg}, AlgAt l e off a → AlgOk a → Can P N.impl_Algebra_text [.pd sz l e off] (.val (.str (textB a)))
def C_sDec1 (P : Program) (N : FN) : Prop := ∀ {n : Int}, 0 ≤ n ∧ n ≤ 9 → Can P N.spec_l01Dec [.int .i64 n] (.val (.str (by1 (48 + n))))
def C_sDec (P : Program) (N : FN) : Prop := ∀ {n : Int}, 0 ≤ n ∧ n ≤ 13 → Can P N.spec_l01Dec [.int .i64 n] (.val (.str (decB n)))
def C_sVText (P : Program) (N : FN) : Prop := ∀ {a : Alg} {v : Nat → Int}, Sgs v a.n.toNat → 0 ≤ a.n ∧ a.n ≤ 6 → Can P N.spec_l01VectorText [algD a, vecD v] (.val (.str (vtB v a.n.toNat)))
def C_sText (P : Program) (N : FN) : Prop := ∀ {a : Alg}, AlgOk a → Can P N.spec_l01Text [algD a] (.val (.str (textB a)))
def txtR (a : Alg) (b : Bool) : Res := .tup (if b then [.str (textB a), .int .i64 0] else [.str ⟨#[]⟩, .int .i64 1])
def C_AlgText (P : Program) (N : FN) : Prop := ∀ {a : Alg}, AlgIn a → Can P N.impl_AlgebraText [algD a] (txtR a (dB (IsAlgP a)))
def C_sAlgText (P : Program) (N : FN) : Prop := ∀ {a : Alg}, SAlgIn a → Can P N.spec_AlgebraText [algD a] (txtR a (dB (sAlgP a)))
theorem dig_ex {n : Int} (h : 0 ≤ n ∧ n ≤ 9) : digS.extract n.toNat (n + 1).toNat = decB n := by
  have : n = 0 ∨ n = 1 ∨ n = 2 ∨ n = 3 ∨ n = 4 ∨ n = 5 ∨ n = 6 ∨ n = 7 ∨ n = 8 ∨ n = 9 := by omega
  rcases this with rfl | rfl | rfl | rfl | rfl | rfl | rfl | rfl | rfl | rfl <;> decide +kernel
theorem sml_ex {n : Int} (h : 10 ≤ n ∧ n ≤ 13) : smallS.extract (n * 2).toNat (n * 2 + 2).toNat = decB n := by
  have : n = 10 ∨ n = 11 ∨ n = 12 ∨ n = 13 := by omega
  rcases this with rfl | rfl | rfl | rfl <;> decide +kernel
theorem sign_get {v : Int} (h : 0 ≤ v ∧ v < 13) : signS[v.toNat]? = some (UInt8.ofNat (sgn v).toNat) := by
  have : v = 0 ∨ v = 1 ∨ v = 2 ∨ v = 3 ∨ v = 4 ∨ v = 5 ∨ v = 6 ∨ v = 7 ∨ v = 8 ∨ v = 9 ∨ v = 10 ∨ v = 11 ∨ v = 12 := by omega
  rcases this with rfl | rfl | rfl | rfl | rfl | rfl | rfl | rfl | rfl | rfl | rfl | rfl | rfl <;> decide +kernel
theorem sgn_bd {v : Int} (h : 0 ≤ v ∧ v < 13) : 48 ≤ sgn v ∧ sgn v ≤ 99 := by unfold sgn; split <;> omega
theorem sgn_u8 {v : Int} (h : 0 ≤ v ∧ v < 13) : ((UInt8.ofNat (sgn v).toNat).toNat : Int) = sgn v := by
  have := sgn_bd h
  rw [UInt8.toNat_ofNat']
  omega
theorem ok_sgs {a : Alg} (h : AlgOk a) (i j n : Nat) : Sgs (a.T i j) n := fun k _ => by
  have := prime_bd h.p
  have := h.T i j k
  omega
theorem ok_sgf {a : Alg} (h : AlgOk a) (n : Nat) : Sgs a.f n := fun k _ => by
  have := prime_bd h.p
  have := h.f k
  omega
theorem ar8_add {x y : Int} {K : Int → Prop} (h : 0 ≤ x + y ∧ x + y ≤ 255) (hk : K (x + y)) : Ar.int .add .u8 x y K := by
  refine .mk ?_
  show K (IntKind.wrap .u8 (x + y))
  rw [show IntKind.wrap .u8 (x + y) = x + y by
    simp [IntKind.wrap, IntKind.signed, IntKind.bits]
    omega]
  exact hk
theorem ar8_sub {x y : Int} {K : Int → Prop} (h : 0 ≤ x - y ∧ x - y ≤ 255) (hk : K (x - y)) : Ar.int .sub .u8 x y K := by
  refine .mk ?_
  show K (IntKind.wrap .u8 (x - y))
  rw [show IntKind.wrap .u8 (x - y) = x - y by
    simp [IntKind.wrap, IntKind.signed, IntKind.bits]
    omega]
  exact hk
def nbL (v : Nat → Int) (n : Nat) : List (List D) := arr n fun i => [.int .u8 (v i)]
theorem nb_len (v : Nat → Int) (n : Nat) : (nbL v n).length = n := arr_len ..
theorem nb_get {v : Nat → Int} {n i : Nat} (h : i < n) : get2 (nbL v n) ((i : Nat) : Int).toNat 0 = some (.int .u8 (v i)) := by
  unfold get2 nbL
  rw [Int.toNat_natCast, arr_get h]; rfl
theorem sub_nb {v : Nat → Int} {n : Nat} (hn : n ≤ 6) (i : Nat) (r : List D) (h : (nbL v n)[i]? = some r) : sub2 [vecL v] 0 (0 + ((0 : Int).toNat + i) * 1) 1 = some r := by
  have hi : i < n := by have := (List.getElem?_eq_some_iff.1 h).1; rwa [nb_len] at this
  rw [show (nbL v n)[i]? = some [.int .u8 (v i)] from arr_get hi] at h
  simp only [Option.some.injEq] at h; subst h
  have : i = 0 ∨ i = 1 ∨ i = 2 ∨ i = 3 ∨ i = 4 ∨ i = 5 := by omega
  rcases this with rfl | rfl | rfl | rfl | rfl | rfl <;> rfl
theorem colon_size : (⟨#[58]⟩ : ByteArray).size = 1 := rfl
theorem comma_size : (⟨#[44]⟩ : ByteArray).size = 1 := rfl
theorem tp_s {a : Alg} {m i j : Nat} (hj : j < m) : strsL (tparts a m (i * m + j)) ++ [[.str (vtB (a.T i j) m)]] = strsL (tparts a m (i * m + (j + 1))) := by
  rw [strs_app, ← Nat.add_assoc, tparts_s, Nat.add_comm (i * m) j, Nat.add_mul_div_right _ _ (by omega), Nat.div_eq_of_lt hj, Nat.add_mul_mod_self_right, Nat.mod_eq_of_lt hj, Nat.zero_add]
theorem tx_s {a : Alg} {m i j : Nat} (hj : j < m) (h0 : 0 < i + j) (H : ByteArray) : ((H ++ joinB (tparts a m (i * m + j))) ++ comma) ++ vtB (a.T i j) m = H ++ joinB (tparts a m (i * m + (j + 1))) := by
  have hk : 0 < i * m + j := by
    by_cases hi : i = 0
    · omega
    · have := Nat.mul_pos (Nat.pos_of_ne_zero hi) (show 0 < m by omega)
      omega
  rw [← Nat.add_assoc, join_step a m _ hk, Nat.add_comm (i * m) j, Nat.add_mul_div_right _ _ (by omega), Nat.div_eq_of_lt hj, Nat.add_mul_mod_self_right, Nat.mod_eq_of_lt hj, Nat.zero_add, ba_assoc, ba_assoc, ba_assoc]
theorem ba_emp (H : ByteArray) : H ++ joinB [] = H := ba_ext (by rw [ba_app, joinB_nil]; simp)
theorem tx_0 {a : Alg} {m : Nat} (hm : 0 < m) (H : ByteArray) : (H ++ joinB (tparts a m (0 * m + 0))) ++ vtB (a.T 0 0) m = H ++ joinB (tparts a m (0 * m + (0 + 1))) := by
  rw [Nat.zero_mul, Nat.zero_add, Nat.zero_add, join_step0, Nat.zero_div, Nat.zero_mod]
  rw [show tparts a m 0 = [] from rfl, ba_emp]
theorem tq_le {m i j : Nat} (hm : m ≤ 6) (hi : i < m) (hj : j ≤ m) : i * m + j ≤ 36 := by
  have : i * m ≤ 5 * 6 := Nat.mul_le_mul (by omega) hm
  omega
theorem txt_join {a : Alg} {m : Nat} (hm : m ≤ 6) : (tparts a m (m * m)).length ≤ 1000 ∧ (joinB (tparts a m (m * m))).size ≤ 252 := by
  have : m * m ≤ 6 * 6 := Nat.mul_le_mul hm hm
  have h2 := join_size a m hm (m * m)
  rw [tparts_len]
  omega
end Go.X
