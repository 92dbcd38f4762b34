import Derived.Test.YtckpoeaagbmlbaaGreatK4
import Derived.Test.YtckpoeaagbmlbaaGreatK2
import Derived.Test.YtckpoeaagbmlbaaGreatK3
import Derived.Test.YtckpoeaagbmlbaaGreatX5
set_option linter.all false
namespace Go.X
open Go Go.RowKit
abbrev vsD (m : Nat) (s : Nat → Nat → Int) : D := .lst 6 (arr m fun i => vecL (s i))
def progV (i : Nat) (s : Nat → Nat → Int) : Nat → Nat → Int := fun j => if j < i then s j else Z
theorem get_vecs {m i : Nat} {f : Nat → Nat → Int} (h : i < m) : (arr m fun i => vecL (f i))[((i : Nat) : Int).toNat]? = some (vecL (f i)) := by
  rw [Int.toNat_natCast]; exact arr_get h
theorem rep_vecs {m n : Nat} {s : Nat → Nat → Int} (h : n = m) : Chunk.data 6 (List.replicate ((n : Nat) : Int).toNat [.int .u8 0, .int .u8 0, .int .u8 0, .int .u8 0, .int .u8 0, .int .u8 0]) = Chunk.data 6 (arr m fun i => vecL (progV 0 s i)) := by
  subst h
  rw [Int.toNat_natCast, arr_replicate]
  refine congrArg (Chunk.data 6) (arr_ext fun i _ => ?_)
  unfold progV; rw [if_neg (by omega)]; rfl
theorem st_vecs {m i : Nat} {s : Nat → Nat → Int} (h : i < m) : Chunk.data 6 ((arr m fun j => vecL (progV i s j)).set ((i : Nat) : Int).toNat (splice (vecL (progV i s i)) 0 (vecL (s i)))) = Chunk.data 6 (arr m fun j => vecL (progV (i + 1) s j)) := by
  rw [Int.toNat_natCast, splice_whole (by rw [cel_len, cel_len]), arr_set]
  refine congrArg (Chunk.data 6) (arr_ext fun j _ => ?_)
  unfold upd progV
  by_cases e : j = i
  · subst e; rw [if_pos rfl, if_pos (by omega)]
  · rw [if_neg e]
    dsimp only
    by_cases c : j < i
    · rw [if_pos c, if_pos (by omega)]
    · rw [if_neg c, if_neg (by omega)]
theorem all_vecs {m : Nat} {s : Nat → Nat → Int} : (arr m fun i => vecL (progV m s i)) = arr m fun i => vecL (s i) := arr_ext fun i hi => by unfold progV; rw [if_pos hi]
def AllSm (a : Alg) (m : Nat) (s : Nat → Nat → Int) : Prop := ∀ i, i < m → Small (s i) a.n a.p
def C_szVS (P : Program) (N : FN) : Prop := ∀ {m : Nat} {s : Nat → Nat → Int} {k : Int}, m ≤ 9223372036854775807 → 0 ≤ k ∧ k ≤ 1048576 → Can P N.laws_szVectorS [vsD m s, .int .i64 k] (.val (.int .i64 (if k < m then -1 else k - m)))
def C_toVS (P : Program) (N : FN) : Prop := ∀ {m : Nat} {s : Nat → Nat → Int}, m ≤ 1048576 → Can P N.laws_toVectorS [vsD m s] (.val (vsD m s))
def C_eqVS (P : Program) (N : FN) : Prop := ∀ {m q : Nat} {s t : Nat → Nat → Int}, m ≤ 1048576 → q ≤ 1048576 → Can P N.laws_eqVectorS [vsD m s, vsD q t] (.val (.bool (dB (m = q ∧ ∀ i, i < m → VEq (s i) (t i)))))
def C_valid1 (P : Program) (N : FN) : Prop := ∀ {sz : Nat} {l : List (List D)} {e off : Nat} {a : Alg} {v : Nat → Int}, AlgAt l e off a → Byts v → Can P N.impl_valid_1 [vecD v, .pd sz l e off] (.val (.bool (!decide (Small v a.n a.p))))
def C_validL (P : Program) (N : FN) : Prop := ∀ {a : Alg} {q : Nat} {s : Nat → Nat → Int}, AlgIn a → q ≤ 1000 → (∀ i, Byts (s i)) → Can P N.impl_valid [algD a, vsD q s] (.val (.int .i64 (if dB (IsAlgP a ∧ AllSm a q s) = true then 0 else 1)))
def C_sCodeL (P : Program) (N : FN) : Prop := ∀ {a : Alg} {q : Nat} {s : Nat → Nat → Int}, SAlgIn a → q ≤ 1000 → (∀ i, Byts (s i)) → Can P N.spec_l01Code [algD a, vsD q s] (.val (.int .i64 (if dB (sAlgP a ∧ AllSm a q s) = true then 0 else 1)))
def C_listOk1 (P : Program) (N : FN) : Prop := ∀ {sz : Nat} {l : List (List D)} {e off : Nat} {a : Alg} {v : Nat → Int}, AlgAt l e off a → Byts v → Can P N.impl_Algebra_listOk_1 [vecD v, .pd 1 [[.pd sz l e off]] 0 0] (.val (.bool (!decide (Small v a.n a.p))))
def C_listOk (P : Program) (N : FN) : Prop := ∀ {sz : Nat} {l : List (List D)} {e off : Nat} {a : Alg} {m : Nat} {s : Nat → Nat → Int}, AlgAt l e off a → AlgOk a → m ≤ 1048576 → (∀ i, Byts (s i)) → Can P N.impl_Algebra_listOk [.pd sz l e off, vsD m s] (.val (.bool (dB (m = a.n.toNat ∧ AllSm a m s))))
def lcode (x y : Bool) : Int := if x = true then if y = true then 0 else 2 else 1
def scode (x y z : Bool) : Int := if x = true then if y = true then if z = true then 0 else 5 else 2 else 1
def C_listed (P : Program) (N : FN) : Prop := ∀ {a : Alg} {m q : Nat} {s t : Nat → Nat → Int}, AlgIn a → m ≤ 1048576 → q ≤ 1000 → (∀ i, Byts (s i)) → (∀ i, Byts (t i)) →
  Can P N.impl_listed [algD a, vsD m s, vsD q t] (.val (.int .i64 (lcode (dB (IsAlgP a ∧ AllSm a q t)) (dB (m = a.n.toNat ∧ AllSm a m s)))))
def C_sList (P : Program) (N : FN) : Prop := ∀ {a : Alg} {m q : Nat} {s t : Nat → Nat → Int}, SAlgIn a → m ≤ 1048576 → q ≤ 1000 → (∀ i, Byts (s i)) → (∀ i, Byts (t i)) →
  Can P N.spec_l08List [algD a, vsD m s, vsD q t] (.val (.int .i64 (lcode (dB (sAlgP a ∧ AllSm a q t)) (dB (m = a.n.toNat ∧ AllSm a m s)))))
def C_starredN (P : Program) (N : FN) : Prop := ∀ {sz : Nat} {l : List (List D)} {e off : Nat} {a : Alg} {m : Nat} {z : Nat → Nat → Int} {v : Nat → Int}, AlgAt l e off a → 1 ≤ a.p ∧ a.p ≤ 255 → m ≤ 6 → (∀ i, Byts (z i)) → Byts v → Can P N.impl_Algebra_starred [.pd sz l e off, vsD m z, vecD v] (.val (vecD (zipN a.p z v m)))
def C_sApply (P : Program) (N : FN) : Prop := ∀ {a : Alg} {z : Nat → Nat → Int} {v : Nat → Int}, AlgOk a → (∀ i, Byts (z i)) → Byts v → Can P N.spec_l08Apply [algD a, vsD a.n.toNat z, vecD v] (.val (vecD (zipN a.p z v a.n.toNat)))
def iStar1 (a : Alg) (s : Nat → Nat → Int) (i : Nat) : Prop := VEq (zipN a.p s (s i) a.n.toNat) (basV i) ∧ formV a (s i) = a.f i
def iStar2 (a : Alg) (s : Nat → Nat → Int) (i j : Nat) : Prop := VEq (zipN a.p s (a.T i j) a.n.toNat) (timesV a (s j) (s i))
def iStarP (a : Alg) (s : Nat → Nat → Int) : Prop := ∀ i, i < a.n.toNat → iStar1 a s i ∧ ∀ j, j < a.n.toNat → iStar2 a s i j
def sStar1 (a : Alg) (s : Nat → Nat → Int) (i : Nat) : Prop := VEq (zipN a.p s (s i) a.n.toNat) (basV i) ∧ formV a (s i) = formV a (basV i)
def sStar2 (a : Alg) (s : Nat → Nat → Int) (i j : Nat) : Prop := VEq (zipN a.p s (timesV a (basV i) (basV j)) a.n.toNat) (timesV a (s j) (s i))
def sStarP (a : Alg) (s : Nat → Nat → Int) : Prop := ∀ i, i < a.n.toNat → sStar1 a s i ∧ ∀ j, j < a.n.toNat → sStar2 a s i j
def C_isStar (P : Program) (N : FN) : Prop := ∀ {sz : Nat} {l : List (List D)} {e off : Nat} {a : Alg} {s : Nat → Nat → Int}, AlgAt l e off a → AlgOk a → (∀ i, Byts (s i)) → Can P N.impl_Algebra_isStar [.pd sz l e off, vsD a.n.toNat s] (.val (.bool (dB (iStarP a s))))
def C_sStar (P : Program) (N : FN) : Prop := ∀ {a : Alg} {s : Nat → Nat → Int}, AlgOk a → (∀ i, Byts (s i)) → Can P N.spec_l08Star [algD a, vsD a.n.toNat s] (.val (.bool (dB (sStarP a s))))
def C_stars (P : Program) (N : FN) : Prop := ∀ {a : Alg} {m q : Nat} {s t : Nat → Nat → Int}, AlgIn a → m ≤ 1048576 → q ≤ 1000 → (∀ i, Byts (s i)) → (∀ i, Byts (t i)) →
  Can P N.impl_stars [algD a, vsD m s, vsD q t] (.val (.int .i64 (scode (dB (IsAlgP a ∧ AllSm a q t)) (dB (m = a.n.toNat ∧ AllSm a m s)) (dB (CommP a ∧ FrobP a ∧ iStarP a s)))))
def C_sStars (P : Program) (N : FN) : Prop := ∀ {a : Alg} {m q : Nat} {s t : Nat → Nat → Int}, SAlgIn a → m ≤ 1048576 → q ≤ 1000 → (∀ i, Byts (s i)) → (∀ i, Byts (t i)) →
  Can P N.spec_l08Code [algD a, vsD m s, vsD q t] (.val (.int .i64 (scode (dB (sAlgP a ∧ AllSm a q t)) (dB (m = a.n.toNat ∧ AllSm a m s)) (dB (sCommP a ∧ sFrobP a ∧ sStarP a s)))))
def kleinO (a : Alg) (s : Nat → Nat → Int) (k l : Nat) : Nat → Int := timesV a (s k) (basV l)
def iKlein (a : Alg) (s : Nat → Nat → Int) : Nat → Int := pairR a.p (fun k => (iCop a).getD k Z) (kleinO a s) a.n.toNat (iCop a).length
def sKlein (a : Alg) (s : Nat → Nat → Int) : Nat → Int := pairR a.p (sCop a) (kleinO a s) a.n.toNat a.n.toNat
def C_klein1 (P : Program) (N : FN) : Prop := ∀ {sz : Nat} {l : List (List D)} {e off : Nat} {a : Alg} {m : Nat} {s : Nat → Nat → Int} {k j : Nat}, AlgAt l e off a → AlgOk a → (∀ i, Byts (s i)) → k < m → j < 6 → Can P N.impl_Algebra_klein_1 [.int .i64 k, .int .i64 j, .pd 1 [[.pd sz l e off]] 0 0, .pd 1 [[vsD m s]] 0 0] (.val (vecD (kleinO a s k j)))
def C_klein (P : Program) (N : FN) : Prop := ∀ {sz : Nat} {l : List (List D)} {e off : Nat} {a : Alg} {s : Nat → Nat → Int}, AlgAt l e off a → AlgOk a → (∀ i, Byts (s i)) → Can P N.impl_Algebra_klein [.pd sz l e off, vsD a.n.toNat s] (.val (vecD (iKlein a s)))
def C_sKlein (P : Program) (N : FN) : Prop := ∀ {a : Alg} {s : Nat → Nat → Int}, AlgOk a → (∀ j, j < a.n.toNat → (sCol a j).isSome = true) → (∀ i, Byts (s i)) → Can P N.spec_l08Klein [algD a, vsD a.n.toNat s] (.val (vecD (sKlein a s)))
def crossP (a : Alg) (s : Nat → Nat → Int) (kl t : Nat → Int) : Prop := VEq (timesV a t t) kl ∧ ∀ i, i < a.n.toNat → VEq (zipN a.p s (timesV a t (basV i)) a.n.toNat) (timesV a t (basV i))
def C_crossCap (P : Program) (N : FN) : Prop := ∀ {sz : Nat} {l : List (List D)} {e off : Nat} {a : Alg} {s : Nat → Nat → Int} {kl t : Nat → Int}, AlgAt l e off a → AlgOk a → (∀ i, Byts (s i)) → Byts t → Can P N.impl_Algebra_crossCap [.pd sz l e off, vsD a.n.toNat s, vecD kl, vecD t] (.val (.bool (dB (crossP a s kl t))))
def C_sCrossCap (P : Program) (N : FN) : Prop := ∀ {a : Alg} {s : Nat → Nat → Int} {kl t : Nat → Int}, AlgOk a → (∀ i, Byts (s i)) → Byts t → Can P N.spec_l08CrossCap [algD a, vsD a.n.toNat s, vecD t, vecD kl] (.val (.bool (dB (crossP a s kl t))))
end Go.X
namespace Go.X
open Go Go.RowKit
end Go.X
namespace Go.X
open Go Go.RowKit
def AllU8 (c : Nat) (e : Ty) : Prop := ∀ ys, e.Has ys → ∃ f : Nat → Int, ys = cel .u8 c f ∧ Byts f
theorem allU8_int : AllU8 1 (.int .u8) := fun ys h => by
  obtain ⟨n, rfl, hw⟩ := h
  have := bounds_u8 hw
  exact ⟨fun _ => n, rfl, fun _ => this⟩
theorem cel_append {k : IntKind} {a b : Nat} {f g : Nat → Int} : cel k a f ++ cel k b g = cel k (a + b) fun i => if i < a then f i else g (i - a) := by
  refine arr_of (by simp [cel_len]) fun i hi => ?_
  rcases Nat.lt_or_ge i a with h | h
  · rw [List.getElem?_append_left (by rw [cel_len]; exact h), cel_get h]; simp [h]
  · rw [List.getElem?_append_right (by rw [cel_len]; exact h), cel_len, cel_get (by omega)]; simp [show ¬ i < a by omega]
theorem flat_u8 {c : Nat} : ∀ {yss : List (List D)}, (∀ ys ∈ yss, ∃ f : Nat → Int, ys = cel .u8 c f ∧ Byts f) → ∃ f : Nat → Int, yss.flatten = cel .u8 (yss.length * c) f ∧ Byts f
  | [], _ => ⟨fun _ => 0, by simp [cel, arr], fun _ => by show (0:Int) ≤ 0 ∧ (0:Int) ≤ 255; omega⟩
  | y :: r, h => by
    obtain ⟨f, rfl, hf⟩ := h y (List.mem_cons_self ..)
    obtain ⟨g, h2, hg⟩ := flat_u8 fun ys hy => h ys (List.mem_cons_of_mem _ hy)
    refine ⟨fun i => if i < c then f i else g (i - c), ?_, fun i => ?_⟩
    · rw [List.flatten_cons, h2, cel_append, List.length_cons, Nat.succ_mul, Nat.add_comm]
    · dsimp only; split
      · exact hf _
      · exact hg _
theorem allU8_arr {c n : Nat} {e : Ty} (h : AllU8 c e) : AllU8 (n * c) (.arr n e) := fun ys hy => by
  obtain ⟨yss, rfl, rfl, hy⟩ := hy
  exact flat_u8 fun ys hm => h ys (hy ys hm)
def tyVec : Ty := .arr 6 (.int .u8)
def tyTab : Ty := .arr 6 (.arr 6 (.arr 6 (.int .u8)))
def tyAlg : Ty := .st [.int .i64, .int .i64, tyTab, tyVec]
theorem arg_vec {d : D} (h : tyVec.arg d) : ∃ v, d = vecD v ∧ Byts v := by
  obtain ⟨xs, rfl, h⟩ := h
  obtain ⟨f, rfl, hf⟩ := allU8_arr allU8_int _ h
  exact ⟨f, rfl, hf⟩
def I64 (x : Int) : Prop := -9223372036854775808 ≤ x ∧ x ≤ 9223372036854775807
theorem arg_i64 {d : D} (h : (Ty.int .i64).arg d) : ∃ n, d = .int .i64 n ∧ I64 n := by
  obtain ⟨n, h, hw⟩ := h
  simp only [List.cons.injEq, and_true] at h
  exact ⟨n, h, bounds_i64 hw⟩
theorem has_alg {xs : List D} (h : tyAlg.Has xs) : ∃ a : Alg, xs = algL a ∧ AlgIn a ∧ I64 a.p ∧ I64 a.n := by
  obtain ⟨_, _, rfl, ⟨p, rfl, hp⟩, _, _, rfl, ⟨n, rfl, hn⟩, _, _, rfl, hT, _, _, rfl, hF, rfl⟩ := h
  obtain ⟨T, rfl, bT⟩ := allU8_arr (n := 6) (allU8_arr (n := 6) (allU8_arr (n := 6) allU8_int)) _ hT
  obtain ⟨F, rfl, bF⟩ := allU8_arr (n := 6) allU8_int _ hF
  let a : Alg := ⟨p, n, fun i j k => if i < 6 ∧ j < 6 ∧ k < 6 then T (i * 36 + j * 6 + k) else 0, fun i => if i < 6 then F i else 0⟩
  have aT : ∀ i j k, i < 6 → j < 6 → k < 6 → a.T i j k = T (i * 36 + j * 6 + k) := fun i j k hi hj hk => if_pos ⟨hi, hj, hk⟩
  have aF : ∀ i, i < 6 → a.f i = F i := fun i hi => if_pos hi
  have bB : AlgB a := by
    refine ⟨fun i j k => ?_, fun i => ?_⟩
    · show 0 ≤ (if _ then _ else (0 : Int)) ∧ (if _ then _ else (0 : Int)) ≤ 255
      split
      · exact bT _
      · omega
    · show 0 ≤ (if _ then _ else (0 : Int)) ∧ (if _ then _ else (0 : Int)) ≤ 255
      split
      · exact bF _
      · omega
  refine ⟨a, ?_, ⟨bB, fun hp hn hT => ?_⟩, bounds_i64 hp, bounds_i64 hn⟩
  · refine arr_of (by simp [cel_len]) fun q hq => ?_
    unfold algF
    by_cases c0 : q = 0
    · subst c0; rfl
    by_cases c1 : q = 1
    · subst c1; rfl
    rw [if_neg c0, if_neg c1]
    rw [List.getElem?_append_right (by simp; omega), List.getElem?_append_right (by simp; omega)]
    simp only [List.length_cons, List.length_nil]
    by_cases c2 : q < 218
    · rw [List.getElem?_append_left (by rw [cel_len]; omega), cel_get (by omega), if_pos c2]
      have e : a.T ((q - 2) / 36) ((q - 2) / 6 % 6) ((q - 2) % 6) = T (q - 2) := by
        rw [aT _ _ _ (by omega) (by omega) (by omega)]; congr 1; omega
      rw [e, Nat.sub_sub]
    · rw [List.getElem?_append_right (by rw [cel_len]; omega), List.append_nil, cel_len, cel_get (by omega), if_neg c2]
      rw [aF _ (by omega)]; congr 3
  · have hp2 := prime_bd hp
    refine ⟨hp, hn, fun i j k => ⟨(bB.1 i j k).1, ?_⟩, fun i => ⟨(bB.2 i).1, ?_⟩, fun i j k h => ?_, fun i h => ?_⟩
    · by_cases c : i < 6 ∧ j < 6 ∧ k < 6
      · exact ((hT.1 i j c.1 c.2.1).1 k c.2.2).1
      · show (if i < 6 ∧ j < 6 ∧ k < 6 then _ else (0 : Int)) < _
        rw [if_neg c]; omega
    · by_cases c : i < 6
      · exact (hT.2 i c).1
      · show (if i < 6 then _ else (0 : Int)) < _
        rw [if_neg c]; omega
    · by_cases c : i < 6 ∧ j < 6 ∧ k < 6
      · rcases h with h | h | h
        · exact (hT.1 i j c.1 c.2.1).2 (.inl h) k c.2.2
        · exact (hT.1 i j c.1 c.2.1).2 (.inr h) k c.2.2
        · exact ((hT.1 i j c.1 c.2.1).1 k c.2.2).2 h
      · show (if i < 6 ∧ j < 6 ∧ k < 6 then _ else (0 : Int)) = 0
        rw [if_neg c]
    · by_cases c : i < 6
      · exact (hT.2 i c).2 h
      · show (if i < 6 then _ else (0 : Int)) = 0
        rw [if_neg c]
theorem arg_alg {d : D} (h : tyAlg.arg d) : ∃ a : Alg, d = algD a ∧ AlgIn a ∧ I64 a.p ∧ I64 a.n := by
  obtain ⟨xs, rfl, h⟩ := h
  obtain ⟨a, rfl, ha⟩ := has_alg h
  exact ⟨a, rfl, ha⟩
theorem AlgIn.s {a : Alg} (h : AlgIn a) : SAlgIn a := ⟨h.b, fun hs => by
  obtain ⟨h1, h2, h3⟩ := shape_iff.1 hs
  exact h.ok h1 h2 h3⟩
theorem PrIn.s {x : Pr} (h : PrIn x) : SPrIn x := ⟨h.c.s, h.o.s, h.z⟩
end Go.X
