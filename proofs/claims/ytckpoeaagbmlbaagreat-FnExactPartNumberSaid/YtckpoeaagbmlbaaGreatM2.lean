import Derived.Test.YtckpoeaagbmlbaaGreatM1
set_option linter.all false
namespace Go.X
open Go Go.RowKit
def Bd (B : Int) (r : Row) : Prop := ∀ i, 0 ≤ r i ∧ r i ≤ B
theorem Rw.bd {p : Int} {r : Row} (h : Rw p r) (hp : p ≤ 1000) : Bd 1000 r := fun i => by have := h i; omega
def C_n (P : Program) (N : FN) : Prop := ∀ {sz : Nat} {l : List (List D)} {e off : Nat} {a : Alg}, AlgAt l e off a → Can P N.impl_Algebra_n [.pd sz l e off] (.val (.int .i64 a.n))
def C_in (P : Program) (N : FN) : Prop := ∀ {n lo hi : Int}, Can P N.impl_in [.int .i64 n, .int .i64 lo, .int .i64 hi] (.val (.bool (decide (lo ≤ n ∧ n ≤ hi))))
def C_sIn (P : Program) (N : FN) : Prop := ∀ {n lo hi : Int}, Can P N.spec_l01In [.int .i64 n, .int .i64 lo, .int .i64 hi] (.val (.bool (decide (lo ≤ n ∧ n ≤ hi))))
def C_Index (P : Program) (N : FN) : Prop := ∀ {m : Nat} {f : Nat → Int} {x : Int}, m ≤ 1000000 → Can P N.slices_Index_Lint64_int64 [rowD m f, .int .i64 x] (.val (.int .i64 (idxF (fun i => f i == x) m)))
def C_Contains (P : Program) (N : FN) : Prop := ∀ {m : Nat} {f : Nat → Int} {x : Int}, m ≤ 1000000 → Can P N.slices_Contains_Lint64_int64 [rowD m f, .int .i64 x] (.val (.bool (decide (0 ≤ idxF (fun i => f i == x) m))))
def C_isPrime (P : Program) (N : FN) : Prop := ∀ {p : Int}, Can P N.impl_isPrime [.int .i64 p] (.val (.bool (decide (p ∈ primes))))
def C_sPrime (P : Program) (N : FN) : Prop := ∀ {p : Int}, Can P N.spec_l01Prime [.int .i64 p] (.val (.bool (decide (p ∈ primes))))
def C_rest (P : Program) (N : FN) : Prop := ∀ {x p : Int}, -1000000000000 ≤ x ∧ x ≤ 1000000000000 → 1 ≤ p ∧ p ≤ 1000 → Can P N.impl_rest [.int .i64 x, .int .i64 p] (.val (.int .i64 (x % p)))
def C_sMod (P : Program) (N : FN) : Prop := ∀ {x p : Int}, -1000000000000 ≤ x ∧ x ≤ 1000000000000 → 1 ≤ p ∧ p ≤ 1000 → Can P N.spec_l01Mod [.int .i64 p, .int .i64 x] (.val (.int .i64 (x % p)))
def C_power (P : Program) (N : FN) : Prop := ∀ {x k p : Int}, 0 ≤ x ∧ x ≤ 1000 → 0 ≤ k ∧ k ≤ 1000000 → 1 ≤ p ∧ p ≤ 1000 → Can P N.impl_power [.int .i64 x, .int .i64 k, .int .i64 p] (.val (.int .i64 (powR x p k.toNat)))
def C_inverse (P : Program) (N : FN) : Prop := ∀ {x p : Int}, p ∈ primes → 0 < x ∧ x < p → Can P N.impl_inverse [.int .i64 x, .int .i64 p] (.val (.int .i64 (invF p x)))
def C_sInverse (P : Program) (N : FN) : Prop := ∀ {x p : Int}, 2 ≤ p ∧ p ≤ 1000 → -1000000000 ≤ x ∧ x ≤ 1000000000 → Can P N.spec_l01Inverse [.int .i64 p, .int .i64 x] (.val (.int .i64 (invF p x)))
def C_isVector (P : Program) (N : FN) : Prop := ∀ {v : Nat → Int} {n p : Int}, Byts v → Can P N.impl_isVector [vecD v, .int .i64 n, .int .i64 p] (.val (.bool (decide (Small v n p))))
def C_sSmall (P : Program) (N : FN) : Prop := ∀ {v : Nat → Int} {n p : Int}, Byts v → Can P N.spec_l01Small [.int .i64 p, .int .i64 n, vecD v] (.val (.bool (decide (Small v n p))))
def C_sVector (P : Program) (N : FN) : Prop := ∀ {a : Alg} {v : Nat → Int}, Byts v → Can P N.spec_l01Vector [algD a, vecD v] (.val (.bool (decide (Small v a.n a.p))))
def C_basis (P : Program) (N : FN) : Prop := ∀ {i : Nat}, i < 6 → Can P N.impl_basis [.int .i64 i] (.val (vecD (basV i)))
def C_sBasis (P : Program) (N : FN) : Prop := ∀ {i : Nat}, i < 6 → Can P N.spec_l01Basis [.int .i64 i] (.val (vecD (basV i)))
def C_add (P : Program) (N : FN) : Prop := ∀ {sz : Nat} {l : List (List D)} {e off : Nat} {a : Alg} {v w : Nat → Int} {k : Int}, AlgAt l e off a → Byts v → Byts w → 1 ≤ a.p ∧ a.p ≤ 255 → 0 ≤ k ∧ k ≤ 1000 →
  Can P N.impl_Algebra_add [.pd sz l e off, vecD v, vecD w, .int .i64 k] (.val (vecD (addV a.p k v w)))
def C_form (P : Program) (N : FN) : Prop := ∀ {sz : Nat} {l : List (List D)} {e off : Nat} {a : Alg} {v : Nat → Int}, AlgAt l e off a → AlgB a → Byts v → 1 ≤ a.p → Can P N.impl_Algebra_form [.pd sz l e off, vecD v] (.val (.int .i64 (formV a v)))
def C_sForm (P : Program) (N : FN) : Prop := ∀ {a : Alg} {v : Nat → Int}, AlgB a → Byts v → 1 ≤ a.p → Can P N.spec_l01Form [algD a, vecD v] (.val (.int .i64 (formV a v)))
def C_scaled (P : Program) (N : FN) : Prop := ∀ {m : Nat} {r : Row} {k p : Int}, m ≤ 1000000 → Bd 1000 r → 0 ≤ k ∧ k ≤ 1000 → 1 ≤ p ∧ p ≤ 1000 → Can P N.impl_scaled [rowD m r, .int .i64 k, .int .i64 p] (.val (rowD m (scaleR p k r)))
def C_lessTimes (P : Program) (N : FN) : Prop := ∀ {m : Nat} {r o : Row} {k p : Int}, m ≤ 1000000 → Bd 1000 r → Bd 1000 o → 0 ≤ k ∧ k ≤ 1000 → 1 ≤ p ∧ p ≤ 1000 → Can P N.impl_lessTimes [rowD m r, rowD m o, .int .i64 k, .int .i64 p] (.val (rowD m (lessR p k r o)))
def C_sLess (P : Program) (N : FN) : Prop := ∀ {m : Nat} {r o : Row} {k p : Int}, m ≤ 1000000 → Bd 1000 r → Bd 1000 o → 0 ≤ k ∧ k ≤ 1000 → 1 ≤ p ∧ p ≤ 1000 → Can P N.spec_l01Less [.int .i64 p, rowD m r, rowD m o, .int .i64 k] (.val (rowD m (lessR p k r o)))
def C_sOwn (P : Program) (N : FN) : Prop := ∀ {m : Nat} {r : Row}, m ≤ 1000000 → Can P N.spec_l01Own [rowD m r] (.own 1 (row m r))
def C_sLead (P : Program) (N : FN) : Prop := ∀ {m : Nat} {r : Row}, m ≤ 1000000 → Can P N.spec_l01Lead [rowD m r] (.val (.int .i64 (leadF m r)))
def C_IdxInt (P : Program) (N : FN) : Prop := ∀ {m : Nat} {f : Row} {g : FuncId} {q : Nat → Bool}, m ≤ 1000000 → (∀ i, i < m → Can P g [.int .i64 (f i)] (.val (.bool (q i)))) → Can P N.slices_IndexFunc_Lint64_int64 [rowD m f, .fn g [] []] (.val (.int .i64 (idxF q m)))
def C_leader1 (P : Program) (N : FN) : Prop := ∀ {x : Int}, Can P N.impl_leader_1 [.int .i64 x] (.val (.bool (x != 0)))
def C_leader (P : Program) (N : FN) : Prop := ∀ {m : Nat} {r : Row}, m ≤ 1000000 → Can P N.impl_leader [rowD m r] (.val (.int .i64 (leadF m r)))
def C_IdxRows (P : Program) (N : FN) : Prop := ∀ {m : Nat} {L : List Row} {g : FuncId} {c : D} {q : Nat → Bool}, L.length ≤ 1000000 → (∀ i, i < L.length → Can P g [rowD m (L.getD i Z), c] (.val (.bool (q i)))) → Can P N.slices_IndexFunc_LLint64_Lint64 [rowsD m L, .fn g [] [c]] (.val (.int .i64 (idxF q L.length)))
def C_reduce1 (P : Program) (N : FN) : Prop := ∀ {m c : Nat} {r : Row}, c < m → Can P N.impl_reduce_1 [rowD m r, .pd 1 [[.int .i64 c]] 0 0] (.val (.bool (r c != 0)))
def C_Clone (P : Program) (N : FN) : Prop := ∀ {l : List (List D)}, 0 < l.length ∧ l.length ≤ 1000000 → Can P N.slices_Clone_LLint64_Lint64 [.lst 1 l] (.own 1 l)
def C_Delete (P : Program) (N : FN) : Prop := ∀ {l : List (List D)} {i j : Nat}, i < j ∧ j ≤ l.length ∧ l.length ≤ 1000000 → Can P N.slices_Delete_LLint64_Lint64 [.ownA 1 l, .int .i64 i, .int .i64 j] (.post none (.own 1 (l.take i ++ l.drop j)))
def C_times (P : Program) (N : FN) : Prop := ∀ {sz : Nat} {l : List (List D)} {e off : Nat} {a : Alg} {v w : Nat → Int}, AlgAt l e off a → AlgB a → Byts v → Byts w → 1 ≤ a.p ∧ a.p ≤ 255 → 0 ≤ a.n ∧ a.n ≤ 6 →
  Can P N.impl_Algebra_times [.pd sz l e off, vecD v, vecD w] (.val (vecD (timesV a v w)))
def C_sTimes (P : Program) (N : FN) : Prop := ∀ {a : Alg} {v w : Nat → Int}, AlgB a → Byts v → Byts w → 1 ≤ a.p ∧ a.p ≤ 255 → 0 ≤ a.n ∧ a.n ≤ 6 → Can P N.spec_l01Times [algD a, vecD v, vecD w] (.val (vecD (timesV a v w)))
def C_vector (P : Program) (N : FN) : Prop := ∀ {m : Nat} {r : Row}, m ≤ 6 → Bd 255 r → Can P N.impl_vector [rowD m r] (.val (vecD (vecR m r)))
def C_vectorE (P : Program) (N : FN) : Prop := Can P N.impl_vector [.emp] (.val (vecD Z))
def C_reduce (P : Program) (N : FN) : Prop := ∀ {m : Nat} {L : List Row} {p : Int}, m ≤ 1000 → L.length ≤ 1000 → p ∈ primes → RwL p L → Can P N.impl_reduce [rowsD m L, .int .i64 p] (.val (rowsD m (redF p m L)))
def C_sLessO (P : Program) (N : FN) : Prop := ∀ {m : Nat} {r o : Row} {k p : Int}, m ≤ 1000000 → Bd 1000 r → Bd 1000 o → 0 ≤ k ∧ k ≤ 1000 → 1 ≤ p ∧ p ≤ 1000 → Can P N.spec_l01Less [.int .i64 p, rowD m r, rowD m o, .int .i64 k] (.own 1 (row m (lessR p k r o)))
def C_sEchelon (P : Program) (N : FN) : Prop := ∀ {m : Nat} {L : List Row} {p : Int}, m ≤ 1000 → L.length ≤ 1000 → p ∈ primes → RwL p L → Can P N.spec_l01Echelon [.int .i64 p, rowsD m L] (.val (rowsD m (echF p m L)))
def C_sSolve (P : Program) (N : FN) : Prop := ∀ {n : Nat} {L : List Row} {p : Int}, n ≤ 900 → L.length ≤ 1000 → p ∈ primes → RwL p L → Can P N.spec_l01Solve [.int .i64 p, rowsD (n + 1) L] (solD n (sSolveF p n L))
def C_sCommutative (P : Program) (N : FN) : Prop := ∀ {a : Alg}, Can P N.spec_l01Commutative [algD a] (.val (.bool (decide (∀ i : Nat, i < 6 → ∀ j : Nat, j < i → VEq (a.T i j) (a.T j i)))))
def C_sShape (P : Program) (N : FN) : Prop := ∀ {a : Alg}, AlgB a → Can P N.spec_l01Shape [algD a] (.val (.bool (dB (ShapeP a))))
def optD : Option (Nat → Int) → Res
  | none => .tup [vecD Z, .bool false]
  | some u => .tup [vecD u, .bool true]
structure AlgOk (a : Alg) : Prop where
  p : a.p ∈ primes
  n : 1 ≤ a.n ∧ a.n ≤ 6
  T : ∀ i j k, 0 ≤ a.T i j k ∧ a.T i j k < a.p
  f : ∀ i, 0 ≤ a.f i ∧ a.f i < a.p
  z : ∀ i j k : Nat, a.n ≤ (i : Int) ∨ a.n ≤ (j : Int) ∨ a.n ≤ (k : Int) → a.T i j k = 0
  fz : ∀ i : Nat, a.n ≤ (i : Int) → a.f i = 0
theorem AlgOk.b {a : Alg} (h : AlgOk a) : AlgB a := by
  have := prime_bd h.p
  exact ⟨fun i j k => by have := h.T i j k; omega, fun i => by have := h.f i; omega⟩
def C_sFind (P : Program) (N : FN) : Prop := ∀ {a : Alg}, AlgOk a → Can P N.spec_l01Find [algD a] (optD (findF a))
def C_sUnit (P : Program) (N : FN) : Prop := ∀ {a : Alg}, AlgOk a → Can P N.spec_l01Unit [algD a] (.val (vecD ((findF a).getD Z)))
def C_sAlgebra (P : Program) (N : FN) : Prop := ∀ {a : Alg}, AlgB a → (ShapeP a → AlgOk a) → Can P N.spec_l01Algebra [algD a] (.val (.bool (dB (ShapeP a ∧ AssocP a ∧ (findF a).isSome = true))))
def TabP (a : Alg) : Prop := (∀ i j : Nat, i < 6 → j < 6 → Small (a.T i j) a.n a.p ∧ (a.n ≤ (i : Int) ∨ a.n ≤ (j : Int) → VEq (a.T i j) Z)) ∧ Small a.f a.n a.p
def C_tableOk (P : Program) (N : FN) : Prop := ∀ {sz : Nat} {l : List (List D)} {e off : Nat} {a : Alg}, AlgAt l e off a → AlgB a → Can P N.impl_Algebra_tableOk [.pd sz l e off] (.val (.bool (dB (TabP a))))
def C_associative (P : Program) (N : FN) : Prop := ∀ {sz : Nat} {l : List (List D)} {e off : Nat} {a : Alg}, AlgAt l e off a → AlgOk a → Can P N.impl_Algebra_associative [.pd sz l e off] (.val (.bool (dB (AssocP a))))
def CommP (a : Alg) : Prop := ∀ i j : Nat, (i : Int) < a.n → j < i → VEq (a.T i j) (a.T j i)
def C_commutative (P : Program) (N : FN) : Prop := ∀ {sz : Nat} {l : List (List D)} {e off : Nat} {a : Alg}, AlgAt l e off a → 1 ≤ a.n ∧ a.n ≤ 6 → Can P N.impl_Algebra_commutative [.pd sz l e off] (.val (.bool (dB (CommP a))))
def tabR (a : Alg) (i : Nat) : Row := fun j => formV a (a.T i j)
def tabL (a : Alg) (n : Nat) : List Row := arr n (tabR a)
def C_table (P : Program) (N : FN) : Prop := ∀ {sz : Nat} {l : List (List D)} {e off : Nat} {a : Alg}, AlgAt l e off a → AlgOk a → Can P N.impl_Algebra_table [.pd sz l e off] (.val (rowsD a.n.toNat (tabL a a.n.toNat)))
def C_frobenius (P : Program) (N : FN) : Prop := ∀ {sz : Nat} {l : List (List D)} {e off : Nat} {a : Alg}, AlgAt l e off a → AlgOk a → Can P N.impl_Algebra_frobenius [.pd sz l e off] (.val (.bool (decide (((redF a.p a.n.toNat (tabL a a.n.toNat)).length : Int) = a.n))))
theorem sumN_one {f : Nat → Int} {i : Nat} : ∀ {n : Nat}, i < n → (∀ j, j ≠ i → f j = 0) → sumN n f = f i
  | n + 1, hi, h => by
    simp only [sumN]
    by_cases e : i = n
    · subst e
      rw [sumN_zero fun j hj => h j (by omega)]; omega
    · rw [sumN_one (show i < n by omega) h, h n (by omega)]; omega
theorem tsum_bas (a : Alg) {i j k : Nat} (hi : (i : Int) < a.n) (hj : (j : Int) < a.n) : tsum a (basV i) (basV j) k a.n.toNat = a.T i j k := by
  unfold tsum
  rw [sumN_one (i := i) (by omega) fun i' h => by
    refine sumN_zero fun j' _ => ?_
    simp [basV, h]]
  rw [sumN_one (i := j) (by omega) fun j' h => by simp [basV, h]]
  simp [basV]
theorem bas_times {a : Alg} (ha : AlgOk a) {i j : Nat} (hi : (i : Int) < a.n) (hj : (j : Int) < a.n) (k : Nat) : timesV a (basV i) (basV j) k = a.T i j k := by
  unfold timesV
  split
  · rw [tsum_bas a hi hj]; exact Int.emod_eq_of_lt (ha.T i j k).1 (ha.T i j k).2
  · rw [ha.z i j k (by omega)]
def C_sFrobenius (P : Program) (N : FN) : Prop := ∀ {a : Alg}, AlgOk a → Can P N.spec_l01Frobenius [algD a] (.val (.bool (decide (((echF a.p a.n.toNat (tabL a a.n.toNat)).length : Int) = a.n))))
theorem tabR_rw {a : Alg} (ha : AlgOk a) (i : Nat) : Rw a.p (tabR a i) := fun j => by
  have := prime_bd ha.p
  exact mod_bd _ (by omega)
theorem tabL_rw {a : Alg} (ha : AlgOk a) (n : Nat) : RwL a.p (tabL a n) := fun r hr => by
  simp only [tabL, arr, List.mem_map] at hr
  obtain ⟨i, _, rfl⟩ := hr
  exact tabR_rw ha i
theorem tabL_len (a : Alg) (n : Nat) : (tabL a n).length = n := arr_len ..
def nestC (f : Nat → List (List D)) : Nat → Chunk
  | 0 => .data 1 []
  | n + 1 => .nest 1 (arr (n + 1) f) none
theorem nest_put0 {f : Nat → List (List D)} {x y : List (List D)} (hy : y = f 0) : Chunk.nest 1 (([x] : List (List (List D))).set 0 y) none = nestC f 1 := by subst hy; rfl
theorem nest_put {f : Nat → List (List D)} {n : Nat} {x y : List (List D)} (hy : y = f (n + 1)) : Chunk.nest 1 ((arr (n + 1) f ++ [x]).set (arr (n + 1) f).length y) none = nestC f (n + 2) := by
  subst hy
  show _ = Chunk.nest 1 (arr (n + 2) f) none
  rw [arr_succ (n + 1)]
  congr 1
  rw [List.set_append_right _ _ (Nat.le_refl _), Nat.sub_self]; rfl
theorem nestD_rows {m n : Nat} {f : Nat → Row} : nestD 1 (arr n fun i => row m (f i)) = rowsL m (arr n f) := by
  unfold nestD rowsL; rw [arr_map, arr_map]
def iSolveF (p : Int) (n : Nat) (L : List Row) : Option Row := solN n (redF p (n + 1) L) (redF p (n + 1) L).length
def C_solve (P : Program) (N : FN) : Prop := ∀ {n : Nat} {L : List Row} {p : Int}, n ≤ 900 → L.length ≤ 1000 → p ∈ primes → RwL p L → Can P N.impl_solve [rowsD (n + 1) L, .int .i64 n, .int .i64 p] (solD n (iSolveF p n L))
def fnBehind (N : FN) (sz : Nat) (l : List (List D)) (e off : Nat) (w : Nat → Int) : D := .fn N.impl_Algebra_behind_1 [] [.pd 1 [[.pd sz l e off]] 0 0, .pd 6 [vecL w] 0 0]
def fnAhead (N : FN) (sz : Nat) (l : List (List D)) (e off : Nat) (w : Nat → Int) : D := .fn N.impl_Algebra_ahead_1 [] [.pd 1 [[.pd sz l e off]] 0 0, .pd 6 [vecL w] 0 0]
def C_behind (P : Program) (N : FN) : Prop := ∀ {sz : Nat} {l : List (List D)} {e off : Nat} {w : Nat → Int}, Can P N.impl_Algebra_behind [.pd sz l e off, vecD w] (.val (fnBehind N sz l e off w))
def C_ahead (P : Program) (N : FN) : Prop := ∀ {sz : Nat} {l : List (List D)} {e off : Nat} {w : Nat → Int}, Can P N.impl_Algebra_ahead [.pd sz l e off, vecD w] (.val (fnAhead N sz l e off w))
def C_behind1 (P : Program) (N : FN) : Prop := ∀ {sz : Nat} {l : List (List D)} {e off : Nat} {a : Alg} {v w : Nat → Int}, AlgAt l e off a → AlgOk a → Byts v → Byts w → Can P N.impl_Algebra_behind_1 [vecD v, .pd 1 [[.pd sz l e off]] 0 0, .pd 6 [vecL w] 0 0] (.val (vecD (timesV a v w)))
def C_ahead1 (P : Program) (N : FN) : Prop := ∀ {sz : Nat} {l : List (List D)} {e off : Nat} {a : Alg} {v w : Nat → Int}, AlgAt l e off a → AlgOk a → Byts v → Byts w → Can P N.impl_Algebra_ahead_1 [vecD v, .pd 1 [[.pd sz l e off]] 0 0, .pd 6 [vecL w] 0 0] (.val (vecD (timesV a w v)))
def mapsL (m : Nat) (g : Nat → FuncId) (c d : Nat → D) : List (List D) := arr m fun q => [.fn (g q) [] [c q, d q]]
def eqR (M : Nat → Nat → Nat → Int) (n r : Nat) : Row := fun i => M (r / n) i (r % n)
def C_equations (P : Program) (N : FN) : Prop := ∀ {sz : Nat} {l : List (List D)} {e off : Nat} {a : Alg} {m : Nat} {g : Nat → FuncId} {c d : Nat → D} {M : Nat → Nat → Nat → Int}, AlgAt l e off a → AlgOk a → 1 ≤ m ∧ m ≤ 100 → (∀ q i k, 0 ≤ M q i k ∧ M q i k ≤ 255) →
  (∀ q i : Nat, q < m → i < a.n.toNat → Can P (g q) [vecD (basV i), c q, d q] (.val (vecD (M q i)))) → Can P N.impl_Algebra_equations [.pd sz l e off, .lst 1 (mapsL m g c d)] (.ownN 1 (arr (m * a.n.toNat) fun r => row a.n.toNat (eqR M a.n.toNat r)))
def fullR (M : Nat → Nat → Nat → Int) (tg : Nat → Nat → Int) (n r : Nat) : Row := fun i => if i < n then M (r / n) i (r % n) else tg (r / n) (r % n)
def solvedF (p : Int) (n m : Nat) (M : Nat → Nat → Nat → Int) (tg : Nat → Nat → Int) : Option (Nat → Int) := (iSolveF p n (arr (m * n) (fullR M tg n))).map (vecR n)
def C_solved (P : Program) (N : FN) : Prop := ∀ {sz : Nat} {l : List (List D)} {e off : Nat} {a : Alg} {m : Nat} {g : Nat → FuncId} {c d : Nat → D} {M : Nat → Nat → Nat → Int} {tg : Nat → Nat → Int}, AlgAt l e off a → AlgOk a → 1 ≤ m ∧ m ≤ 100 → (∀ q i k, 0 ≤ M q i k ∧ M q i k < a.p) → (∀ q k, 0 ≤ tg q k ∧ tg q k < a.p) →
  (∀ q i : Nat, q < m → i < a.n.toNat → Can P (g q) [vecD (basV i), c q, d q] (.val (vecD (M q i)))) → Can P N.impl_Algebra_solved [.pd sz l e off, .lst 6 (arr m fun q => vecL (tg q)), .lst 1 (mapsL m g c d)] (optD (solvedF a.p a.n.toNat m M tg))
def uM (a : Alg) (q i : Nat) : Nat → Int := if q % 2 = 0 then timesV a (basV i) (basV (q / 2)) else timesV a (basV (q / 2)) (basV i)
def uT (q : Nat) : Nat → Int := basV (q / 2)
def iFindF (a : Alg) : Option (Nat → Int) := solvedF a.p a.n.toNat (2 * a.n.toNat) (uM a) uT
def C_findUnit (P : Program) (N : FN) : Prop := ∀ {sz : Nat} {l : List (List D)} {e off : Nat} {a : Alg}, AlgAt l e off a → AlgOk a → Can P N.impl_Algebra_findUnit [.pd sz l e off] (optD (iFindF a))
def C_unit (P : Program) (N : FN) : Prop := ∀ {sz : Nat} {l : List (List D)} {e off : Nat} {a : Alg}, AlgAt l e off a → AlgOk a → Can P N.impl_Algebra_unit [.pd sz l e off] (.val (vecD ((iFindF a).getD Z)))
def IsAlgP (a : Alg) : Prop := a.p ∈ primes ∧ (1 ≤ a.n ∧ a.n ≤ 6) ∧ TabP a ∧ AssocP a ∧ (iFindF a).isSome = true
def C_IsAlgebra (P : Program) (N : FN) : Prop := ∀ {a : Alg}, AlgB a → (a.p ∈ primes → (1 ≤ a.n ∧ a.n ≤ 6) → TabP a → AlgOk a) → Can P N.impl_IsAlgebra [algD a] (.val (.bool (dB (IsAlgP a))))
theorem basV_byt (i : Nat) : Byts (basV i) := fun j => by unfold basV; split <;> omega
theorem times_rw {a : Alg} (hp : 1 ≤ a.p) (v w : Nat → Int) : Rw a.p (timesV a v w) := fun k => by
  unfold timesV
  split
  · exact mod_bd _ hp
  · omega
structure Pr where
  c : Alg
  o : Alg
  z : Nat → Nat → Int
def pairF (x : Pr) : Nat → D := fun q => if q < 224 then algF x.c q else if q < 448 then algF x.o (q - 224) else .int .u8 (x.z ((q - 448) / 6) ((q - 448) % 6))
def pairL (x : Pr) : List D := arr 484 (pairF x)
def PairAt (l : List (List D)) (e off : Nat) (x : Pr) : Prop := ∀ q, q < 484 → get2 l e (off + q) = some (pairF x q)
theorem PairAt.c {l : List (List D)} {e off : Nat} {x : Pr} (h : PairAt l e off x) : AlgAt l e off x.c := fun q hq => by
  rw [h q (by omega)]; unfold pairF; rw [if_pos hq]
theorem PairAt.o {l : List (List D)} {e off : Nat} {x : Pr} (h : PairAt l e off x) : AlgAt l e (off + 224) x.o := fun q hq => by
  rw [Nat.add_assoc, h (224 + q) (by omega)]; unfold pairF
  rw [if_neg (by omega), if_pos (by omega), show 224 + q - 224 = q by omega]
theorem PairAt.z {l : List (List D)} {e off : Nat} {x : Pr} (h : PairAt l e off x) {i k : Nat} (hi : i < 6) (hk : k < 6) : get2 l e (off + 448 + i * 6 + k) = some (.int .u8 (x.z i k)) := by
  rw [show off + 448 + i * 6 + k = off + (448 + i * 6 + k) by omega, h _ (by omega)]; unfold pairF
  rw [if_neg (by omega), if_neg (by omega), show (448 + i * 6 + k - 448) / 6 = i by omega, show (448 + i * 6 + k - 448) % 6 = k by omega]
theorem PairAt.zv {l : List (List D)} {e off : Nat} {x : Pr} (h : PairAt l e off x) {i : Nat} (hi : i < 6) : sub2 l e (off + 448 + ((i : Nat) : Int).toNat * 6) 6 = some (vecL (x.z i)) := by
  rw [Int.toNat_natCast]
  exact sub2_of (fun q hq => h.z hi hq) (by omega)
theorem PairAt.all {l : List (List D)} {e off : Nat} {x : Pr} (h : PairAt l e off x) : sub2 l e off 484 = some (pairL x) := sub2_of h (by omega)
theorem rd_vecs {m i : Nat} {f : Nat → Nat → Int} (h : i < m) : sub2 (arr m fun i => vecL (f i)) ((i : Nat) : Int).toNat 0 6 = some (vecL (f i)) := by
  simp only [sub2, Int.toNat_natCast, arr_get h, Option.bind_some, cut, cel_len, Nat.zero_add, Nat.le_refl, if_true, List.drop_zero]
  rw [List.take_of_length_le (by rw [cel_len]; omega)]
theorem st_all {k : IntKind} {m z : Nat} {f g : Nat → Int} : Chunk.data z ([cel k m f].set 0 (splice (cel k m f) 0 (cel k m g))) = .data z [cel k m g] := by
  have e : splice (cel k m f) 0 (cel k m g) = cel k m g := by
    unfold splice
    rw [List.take_zero, List.nil_append, cel_len, List.drop_eq_nil_of_le (by rw [cel_len]; omega), List.append_nil]
  rw [e]; rfl
structure PrOk (x : Pr) : Prop where
  c : AlgOk x.c
  o : AlgOk x.o
  p : x.c.p = x.o.p
  z : ∀ i k, 0 ≤ x.z i k ∧ x.z i k ≤ 255
def C_IdxVec (P : Program) (N : FN) : Prop := ∀ {m : Nat} {f : Nat → Nat → Int} {g : FuncId} {c : D} {q : Nat → Bool}, m ≤ 1000 → (∀ i, i < m → Can P g [vecD (f i), c] (.val (.bool (q i)))) → Can P N.slices_IndexFunc_Limpl_Vector_impl_Vector [.lst 6 (arr m fun i => vecL (f i)), .fn g [] [c]] (.val (.int .i64 (idxF q m)))
def C_ContainsVec (P : Program) (N : FN) : Prop := ∀ {m : Nat} {f : Nat → Nat → Int} {g : FuncId} {c : D} {q : Nat → Bool}, m ≤ 1000 → (∀ i, i < m → Can P g [vecD (f i), c] (.val (.bool (q i)))) → Can P N.slices_ContainsFunc_Limpl_Vector_impl_Vector [.lst 6 (arr m fun i => vecL (f i)), .fn g [] [c]] (.val (.bool (decide (0 ≤ idxF q m))))
structure AlgIn (a : Alg) : Prop where
  b : AlgB a
  ok : a.p ∈ primes → (1 ≤ a.n ∧ a.n ≤ 6) → TabP a → AlgOk a
theorem AlgIn.alg {a : Alg} (h : AlgIn a) (hi : IsAlgP a) : AlgOk a := h.ok hi.1 hi.2.1 hi.2.2.1
structure PrIn (x : Pr) : Prop where
  c : AlgIn x.c
  o : AlgIn x.o
  z : ∀ i, Byts (x.z i)
def FrobP (a : Alg) : Prop := ((redF a.p a.n.toNat (tabL a a.n.toNat)).length : Int) = a.n
def iUnit (a : Alg) : Nat → Int := (iFindF a).getD Z
theorem can_t {P : Program} {f : FuncId} {args : List D} {p : Prop} (h : Can P f args (.val (.bool (dB p)))) (hp : p) : Can P f args (.val (.bool true)) := by rwa [dB_t hp] at h
theorem can_f {P : Program} {f : FuncId} {args : List D} {p : Prop} (h : Can P f args (.val (.bool (dB p)))) (hp : ¬ p) : Can P f args (.val (.bool false)) := by rwa [dB_f hp] at h
theorem can_dt {P : Program} {f : FuncId} {args : List D} {p : Prop} [Decidable p] (h : Can P f args (.val (.bool (decide p)))) (hp : p) : Can P f args (.val (.bool true)) := by rwa [decide_eq_true hp] at h
theorem can_df {P : Program} {f : FuncId} {args : List D} {p : Prop} [Decidable p] (h : Can P f args (.val (.bool (decide p)))) (hp : ¬ p) : Can P f args (.val (.bool false)) := by rwa [decide_eq_false hp] at h
theorem fullR_rw {M : Nat → Nat → Nat → Int} {tg : Nat → Nat → Int} {p : Int} {n c : Nat} (h1 : ∀ q i k, 0 ≤ M q i k ∧ M q i k < p) (h2 : ∀ q k, 0 ≤ tg q k ∧ tg q k < p) : RwL p (arr c (fullR M tg n)) := fun r hr => by
  simp only [arr, List.mem_map] at hr
  obtain ⟨i, _, rfl⟩ := hr
  intro j
  unfold fullR
  split
  · exact h1 ..
  · exact h2 ..
theorem iSolve_rw {p : Int} {n : Nat} {L : List Row} {r : Row} (hp : p ∈ primes) (hR : RwL p L) (h : iSolveF p n L = some r) : Rw p r := by
  have hp2 := prime_bd hp
  have rr := (redN_inv (p := p) (rows := L) (by omega) hR (n + 1)).2.1
  have key : ∀ i o, solN n (redF p (n + 1) L) i = some o → Rw p o := by
    intro i
    induction i with
    | zero => intro o h; simp only [solN, Option.some.injEq] at h; subst h; intro j; simp [Z]; omega
    | succ i ih =>
      intro o h
      unfold solN at h
      split at h
      · cases h
      · rename_i o' ho
        split at h
        · cases h
        · simp only [Option.some.injEq] at h; subst h
          intro j
          unfold upd
          split
          · exact RwL.get rr (by omega) i n
          · exact ih o' ho j
  exact key _ _ h
theorem uM_rw {a : Alg} (hp : 1 ≤ a.p) (q i k : Nat) : 0 ≤ uM a q i k ∧ uM a q i k < a.p := by
  unfold uM
  split
  · exact times_rw hp _ _ k
  · exact times_rw hp _ _ k
theorem uT_rw {p : Int} (hp : 2 ≤ p) (q k : Nat) : 0 ≤ uT q k ∧ uT q k < p := by unfold uT basV; split <;> omega
theorem vecR_rw {p : Int} {n : Nat} {r : Row} (hp : 1 ≤ p) (h : Rw p r) : Rw p (vecR n r) := fun i => by
  have := h i
  unfold vecR; split <;> omega
theorem iUnit_rw {a : Alg} (ha : AlgOk a) : Rw a.p (iUnit a) := by
  have hp2 := prime_bd ha.p
  unfold iUnit iFindF solvedF
  cases h : iSolveF a.p a.n.toNat (arr (2 * a.n.toNat * a.n.toNat) (fullR (uM a) uT a.n.toNat)) with
  | none => intro i; simp [Z]; omega
  | some r =>
    exact vecR_rw (by omega) (iSolve_rw ha.p (fullR_rw (fun q i k => uM_rw (by omega) q i k) (fun q k => uT_rw hp2.1 q k)) h)
theorem eq_t {v w : Nat → Int} (h : VEq v w) : (true = true ↔ vecL v = vecL w) := ⟨fun _ => cel_ext h, fun _ => rfl⟩
theorem eq_f {v w : Nat → Int} (h : ¬ VEq v w) : (false = true ↔ vecL v = vecL w) := ⟨(fun h => by cases h), fun e => absurd (cel_inj e) h⟩
theorem Rw.byt {p : Int} {v : Nat → Int} (h : Rw p v) (hp : p ≤ 255) : Byts v := fun i => by have := h i; omega
def sAlgP (a : Alg) : Prop := ShapeP a ∧ AssocP a ∧ (findF a).isSome = true
def sUnit (a : Alg) : Nat → Int := (findF a).getD Z
structure SAlgIn (a : Alg) : Prop where
  b : AlgB a
  ok : ShapeP a → AlgOk a
structure SPrIn (x : Pr) : Prop where
  c : SAlgIn x.c
  o : SAlgIn x.o
  z : ∀ i, Byts (x.z i)
def sCommP (a : Alg) : Prop := ∀ i : Nat, i < 6 → ∀ j : Nat, j < i → VEq (a.T i j) (a.T j i)
def sFrobP (a : Alg) : Prop := ((echF a.p a.n.toNat (tabL a a.n.toNat)).length : Int) = a.n
end Go.X
namespace Go.X
open Go Go.RowKit
theorem sz_ {p : Prop} (h : p := by first | omega | assumption | (simp only [List.length_take, List.length_drop, cel_len, row_len, rowsL_len, mapN_len, arr_len, List.length_append, List.length_cons, List.length_nil, List.length_map, List.length_replicate, maxRow]; omega)) : p := h
theorem om_ {p : Prop} (h : p := by omega) : p := h
theorem sd_ {p : Prop} (h : p := by first
  | exact rfl | omega | assumption
  | (and_intros <;> first | exact rfl | omega | decide | (simp only [List.length_take, List.length_drop, cel_len, row_len, rowsL_len, mapN_len, arr_len, List.length_append, List.length_cons, List.length_nil, List.length_map, List.length_replicate, maxRow]; omega))
  | (simp only [List.length_take, List.length_drop, cel_len, row_len, rowsL_len, mapN_len, arr_len, List.length_append, List.length_cons, List.length_nil, List.length_map, List.length_replicate, maxRow]; omega)
  | (simp only [List.length_take, List.length_drop, cel_len, row_len, rowsL_len, mapN_len, arr_len, List.length_append, List.length_cons, List.length_nil, List.length_map, List.length_replicate, maxRow]; done)
  | exact ⟨rfl, rfl, rfl, by (simp only [List.length_take, List.length_drop, cel_len, row_len, rowsL_len, mapN_len, arr_len, List.length_append, List.length_cons, List.length_nil, List.length_map, List.length_replicate, maxRow]; omega), fun p hp => by cases hp; rfl⟩
  | decide | exact Nat.lt_of_lt_of_eq (m := 6) (by omega) rfl | exact .inl rfl | exact .inr flat_row | exact .inr (flat2 (flat_cel _ _ _) (.bool _)) | exact .inr (.int _ _) | exact .inr (.bool _) | exact .inr (flat_cel _ _ _) | exact st_prog rfl | exact row_app rfl
  | (refine congrArg (fun x => AV.d (D.int .i64 x)) ?_; first | omega | (simp only [List.length_take, List.length_drop, cel_len, row_len, rowsL_len, mapN_len, arr_len, List.length_append, List.length_cons, List.length_nil, List.length_map, List.length_replicate, maxRow]; omega))
  | exact rowsL_app) : p := h
theorem rd1_ {p : Prop} (h : p := by with_reducible first
  | exact rfl | exact rd_celP (by omega) | exact rd_cel (by omega) | exact rd_idx (by omega) | exact rd_all | exact rd_stall rfl | exact rd_rowP (by omega) | exact rd_row (by omega) | exact get_rowsN (by omega) | exact get_rows (by omega) | exact get_row (by omega) | exact rd_rowsN (by omega) | exact rd_rows (by omega)
  | exact AlgAt.p ‹_› | exact AlgAt.n ‹_› | exact AlgAt.T ‹_› (by omega) (by omega) (by omega) | exact AlgAt.f ‹_› (by omega) | exact AlgAt.vecT ‹_› (by omega) (by omega) | exact AlgAt.vecf ‹_› | exact AlgAt.p (algAt_one _) | exact AlgAt.n (algAt_one _) | exact AlgAt.T (algAt_one _) (by omega) (by omega) (by omega) | exact AlgAt.f (algAt_one _) (by omega) | exact (algAt_one _).all | exact AlgAt.vecT (algAt_one _) (by omega) (by omega) | exact AlgAt.vecf (algAt_one _)) : p := h
theorem rd_ {p : Prop} (h : p := by first
  | exact rd1_
  | exact rd_celP (by omega) | exact rd_cel (by omega) | exact rd_idx (by omega) | exact rd_all | exact rd_stall rfl | exact rd_rowP (by omega) | exact rd_row (by omega) | exact get_rowsN (by omega) | exact get_rows (by omega) | exact get_row (by omega) | exact rd_rowsN (by omega) | exact rd_rows (by omega)
  | exact AlgAt.p ‹_› | exact AlgAt.n ‹_› | exact AlgAt.T ‹_› (by omega) (by omega) (by omega) | exact AlgAt.f ‹_› (by omega) | exact AlgAt.vecT ‹_› (by omega) (by omega) | exact AlgAt.vecf ‹_› | exact AlgAt.p (algAt_one _) | exact AlgAt.n (algAt_one _) | exact AlgAt.T (algAt_one _) (by omega) (by omega) (by omega) | exact AlgAt.f (algAt_one _) (by omega) | exact (algAt_one _).all | exact AlgAt.vecT (algAt_one _) (by omega) (by omega) | exact AlgAt.vecf (algAt_one _)
  | exact rfl) : p := h
theorem ifs_ : (∀ b : Bool, ((!b) = true) = (b = false)) ∧ (∀ b : Bool, ((!b) = false) = (b = true)) ∧ (∀ (p : Prop) [Decidable p], (decide p = true) = p) ∧ (∀ (p : Prop) [Decidable p], (decide p = false) = ¬ p) ∧
    (∀ a b : Int, ((a == b) = true) = (a = b)) ∧ (∀ a b : Int, ((a != b) = true) = ¬ (a = b)) ∧ (∀ a b : Int, ((a == b) = false) = ¬ (a = b)) ∧ (∀ a b : Int, ((a != b) = false) = (a = b)) ∧
    (∀ p : Prop, (¬ ¬ p) = p) ∧ ((!true) = false) ∧ ((!false) = true) ∧ ((false = true) = False) ∧ ((true = false) = False) ∧ (∀ a b : Int, (¬ (a < b)) = (b ≤ a)) ∧ (∀ a b : Int, (¬ (a ≤ b)) = (b < a)) ∧
    (∀ (α : Type) (a : α) (l : List α), (a :: l).length = l.length + 1) ∧ (∀ (α : Type) (l m : List α), (l ++ m).length = l.length + m.length) ∧ (∀ (α : Type) (l : List α) (n : Nat), (l.take n).length = min n l.length) ∧
    (∀ (α : Type) (l : List α) (n : Nat), (l.drop n).length = l.length - n) ∧ (∀ α : Type, ([] : List α).length = 0) ∧ (∀ m f, (row m f).length = m) ∧ (∀ m L, (rowsL m L).length = L.length) ∧
    (∀ k m f, (cel k m f).length = m) ∧ (∀ i g L, (mapN i g L).length = L.length) ∧ ((¬ True) = False) ∧ ((¬ False) = True) ∧ (∀ (α : Type) (a b : α), (a ≠ b) = ¬ (a = b)) := by
  refine ⟨fun b => by cases b <;> simp, fun b => by cases b <;> simp, fun p _ => by simp, fun p _ => by simp, fun a b => by simp, fun a b => by simp, fun a b => by simp, fun a b => by simp, fun p => by simp [Classical.not_not], rfl, rfl, by simp, by simp, fun a b => by simp, fun a b => by simp,
    fun α a l => by simp, fun α l m => by simp, fun α l n => by simp, fun α l n => by simp, fun α => by simp, row_len, rowsL_len, cel_len, mapN_len, by simp, by simp, fun α a b => rfl⟩
class IfG (g : Prop) (X Y A B : outParam Prop) : Prop where
  go : (X → A) → (Y → B) → g
instance {X Y A B : Prop} : IfG ((X → A) ∧ (Y → B)) X Y A B := ⟨fun a b => ⟨a, b⟩⟩
theorem if_ {g X Y A B p q : Prop} [i : IfG g X Y A B] (ha : p → A) (hb : q → B) (hp : X = p := by first | (conv => lhs; simp only [ifs_, Cm.int, reduceCtorEq, reduceIte]) | exact rfl) (hq : Y = q := by first | (conv => lhs; simp only [ifs_, Cm.int, reduceCtorEq, reduceIte]) | exact rfl) : g :=
  i.go (fun h => ha (hp ▸ h)) (fun h => hb (hq ▸ h))
class VS (g : Prop) (s r : outParam Prop) : Prop where
  go : s → r → g
instance {p q : Prop} : VS (p ∧ q) p q := ⟨fun a b => ⟨a, b⟩⟩
section
variable {x y : Int} {i n : Nat} {K : Int → Prop}
instance : VS (Ar.int .add .i64 x y K) (-9223372036854775808 ≤ x + y ∧ x + y ≤ 9223372036854775807) (K (x + y)) := ⟨ar_add⟩
instance : VS (Ar.int .sub .i64 x y K) (-9223372036854775808 ≤ x - y ∧ x - y ≤ 9223372036854775807) (K (x - y)) := ⟨ar_sub⟩
instance : VS (Ar.int .mul .i64 x y K) (-9223372036854775808 ≤ x * y ∧ x * y ≤ 9223372036854775807) (K (x * y)) := ⟨ar_mul⟩
instance : VS (wrapK .i64 x K) (-9223372036854775808 ≤ x ∧ x ≤ 9223372036854775807) (K x) := ⟨wk_i64⟩
instance : VS (wrapK .u8 x K) (0 ≤ x ∧ x ≤ 255) (K x) := ⟨wk_u8⟩
end
theorem vs_ {g s r : Prop} [i : VS g s r] (hr : r) (hs : s := by exact sd_) : g := i.go hs hr
class DivG (g : Prop) (o : outParam Ar) (x y : outParam Int) (K : outParam (Int → Prop)) : Prop where
  go : Ar.int o .i64 x y K → g
instance {o : Ar} {x y : Int} {K : Int → Prop} : DivG (Ar.int o .i64 x y K) o x y K := ⟨id⟩
def ArTo (o : Ar) (x y z : Int) : Prop := ∀ K : Int → Prop, K z → Ar.int o .i64 x y K
theorem dv_ {g : Prop} {o : Ar} {x y z : Int} {K : Int → Prop} [i : DivG g o x y K] (hk : K z) (h : ArTo o x y z := by first
  | exact fun _ => ar_remN om_ | exact fun _ => ar_quoN om_ | exact fun _ => ar_rem sz_ | exact fun _ => ar_quo sz_) : g := i.go (h K hk)
theorem dvT_ {g : Prop} {o : Ar} {x y z : Int} {K : Int → Prop} [i : DivG g o x y K] (hk : K z) (h : ArTo o x y z := by first
  | exact fun _ => ar_remN om_ | exact fun _ => ar_quoN om_ | exact fun _ => ar_rem sz_ | exact fun _ => ar_remT om_ | exact fun _ => ar_quo sz_) : g := i.go (h K hk)
theorem fin_ {p : Prop} (h : p := by first | exact True.intro | (with_reducible exact rfl) | exact congrArg D.agg (cel_prog (by omega)) | exact Eq.refl _) : p := h
theorem ex_ {α : Type} {p q : α → Prop} {a : α} (hq : q a) (h : p a := by exact rd_) : ∃ x, p x ∧ q x := ⟨a, h, hq⟩
theorem ex2_ {α β : Type} {p q : α → β → Prop} {a : α} {b : β} (hq : q a b) (h : p a b := by exact rd_) : ∃ x y, p x y ∧ q x y := ⟨a, b, h, hq⟩
theorem lp_ {p : Prop} (h : p := by first | omega | (and_intros <;> first | omega | (intros; omega) | rfl | simp) | (intros; omega) | simp) : p := h
end Go.X
