import Derived.Test.YtphelkciklpakaaW9
import Derived.Test.YtphelkciklpakaaK4
set_option linter.all false
namespace Go.X
open Go Go.RowKit
set_option maxRecDepth 100000
set_option maxHeartbeats 8000000
set_option linter.unusedVariables false
variable {P : Program} {N : FN}
def C_sIsAlg (P : Program) (N : FN) : Prop := ∀ {a : Alg}, SAlgIn a → Can P N.spec_IsAlgebra [algD a] (.val (.bool (dB (sAlgP a))))
theorem c_sIsAlg (hA : C_sAlgebra P N) (hf : isFn P N.spec_IsAlgebra (ir_spec_IsAlgebra N) = true) : C_sIsAlg P N := by
  intro a hi
  have hal := (algAt_one a).all
  have hA' : Can P N.spec_l01Algebra [algD a] (.val (.bool (dB (sAlgP a)))) := hA hi.b hi.ok
  refine can_of hf rfl rfl ?_
  (repeat' (conv => whnf)<;>first|exact True.intro|(refine if_ ?_ ?_<;>intro h<;>first|exact h.elim|(exfalso; omega)|skip)|refine vs_ ?_|refine dv_ ?_|exact fin_|(show ∃ _, _ ∧ _; refine ex_ ?_ (by first|with_reducible exact rfl|with_reducible exact hal|exact hA'|exact rd_))|(show ∃ _ _, _ ∧ _; refine ex2_ ?_ (by first|with_reducible exact rfl|with_reducible exact hal|exact hA'|exact rd_)))
def C_big (P : Program) (N : FN) : Prop := ∀ {m : Nat} {f : Nat → Int}, m ≤ 9223372036854775807 → Can P N.laws_big [.lst 1 (nbL f m)] (.val (.bool (decide ((m : Int) > 4096))))
theorem c_big (hf : isFn P N.laws_big (ir_laws_big N) = true) : C_big P N := by
  intro m f hm
  have hl := nb_len f m
  refine can_of hf rfl rfl ?_
  (repeat' (conv => whnf)<;>first|exact True.intro|(refine if_ ?_ ?_<;>intro h<;>first|exact h.elim|(exfalso; omega)|skip)|refine vs_ ?_|refine dv_ ?_|exact fin_|(show ∃ _, _ ∧ _; refine ex_ ?_)|(show ∃ _ _, _ ∧ _; refine ex2_ ?_))
  all_goals (conv => whnf)
  all_goals (try rw [hl])
  all_goals (try rfl)
end Go.X
namespace Go.X
open Go Go.RowKit
set_option maxRecDepth 100000
set_option maxHeartbeats 8000000
set_option linter.unusedVariables false
variable {P : Program} {N : FN}
theorem row_getI {m : Nat} {f : Row} {x : Int} (h : 0 ≤ x ∧ x < m) : get2 (row m f) x.toNat 0 = some (.int .i64 (f x.toNat)) := by
  unfold get2
  rw [show (row m f)[x.toNat]? = some [.int .i64 (f x.toNat)] from arr_get (by omega)]; rfl
theorem c_pick (hN : C_next P N) (hf : isFn P N.spec_l01Pick (ir_spec_l01Pick N) = true) : C_pick P N := by
  intro s m f hs hm
  have hN' := hN (n := m) hs (by omega)
  have hl : (row m f).length = m := row_len ..
  have hb := nextV_bd (s := s) (n := (m : Int)) (by omega)
  have hg := row_getI (f := f) hb
  refine can_ofB hf rfl rfl rfl rfl ?_
  rw [← hl] at hN'
  (repeat' (conv => whnf)<;>first|exact True.intro|(refine if_ ?_ ?_<;>intro h<;>first|exact h.elim|(exfalso; omega)|skip)|refine vs_ ?_ (by first|(rw [hl]; exact ⟨rfl, hb⟩)|exact sd_)|refine dv_ ?_|exact fin_|(show ∃ _, _ ∧ _; refine ex_ ?_ (by first|with_reducible exact rfl|exact hN'|(rw [hl]; exact hg)|exact rd_))|(show ∃ _ _, _ ∧ _; refine ex2_ ?_ (by first|with_reducible exact rfl|exact hN'|(rw [hl]; exact hg)|exact rd_)))
  rw [hl]
  (repeat' (conv => whnf)<;>first|exact True.intro|(refine if_ ?_ ?_<;>intro h<;>first|exact h.elim|(exfalso; omega)|skip)|refine vs_ ?_|refine dv_ ?_|exact fin_|(show ∃ _, _ ∧ _; refine ex_ ?_)|(show ∃ _ _, _ ∧ _; refine ex2_ ?_))
def prF (i : Nat) : Int := [2, 3, 3, 5, 7, 11, 13].getD i 0
theorem pr_lst : D.lst 1 [[.int .i64 2], [.int .i64 3], [.int .i64 3], [.int .i64 5], [.int .i64 7], [.int .i64 11], [.int .i64 13]] = rowD 7 prF := rfl
theorem pr_mem {i : Nat} (h : i < 7) : prF i ∈ primes := by
  match i, h with
  | 0, _ => decide
  | 1, _ => decide
  | 2, _ => decide
  | 3, _ => decide
  | 4, _ => decide
  | 5, _ => decide
  | 6, _ => decide
theorem c_drawPrime (hK : C_pick P N) (hf : isFn P N.spec_l01DrawPrime (ir_spec_l01DrawPrime N) = true) : C_drawPrime P N := by
  intro s hs
  have hb := nextV_bd (s := s) (n := ((7 : Nat) : Int)) (by omega)
  refine ⟨prF (nextV s ((7 : Nat) : Int)).toNat, nextT s ((7 : Nat) : Int), pr_mem (by omega), nextT_ok hs _, ?_⟩
  have hK' := hK (m := 7) (f := prF) hs (by omega)
  rw [← pr_lst] at hK'
  refine can_ofB hf rfl rfl rfl rfl ?_
  (repeat' (conv => whnf)<;>first|exact True.intro|(refine if_ ?_ ?_<;>intro h<;>first|exact h.elim|(exfalso; omega)|skip)|refine vs_ ?_|refine dv_ ?_|exact fin_|(show ∃ _, _ ∧ _; refine ex_ ?_ (by first|with_reducible exact rfl|exact hK'|exact rd_))|(show ∃ _ _, _ ∧ _; refine ex2_ ?_ (by first|with_reducible exact rfl|exact hK'|exact rd_)))
end Go.X
namespace Go.X
open Go Go.RowKit
set_option maxRecDepth 100000
set_option maxHeartbeats 8000000
set_option linter.unusedVariables false
variable {P : Program} {N : FN}
def nmL : List ByteArray := [⟨#[102, 105, 101, 108, 100]⟩, ⟨#[100, 117, 97, 108]⟩, ⟨#[112, 97, 105, 114]⟩, ⟨#[99, 121, 99, 108, 105, 99, 51]⟩, ⟨#[115, 121, 109, 109, 101, 116, 114, 105, 99]⟩, ⟨#[109, 97, 116, 114, 105, 120]⟩]
def C_names (P : Program) (N : FN) : Prop := Can P N.spec_l01Names [] (.own 1 (strsL nmL))
theorem c_names (hf : isFn P N.spec_l01Names (ir_spec_l01Names N) = true) : C_names P N := by
  refine can_of hf rfl rfl ?_
  (repeat' (conv => whnf)<;>first|exact True.intro|(refine if_ ?_ ?_<;>intro h<;>first|exact h.elim|(exfalso; omega)|skip)|refine vs_ ?_|refine dv_ ?_|exact fin_|(show ∃ _, _ ∧ _; refine ex_ ?_)|(show ∃ _ _, _ ∧ _; refine ex2_ ?_))
end Go.X
namespace Go.X
open Go Go.RowKit
set_option maxRecDepth 100000
set_option maxHeartbeats 8000000
set_option linter.unusedVariables false
variable {P : Program} {N : FN}
def C_UnitOf (P : Program) (N : FN) : Prop := ∀ {a : Alg}, AlgIn a → Can P N.impl_UnitOf [algD a] (unitR ((iFindF a).getD Z) (dB (IsAlgP a)))
def C_sUnitOf (P : Program) (N : FN) : Prop := ∀ {a : Alg}, SAlgIn a → Can P N.spec_UnitOf [algD a] (unitR ((findF a).getD Z) (dB (sAlgP a)))
theorem c_UnitOf (hV : C_validE P N) (hU : C_unit P N) (hf : isFn P N.impl_UnitOf (ir_impl_UnitOf N) = true) : C_UnitOf P N := by
  intro a hi
  have hal := (algAt_one a).all
  have hV' := hV hi
  by_cases g : IsAlgP a
  · rw [dB_t g] at hV' ⊢
    have ha := hi.alg g
    have hU' := hU (sz := (algL a).length) (algAt_one a) ha
    rw [if_pos rfl] at hV'
    refine can_of hf rfl rfl ?_
    (repeat' (conv => whnf)<;>first|exact True.intro|(refine if_ ?_ ?_<;>intro h<;>first|exact h.elim|(exfalso; omega)|skip)|refine vs_ ?_|refine dv_ ?_|exact fin_|(show ∃ _, _ ∧ _; refine ex_ ?_ (by first|with_reducible exact rfl|with_reducible exact hal|exact hV'|exact hU'|exact rd_))|(show ∃ _ _, _ ∧ _; refine ex2_ ?_ (by first|with_reducible exact rfl|with_reducible exact hal|exact hV'|exact hU'|exact rd_)))
    all_goals (rw [show splice (vecL Z) 0 (cel .u8 6 ((iFindF a).getD Z)) = vecL ((iFindF a).getD Z) from spl_z _]; (repeat' (conv => whnf)<;>first|exact True.intro|(refine if_ ?_ ?_<;>intro h<;>first|exact h.elim|(exfalso; omega)|skip)|refine vs_ ?_|refine dv_ ?_|exact fin_|(show ∃ _, _ ∧ _; refine ex_ ?_)|(show ∃ _ _, _ ∧ _; refine ex2_ ?_)))
  · rw [dB_f g] at hV' ⊢
    rw [if_neg (by decide)] at hV'
    refine can_of hf rfl rfl ?_
    (repeat' (conv => whnf)<;>first|exact True.intro|(refine if_ ?_ ?_<;>intro h<;>first|exact h.elim|(exfalso; omega)|skip)|refine vs_ ?_|refine dv_ ?_|exact fin_|(show ∃ _, _ ∧ _; refine ex_ ?_ (by first|with_reducible exact rfl|with_reducible exact hal|exact hV'|exact rd_))|(show ∃ _ _, _ ∧ _; refine ex2_ ?_ (by first|with_reducible exact rfl|with_reducible exact hal|exact hV'|exact rd_)))
theorem c_sUnitOf (hV : C_sCodeE P N) (hU : C_sUnit P N) (hf : isFn P N.spec_UnitOf (ir_spec_UnitOf N) = true) : C_sUnitOf P N := by
  intro a hi
  have hal := (algAt_one a).all
  have hV' := hV hi
  by_cases g : sAlgP a
  · rw [dB_t g] at hV' ⊢
    have ha := hi.ok g.1
    have hU' := hU ha
    rw [if_pos rfl] at hV'
    refine can_of hf rfl rfl ?_
    (repeat' (conv => whnf)<;>first|exact True.intro|(refine if_ ?_ ?_<;>intro h<;>first|exact h.elim|(exfalso; omega)|skip)|refine vs_ ?_|refine dv_ ?_|exact fin_|(show ∃ _, _ ∧ _; refine ex_ ?_ (by first|with_reducible exact rfl|with_reducible exact hal|exact hV'|exact hU'|exact rd_))|(show ∃ _ _, _ ∧ _; refine ex2_ ?_ (by first|with_reducible exact rfl|with_reducible exact hal|exact hV'|exact hU'|exact rd_)))
    all_goals (rw [show splice (vecL Z) 0 (cel .u8 6 ((findF a).getD Z)) = vecL ((findF a).getD Z) from spl_z _]; (repeat' (conv => whnf)<;>first|exact True.intro|(refine if_ ?_ ?_<;>intro h<;>first|exact h.elim|(exfalso; omega)|skip)|refine vs_ ?_|refine dv_ ?_|exact fin_|(show ∃ _, _ ∧ _; refine ex_ ?_)|(show ∃ _ _, _ ∧ _; refine ex2_ ?_)))
  · rw [dB_f g] at hV' ⊢
    rw [if_neg (by decide)] at hV'
    refine can_of hf rfl rfl ?_
    (repeat' (conv => whnf)<;>first|exact True.intro|(refine if_ ?_ ?_<;>intro h<;>first|exact h.elim|(exfalso; omega)|skip)|refine vs_ ?_|refine dv_ ?_|exact fin_|(show ∃ _, _ ∧ _; refine ex_ ?_ (by first|with_reducible exact rfl|with_reducible exact hal|exact hV'|exact rd_))|(show ∃ _ _, _ ∧ _; refine ex2_ ?_ (by first|with_reducible exact rfl|with_reducible exact hal|exact hV'|exact rd_)))
end Go.X
namespace Go.X
open Go Go.RowKit
set_option maxRecDepth 100000
set_option maxHeartbeats 8000000
set_option linter.unusedVariables false
variable {P : Program} {N : FN}
def powVR (a : Alg) (u v : Row) (k : Int) (b : Bool) : Res := .tup (if b then (if 0 ≤ k ∧ k ≤ 1000 then [vecD (foldV a u v k.toNat), .int .i64 0] else [vecD Z, .int .i64 2]) else [vecD Z, .int .i64 1])
def C_PowerV (P : Program) (N : FN) : Prop := ∀ {a : Alg} {v : Row} {k : Int}, AlgIn a → Byts v → Can P N.impl_PowerVector [algD a, vecD v, .int .i64 k] (powVR a (iUnit a) v k (dB (IsAlgP a ∧ AllSm a 1 fun _ => v)))
theorem c_PowerV (hV : C_validL P N) (hI : C_in P N) (hW : C_vpower P N) (hf : isFn P N.impl_PowerVector (ir_impl_PowerVector N) = true) : C_PowerV P N := by
  intro a v k hi hv
  have hal := (algAt_one a).all
  have hV' : Can P N.impl_valid [algD a, .lst 6 [vecL v]] _ := hV (q := 1) (s := fun _ => v) hi (by omega) (fun _ => hv)
  unfold powVR
  by_cases g : IsAlgP a ∧ AllSm a 1 fun _ => v
  · rw [dB_t g] at hV' ⊢
    have ha := hi.alg g.1
    have hI' := hI (n := k) (lo := 0) (hi := 1000)
    rw [if_pos rfl] at hV' ⊢
    by_cases c : 0 ≤ k ∧ k ≤ 1000
    · have hW' := hW (sz := (algL a).length) (k := k.toNat) (algAt_one a) ha hv (by omega)
      rw [show ((k.toNat : Nat) : Int) = k by omega] at hW'
      rw [if_pos c]
      rw [decide_eq_true c] at hI'
      refine can_of hf rfl rfl ?_
      (repeat' (conv => whnf)<;>first|exact True.intro|(refine if_ ?_ ?_<;>intro h<;>first|exact h.elim|(exfalso; omega)|skip)|refine vs_ ?_|refine dv_ ?_|exact fin_|(show ∃ _, _ ∧ _; refine ex_ ?_ (by first|with_reducible exact rfl|with_reducible exact hal|exact hV'|exact hI'|exact hW'|exact rd_))|(show ∃ _ _, _ ∧ _; refine ex2_ ?_ (by first|with_reducible exact rfl|with_reducible exact hal|exact hV'|exact hI'|exact hW'|exact rd_)))
      all_goals (rw [show splice (vecL Z) 0 (cel .u8 6 (foldV a (iUnit a) v k.toNat)) = vecL (foldV a (iUnit a) v k.toNat) from spl_z _]; (repeat' (conv => whnf)<;>first|exact True.intro|(refine if_ ?_ ?_<;>intro h<;>first|exact h.elim|(exfalso; omega)|skip)|refine vs_ ?_|refine dv_ ?_|exact fin_|(show ∃ _, _ ∧ _; refine ex_ ?_)|(show ∃ _ _, _ ∧ _; refine ex2_ ?_)))
    · rw [if_neg c]
      rw [decide_eq_false c] at hI'
      refine can_of hf rfl rfl ?_
      (repeat' (conv => whnf)<;>first|exact True.intro|(refine if_ ?_ ?_<;>intro h<;>first|exact h.elim|(exfalso; omega)|skip)|refine vs_ ?_|refine dv_ ?_|exact fin_|(show ∃ _, _ ∧ _; refine ex_ ?_ (by first|with_reducible exact rfl|with_reducible exact hal|exact hV'|exact hI'|exact rd_))|(show ∃ _ _, _ ∧ _; refine ex2_ ?_ (by first|with_reducible exact rfl|with_reducible exact hal|exact hV'|exact hI'|exact rd_)))
  · rw [dB_f g] at hV' ⊢
    rw [if_neg (by decide)] at hV'
    rw [if_neg (by decide)]
    refine can_of hf rfl rfl ?_
    (repeat' (conv => whnf)<;>first|exact True.intro|(refine if_ ?_ ?_<;>intro h<;>first|exact h.elim|(exfalso; omega)|skip)|refine vs_ ?_|refine dv_ ?_|exact fin_|(show ∃ _, _ ∧ _; refine ex_ ?_ (by first|with_reducible exact rfl|with_reducible exact hal|exact hV'|exact rd_))|(show ∃ _ _, _ ∧ _; refine ex2_ ?_ (by first|with_reducible exact rfl|with_reducible exact hal|exact hV'|exact rd_)))
end Go.X
namespace Go.X
open Go Go.RowKit
set_option maxRecDepth 100000
set_option maxHeartbeats 8000000
set_option linter.unusedVariables false
variable {P : Program} {N : FN}
def C_Add (P : Program) (N : FN) : Prop := ∀ {a : Alg} {v w : Row} {k : Int}, AlgIn a → Byts v → Byts w → Can P N.impl_AddVectors [algD a, vecD v, vecD w, .int .i64 k] (addR a v w k (dB (IsAlgP a ∧ AllSm a 2 (twoV v w))))
def C_sAddV (P : Program) (N : FN) : Prop := ∀ {a : Alg} {v w : Row} {k : Int}, SAlgIn a → Byts v → Byts w → Can P N.spec_AddVectors [algD a, vecD v, vecD w, .int .i64 k] (addR a v w k (dB (sAlgP a ∧ AllSm a 2 (twoV v w))))
theorem c_Add (hV : C_validL P N) (hI : C_in P N) (hA : C_add P N) (hf : isFn P N.impl_AddVectors (ir_impl_AddVectors N) = true) : C_Add P N := by
  intro a v w k hi hv hw
  have hal := (algAt_one a).all
  have f1 := (algAt_one a).p
  have hV' : Can P N.impl_valid [algD a, .lst 6 [vecL v, vecL w]] _ := hV (q := 2) (s := twoV v w) hi (by omega) (twoV_byt hv hw)
  unfold addR
  by_cases g : IsAlgP a ∧ AllSm a 2 (twoV v w)
  · rw [dB_t g] at hV' ⊢
    have ha := hi.alg g.1
    have hp := prime_bd ha.p
    have hI' := hI (n := k) (lo := 0) (hi := a.p - 1)
    rw [if_pos rfl] at hV' ⊢
    by_cases c : 0 ≤ k ∧ k ≤ a.p - 1
    · have hA' := hA (sz := (algL a).length) (k := k) (algAt_one a) hv hw (by omega) (by omega)
      rw [if_pos c]
      rw [decide_eq_true c] at hI'
      refine can_of hf rfl rfl ?_
      (repeat' (conv => whnf)<;>first|exact True.intro|(refine if_ ?_ ?_<;>intro h<;>first|exact h.elim|(exfalso; omega)|skip)|refine vs_ ?_|refine dv_ ?_|exact fin_|(show ∃ _, _ ∧ _; refine ex_ ?_ (by first|with_reducible exact rfl|with_reducible exact hal|exact hV'|exact hI'|exact hA'|with_reducible exact f1|exact rd_))|(show ∃ _ _, _ ∧ _; refine ex2_ ?_ (by first|with_reducible exact rfl|with_reducible exact hal|exact hV'|exact hI'|exact hA'|with_reducible exact f1|exact rd_)))
      all_goals (rw [show splice (vecL Z) 0 (cel .u8 6 (addV a.p k v w)) = vecL (addV a.p k v w) from spl_z _]; (repeat' (conv => whnf)<;>first|exact True.intro|(refine if_ ?_ ?_<;>intro h<;>first|exact h.elim|(exfalso; omega)|skip)|refine vs_ ?_|refine dv_ ?_|exact fin_|(show ∃ _, _ ∧ _; refine ex_ ?_)|(show ∃ _ _, _ ∧ _; refine ex2_ ?_)))
    · rw [if_neg c]
      rw [decide_eq_false c] at hI'
      refine can_of hf rfl rfl ?_
      (repeat' (conv => whnf)<;>first|exact True.intro|(refine if_ ?_ ?_<;>intro h<;>first|exact h.elim|(exfalso; omega)|skip)|refine vs_ ?_|refine dv_ ?_|exact fin_|(show ∃ _, _ ∧ _; refine ex_ ?_ (by first|with_reducible exact rfl|with_reducible exact hal|exact hV'|exact hI'|with_reducible exact f1|exact rd_))|(show ∃ _ _, _ ∧ _; refine ex2_ ?_ (by first|with_reducible exact rfl|with_reducible exact hal|exact hV'|exact hI'|with_reducible exact f1|exact rd_)))
  · rw [dB_f g] at hV' ⊢
    rw [if_neg (by decide)] at hV'
    rw [if_neg (by decide)]
    refine can_of hf rfl rfl ?_
    (repeat' (conv => whnf)<;>first|exact True.intro|(refine if_ ?_ ?_<;>intro h<;>first|exact h.elim|(exfalso; omega)|skip)|refine vs_ ?_|refine dv_ ?_|exact fin_|(show ∃ _, _ ∧ _; refine ex_ ?_ (by first|with_reducible exact rfl|with_reducible exact hal|exact hV'|exact rd_))|(show ∃ _ _, _ ∧ _; refine ex2_ ?_ (by first|with_reducible exact rfl|with_reducible exact hal|exact hV'|exact rd_)))
theorem c_sAddV (hV : C_sCodeL P N) (hI : C_sIn P N) (hA : C_sAdd P N) (hf : isFn P N.spec_AddVectors (ir_spec_AddVectors N) = true) : C_sAddV P N := by
  intro a v w k hi hv hw
  have hal := (algAt_one a).all
  have f1 := (algAt_one a).p
  have hV' : Can P N.spec_l01Code [algD a, .lst 6 [vecL v, vecL w]] _ := hV (q := 2) (s := twoV v w) hi (by omega) (twoV_byt hv hw)
  unfold addR
  by_cases g : sAlgP a ∧ AllSm a 2 (twoV v w)
  · rw [dB_t g] at hV' ⊢
    have ha := hi.ok g.1.1
    have hp := prime_bd ha.p
    have hI' := hI (n := k) (lo := 0) (hi := a.p - 1)
    rw [if_pos rfl] at hV' ⊢
    by_cases c : 0 ≤ k ∧ k ≤ a.p - 1
    · have hA' := hA (p := a.p) (k := k) hv hw (by omega) (by omega)
      rw [if_pos c]
      rw [decide_eq_true c] at hI'
      refine can_of hf rfl rfl ?_
      (repeat' (conv => whnf)<;>first|exact True.intro|(refine if_ ?_ ?_<;>intro h<;>first|exact h.elim|(exfalso; omega)|skip)|refine vs_ ?_|refine dv_ ?_|exact fin_|(show ∃ _, _ ∧ _; refine ex_ ?_ (by first|with_reducible exact rfl|with_reducible exact hal|exact hV'|exact hI'|exact hA'|with_reducible exact f1|exact rd_))|(show ∃ _ _, _ ∧ _; refine ex2_ ?_ (by first|with_reducible exact rfl|with_reducible exact hal|exact hV'|exact hI'|exact hA'|with_reducible exact f1|exact rd_)))
      all_goals (rw [show splice (vecL Z) 0 (cel .u8 6 (addV a.p k v w)) = vecL (addV a.p k v w) from spl_z _]; (repeat' (conv => whnf)<;>first|exact True.intro|(refine if_ ?_ ?_<;>intro h<;>first|exact h.elim|(exfalso; omega)|skip)|refine vs_ ?_|refine dv_ ?_|exact fin_|(show ∃ _, _ ∧ _; refine ex_ ?_)|(show ∃ _ _, _ ∧ _; refine ex2_ ?_)))
    · rw [if_neg c]
      rw [decide_eq_false c] at hI'
      refine can_of hf rfl rfl ?_
      (repeat' (conv => whnf)<;>first|exact True.intro|(refine if_ ?_ ?_<;>intro h<;>first|exact h.elim|(exfalso; omega)|skip)|refine vs_ ?_|refine dv_ ?_|exact fin_|(show ∃ _, _ ∧ _; refine ex_ ?_ (by first|with_reducible exact rfl|with_reducible exact hal|exact hV'|exact hI'|with_reducible exact f1|exact rd_))|(show ∃ _ _, _ ∧ _; refine ex2_ ?_ (by first|with_reducible exact rfl|with_reducible exact hal|exact hV'|exact hI'|with_reducible exact f1|exact rd_)))
  · rw [dB_f g] at hV' ⊢
    rw [if_neg (by decide)] at hV'
    rw [if_neg (by decide)]
    refine can_of hf rfl rfl ?_
    (repeat' (conv => whnf)<;>first|exact True.intro|(refine if_ ?_ ?_<;>intro h<;>first|exact h.elim|(exfalso; omega)|skip)|refine vs_ ?_|refine dv_ ?_|exact fin_|(show ∃ _, _ ∧ _; refine ex_ ?_ (by first|with_reducible exact rfl|with_reducible exact hal|exact hV'|exact rd_))|(show ∃ _ _, _ ∧ _; refine ex2_ ?_ (by first|with_reducible exact rfl|with_reducible exact hal|exact hV'|exact rd_)))
end Go.X
