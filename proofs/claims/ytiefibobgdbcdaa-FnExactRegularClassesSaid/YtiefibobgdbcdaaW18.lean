import Derived.Test.YtiefibobgdbcdaaW10
import Derived.Test.YtiefibobgdbcdaaW12
import Derived.Test.YtiefibobgdbcdaaW17
import Derived.Test.YtiefibobgdbcdaaW4
set_option linter.all false
namespace Go.X
open Go Go.RowKit
set_option maxRecDepth 100000
set_option maxHeartbeats 8000000
set_option linter.unusedVariables false
variable {P : Program} {N : FN}
def tyTb : Ty := .sl (.sl (.int .i64))
theorem ints_row {l : List (List D)} (h : ∀ r ∈ l, Ty.Has (.int .i64) r) : ∃ f : Row, l = row l.length f := by
  refine ⟨fun i => cellI (l.getD i []), ?_⟩
  refine arr_of rfl fun i hi => ?_
  have hm : l[i] ∈ l := List.getElem_mem hi
  obtain ⟨n, hn, _⟩ := h _ hm
  rw [List.getElem?_eq_getElem hi]
  show some l[i] = some [D.int .i64 (cellI (l.getD i []))]
  rw [List.getD_eq_getElem?_getD, List.getElem?_eq_getElem hi]
  show some l[i] = some [D.int .i64 (cellI l[i])]
  rw [hn]; rfl
theorem arg_tb {d : D} (h : tyTb.arg d) : ∃ t : Tb, d = tbD t ∧ t.m ≤ maxLen ∧ ∀ i, i < t.m → t.n i ≤ maxLen := by
  obtain ⟨l, h, hl, hr⟩ := h
  simp only [List.cons.injEq, and_true] at h
  subst h
  have key : ∀ i, i < l.length → ∃ x : List (List D), l[i]? = some [.lst 1 x] ∧ x.length ≤ maxLen ∧ ∃ f : Row, x = row x.length f := fun i hi => by
    obtain ⟨x, hx, h1, h2⟩ := hr _ (List.getElem_mem hi)
    exact ⟨x, by rw [List.getElem?_eq_getElem hi, hx]; rfl, h1, ints_row h2⟩
  refine ⟨⟨l.length, fun i => if h : i < l.length then (key i h).choose.length else 0, fun i => if h : i < l.length then (key i h).choose_spec.2.2.choose else Z⟩, ?_, hl, fun i hi => ?_⟩
  · refine congrArg (D.lst 1) (arr_of rfl fun i hi => ?_)
    obtain ⟨h1, h2, h3⟩ := (key i hi).choose_spec
    have h4 := (key i hi).choose_spec.2.2.choose_spec
    show l[i]? = some [rowD (if h : i < l.length then (key i h).choose.length else 0) (if h : i < l.length then (key i h).choose_spec.2.2.choose else Z)]
    rw [dif_pos hi, dif_pos hi]
    exact h1.trans (congrArg (fun x => some [D.lst 1 x]) h4)
  · have hi : i < l.length := hi
    show (if h : i < l.length then (key i h).choose.length else 0) ≤ maxLen
    rw [dif_pos hi]
    exact (key i hi).choose_spec.2.1
theorem reg_arr {g : Grp} {t : Tb} {c : Int} (h : c = 0 → GP g) : ∃ (k : Nat) (f : Row), k ≤ 6 ∧ regR g t c = .tupO 1 (row k f) [] [.int .i64 c] := by
  unfold regR
  by_cases e : c = 0
  · rw [if_pos e, iL_row]
    have h1 := regL_len g t (clsS g).length
    have h2 := clsS_len g
    have h3 := (h e).1
    exact ⟨_, _, by omega, rfl⟩
  · rw [if_neg e]
    exact ⟨0, Z, by omega, rfl⟩
def L_RegularClasses (P : Program) (N : FN) : Prop := ∀ args, argsHave [.int .i64, tyGrp, tyTb] args → Can P N.laws_FnExactRegularClasses args (.val (.bool true))
theorem l_RegularClasses (hZ : C_szSS P N) (hG : C_toGroup P N) (hT : C_toSS P N) (hS : C_sReg P N) (hI : C_Reg P N) (hE : C_eqIS P N) (hQ : C_eqSS P N) (hMS : C_markSS P N) (hM : C_markIS P N) (hH : C_heldIS P N)
    (hf : isFn P N.laws_FnExactRegularClasses (ir_laws_FnExactRegularClasses N) = true) : L_RegularClasses P N := fun args h => by
  obtain ⟨d1, d2, d3, rfl, h1, h2, h3⟩ := args3 h
  obtain ⟨p, rfl, hp⟩ := arg_i64 h1
  obtain ⟨g, rfl, hb, hn⟩ := arg_grp h2
  obtain ⟨t, rfl, hm, hni⟩ := arg_tb h3
  have ml : maxLen ≤ 9223372036854775807 := by decide
  have hal := (grpAt_one g).all
  have hZ' := hZ (t := t) (k := 1048576) (by omega) (fun i hi => by have := hni i hi; omega) (by omega)
  have hG' := hG (g := g)
  have hll := tbL_len t
  by_cases s : 0 ≤ szT t 1048576
  · obtain ⟨hs, hsum⟩ := szT_small s
    generalize szT t 1048576 = z at *
    have hT' := hT hs
    have hS' := hS (p := p) hb hs
    have hI' := hI (p := p) hb hs
    obtain ⟨k, f, hk, e⟩ := reg_arr (t := t) (c := twiG g p t) (fun h => (twiG_zero h).1)
    rw [e] at hS' hI'
    generalize twiG g p t = c at *
    have hEk := hE (m := k) (f := f) (by omega)
    have hQ' := hQ hs
    have hMS' := hMS hs hsum
    have hMk := hM (m := k) (f := f) (k := 1) (by omega) (by omega)
    have hHk := hH (m := k) (k := 1) (by omega) (by omega)
    have hnt := nest_tb t
    have hSn : Can P N.spec_RegularClasses [.int .i64 p, grpD g, .lst 1 (nestD 1 (tbN t))] (.tupO 1 (row k f) [] [.int .i64 c]) := by rw [hnt]; exact hS'
    have hIn : Can P N.impl_RegularClasses [.int .i64 p, grpD g, .lst 1 (nestD 1 (tbN t))] (.tupO 1 (row k f) [] [.int .i64 c]) := by rw [hnt]; exact hI'
    have hQn : Can P N.laws_eqInt64SS [.lst 1 (nestD 1 (tbN t)), .lst 1 (nestD 1 (tbN t))] (.val (.bool true)) := by rw [hnt]; exact hQ'
    clear hS' hI' hQ' hnt
    refine can_of hf rfl rfl ?_
    clear e hZ hG hT hS hI hE hQ hMS hM hH
    (repeat' (conv => whnf)<;>first|exact True.intro|(refine if_ ?_ ?_<;>intro h<;>first|exact h.elim|(exfalso; omega)|skip)|refine vs_ ?_ (by first|exact .inr ⟨flat_row, flat_nu⟩|exact sd_)|refine dv_ ?_|exact fin_|(show ∃ _, _ ∧ _; refine ex_ ?_ (by first|with_reducible exact rfl|with_reducible exact hal|exact hZ'|exact hG'|exact hT'|exact hSn|exact hIn|exact hEk|exact hQn|exact hMS'|exact hMk|exact hHk|exact rd_))|(show ∃ _ _, _ ∧ _; refine ex2_ ?_ (by first|with_reducible exact rfl|with_reducible exact hal|exact hZ'|exact hG'|exact hT'|exact hSn|exact hIn|exact hEk|exact hQn|exact hMS'|exact hMk|exact hHk|exact rd_)))
  · generalize szT t 1048576 = z at *
    refine can_of hf rfl rfl ?_
    (repeat' (conv => whnf)<;>first|exact True.intro|(refine if_ ?_ ?_<;>intro h<;>first|exact h.elim|(exfalso; omega)|skip)|refine vs_ ?_|refine dv_ ?_|exact fin_|(show ∃ _, _ ∧ _; refine ex_ ?_ (by first|with_reducible exact rfl|exact hZ'|exact rd_))|(show ∃ _ _, _ ∧ _; refine ex2_ ?_ (by first|with_reducible exact rfl|exact hZ'|exact rd_)))
end Go.X
