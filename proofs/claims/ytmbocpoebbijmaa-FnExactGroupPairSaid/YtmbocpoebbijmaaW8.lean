import Derived.Test.YtmbocpoebbijmaaK16
import Derived.Test.YtmbocpoebbijmaaW7
import Derived.Test.YtmbocpoebbijmaaW3
set_option linter.all false
namespace Go.X
open Go Go.RowKit
set_option maxRecDepth 100000
set_option maxHeartbeats 8000000
set_option linter.unusedVariables false
variable {P : Program} {N : FN}
theorem ga_set {p : Int} {g : Grp} {f : Nat → Int} {i j : Nat} (h : j < g.n.toNat) (hn : g.n ≤ 6) (hi : i < 6) (hm : mN g i j < 6) : (algL (gaF p g f i j)).set (0 + 2 + ((i : Nat) : Int).toNat * 36 + ((j : Nat) : Int).toNat * 6 + ((mN g i j : Nat) : Int).toNat * 1) (.int .u8 1) = algL (gaF p g f i (j + 1)) := by
  rw [algL_setT hi (by omega) hm]
  unfold gaF
  dsimp only
  rw [gaT_s h]
theorem ga_0 {p : Int} {g : Grp} {f : Nat → Int} : alg0 p g.n f = gaF p g f 0 0 := by unfold alg0 gaF; rw [gaT_0]
theorem ga_r {p : Int} {g : Grp} {f : Nat → Int} {i : Nat} : gaF p g f i g.n.toNat = gaF p g f (i + 1) 0 := by unfold gaF; rw [gaT_r]
theorem st_alg0 {p : Int} {g : Grp} : Chunk.data algZ.length ([algZ].set 0 (splice algZ 0 ((algZ.set 0 (.int .i64 p)).set 1 (.int .i64 g.n)))) = .data 224 [algL (gaF p g (fun _ => 0) 0 0)] := by
  rw [alg0_L, List.set_cons_zero, splice_whole (by rw [algZ_len]; exact arr_len ..), ga_0, algZ_len]
theorem ga_rd {p : Int} {g : Grp} : sub2 ([algL (gaF p g (fun _ => 0) g.n.toNat 0)].set 0 ((algL (gaF p g (fun _ => 0) g.n.toNat 0)).set (0 + 218 + (0 : Int).toNat * 1) (.int .u8 1))) 0 0 224 = some (algL (gaA p g)) := by
  rw [algL_setF, List.set_cons_zero]
  exact sub2_one (arr_len ..)
theorem c_sAlgG (hf : isFn P N.spec_l06Algebra (ir_spec_l06Algebra N) = true) : C_sAlgG P N := by
  intro g p hb hg
  have hat := grpAt_one g
  have hn := hg.1
  refine can_of hf rfl rfl ?_
  (repeat' (conv => whnf)<;>first|exact True.intro|(refine if_ ?_ ?_<;>intro h<;>first|exact h.elim|(exfalso; omega)|skip)|refine vs_ ?_ (by first|exact ⟨rfl, by rw [List.length_set, algZ_len]; decide, rfl⟩|exact sd_)|refine dv_ ?_|exact fin_|(show ∃ _, _ ∧ _; refine ex_ ?_ (by first|with_reducible exact rfl|with_reducible exact hat.n|exact rd_))|(show ∃ _ _, _ ∧ _; refine ex2_ ?_ (by first|with_reducible exact rfl|with_reducible exact hat.n|exact rd_)))
  conv => whnf
  refine vc_loop (α := Nat) 0 (fun i => g.n.toNat - i) (fun i => i ≤ g.n.toNat) [] (fun i => [(6, .d (.int .i64 i))]) (fun i => [(6, .data 224 [algL (gaF p g (fun _ => 0) i 0)])]) lp_ ?_ ?_
  · (repeat' (conv => whnf)<;>first|exact True.intro|(refine if_ ?_ ?_<;>intro h<;>first|exact h.elim|(exfalso; omega)|skip)|refine vs_ ?_ (by first|exact st_alg0|exact sd_)|refine dv_ ?_|exact fin_|(show ∃ _, _ ∧ _; refine ex_ ?_)|(show ∃ _ _, _ ∧ _; refine ex2_ ?_))
  · intro i hi
    by_cases hlt : i < g.n.toNat
    · have hi6 : i < 6 := by omega
      (repeat' (conv => whnf)<;>first|exact True.intro|(refine if_ ?_ ?_<;>intro h<;>first|exact h.elim|(exfalso; omega)|skip)|refine vs_ ?_|refine dv_ ?_|exact fin_|(show ∃ _, _ ∧ _; refine ex_ ?_ (by first|with_reducible exact rfl|with_reducible exact hat.n|exact rd_))|(show ∃ _ _, _ ∧ _; refine ex2_ ?_ (by first|with_reducible exact rfl|with_reducible exact hat.n|exact rd_)))
      conv => whnf
      refine vc_loop (α := Nat) 0 (fun j => g.n.toNat - j) (fun j => j ≤ g.n.toNat) [] (fun j => [(7, .d (.int .i64 j))]) (fun j => [(6, .data 224 [algL (gaF p g (fun _ => 0) i j)])]) lp_ ?_ ?_
      · (repeat' (conv => whnf)<;>first|exact True.intro|(refine if_ ?_ ?_<;>intro h<;>first|exact h.elim|(exfalso; omega)|skip)|refine vs_ ?_|refine dv_ ?_|exact fin_|(show ∃ _, _ ∧ _; refine ex_ ?_)|(show ∃ _ _, _ ∧ _; refine ex2_ ?_))
      · intro j hj
        by_cases hlt2 : j < g.n.toNat
        · have hj6 : j < 6 := by omega
          obtain ⟨t1, t2⟩ := GP.tN hb hg hlt hlt2
          have r1 := hat.t hi6 hj6
          rw [t1] at r1
          have hm6 : mN g i j < 6 := by omega
          have hal : (algL (gaF p g (fun _ => 0) i j)).length = 224 := arr_len ..
          (repeat' (conv => whnf)<;>first|exact True.intro|(refine if_ ?_ ?_<;>intro h<;>first|exact h.elim|(exfalso; omega)|skip)|refine vs_ ?_ (by first|exact ⟨rfl, by rw [hal]; omega⟩|exact sd_)|refine dv_ ?_|exact fin_|(show ∃ _, _ ∧ _; refine ex_ ?_ (by first|with_reducible exact rfl|with_reducible exact hat.n|with_reducible exact r1|exact rd_))|(show ∃ _ _, _ ∧ _; refine ex2_ ?_ (by first|with_reducible exact rfl|with_reducible exact hat.n|with_reducible exact r1|exact rd_)))
          conv => whnf
          refine ⟨j + 1, by omega, by omega, ?_⟩
          rw [← ga_set hlt2 (by omega) hi6 hm6]
          (repeat' (conv => whnf)<;>first|exact True.intro|(refine if_ ?_ ?_<;>intro h<;>first|exact h.elim|(exfalso; omega)|skip)|refine vs_ ?_|refine dv_ ?_|exact fin_|(show ∃ _, _ ∧ _; refine ex_ ?_)|(show ∃ _ _, _ ∧ _; refine ex2_ ?_))
        · have : j = g.n.toNat := by omega
          subst this
          (repeat' (conv => whnf)<;>first|exact True.intro|(refine if_ ?_ ?_<;>intro h<;>first|exact h.elim|(exfalso; omega)|skip)|refine vs_ ?_|refine dv_ ?_|exact fin_|(show ∃ _, _ ∧ _; refine ex_ ?_ (by first|with_reducible exact rfl|with_reducible exact hat.n|exact rd_))|(show ∃ _ _, _ ∧ _; refine ex2_ ?_ (by first|with_reducible exact rfl|with_reducible exact hat.n|exact rd_)))
          conv => whnf
          refine ⟨i + 1, by omega, by omega, ?_⟩
          rw [← ga_r]
          (repeat' (conv => whnf)<;>first|exact True.intro|(refine if_ ?_ ?_<;>intro h<;>first|exact h.elim|(exfalso; omega)|skip)|refine vs_ ?_|refine dv_ ?_|exact fin_|(show ∃ _, _ ∧ _; refine ex_ ?_)|(show ∃ _ _, _ ∧ _; refine ex2_ ?_))
    · have : i = g.n.toNat := by omega
      subst this
      have hal : (algL (gaF p g (fun _ => 0) g.n.toNat 0)).length = 224 := arr_len ..
      (repeat' (conv => whnf)<;>first|exact True.intro|(refine if_ ?_ ?_<;>intro h<;>first|exact h.elim|(exfalso; omega)|skip)|refine vs_ ?_|refine dv_ ?_|exact fin_|(show ∃ _, _ ∧ _; refine ex_ ?_ (by first|with_reducible exact rfl|with_reducible exact hat.n|with_reducible exact ga_rd|with_reducible exact alg_rd2 algZ_len|exact rd_))|(show ∃ _ _, _ ∧ _; refine ex2_ ?_ (by first|with_reducible exact rfl|with_reducible exact hat.n|with_reducible exact ga_rd|with_reducible exact alg_rd2 algZ_len|exact rd_)))
end Go.X
namespace Go.X
open Go Go.RowKit
set_option maxRecDepth 100000
set_option maxHeartbeats 8000000
set_option linter.unusedVariables false
variable {P : Program} {N : FN}
def boL (f : Nat → Bool) : List D := arr 6 fun q => .bool (f q)
theorem boL_get {f : Nat → Bool} {j : Nat} (h : j < 6) : get2 [boL f] 0 (0 + ((j : Nat) : Int).toNat * 1) = some (.bool (f j)) := by
  show (boL f)[0 + ((j : Nat) : Int).toNat * 1]? = _
  rw [show 0 + ((j : Nat) : Int).toNat * 1 = j by omega]
  exact arr_get h
theorem boL_set {f : Nat → Bool} {j : Nat} (h : j < 6) : (boL f).set (0 + ((j : Nat) : Int).toNat * 1) (.bool true) = boL fun q => f q || j == q := by
  rw [show 0 + ((j : Nat) : Int).toNat * 1 = j by omega]
  refine arr_of (by rw [List.length_set]; exact arr_len ..) fun q hq => ?_
  rw [List.getElem?_set]
  by_cases e : j = q
  · subst e
    rw [if_pos rfl, if_pos (by rw [show (boL f).length = 6 from arr_len ..]; exact h)]
    simp
  · rw [if_neg e, show (boL f)[q]? = some (.bool (f q)) from arr_get hq]
    simp [e]
theorem boL_0 {f : Nat → Bool} (h : ∀ q, f q = false) : boL f = [.bool false, .bool false, .bool false, .bool false, .bool false, .bool false] := by
  rw [show f = fun _ => false from funext h]; rfl
def owB (g : Grp) (i m j : Nat) : Bool := (List.range m).any fun x => cj g x i == j
theorem owB_s {g : Grp} {i m : Nat} : (fun j => owB g i (m + 1) j) = fun j => owB g i m j || cj g m i == j := funext fun j => by
  unfold owB
  rw [List.range_succ, List.any_append]; simp
theorem owB_all {g : Grp} {i : Nat} : (fun j => owB g i g.n.toNat j) = clsB g i := rfl
def clP (g : Grp) (i m : Nat) : List Nat := (List.range m).filter (clsB g i)
theorem clP_s {g : Grp} {i m : Nat} : clP g i (m + 1) = if clsB g i m = true then clP g i m ++ [m] else clP g i m := by
  unfold clP
  rw [List.range_succ, List.filter_append]
  by_cases h : clsB g i m = true
  · rw [if_pos h, show [m].filter (clsB g i) = [m] from by rw [List.filter_cons, if_pos h]; rfl]
  · rw [if_neg h, show [m].filter (clsB g i) = [] from by rw [List.filter_cons, if_neg h]; rfl, List.append_nil]
theorem clP_len {g : Grp} {i m : Nat} : (clP g i m).length ≤ m := by
  have := List.length_filter_le (clsB g i) (List.range m)
  rw [List.length_range] at this; exact this
theorem iN_app {L : List Nat} {m : Nat} : iN L ++ [[.int .i64 ((m : Nat) : Int)]] = iN (L ++ [m]) := by unfold iN; rw [List.map_append]; rfl
def meB (g : Grp) (i m j : Nat) : Bool := metB g i j || (decide (j < m) && clsB g i j)
theorem meB_s {g : Grp} {i m : Nat} : (fun j => meB g i (m + 1) j) = if clsB g i m = true then (fun j => meB g i m j || m == j) else fun j => meB g i m j := by
  by_cases h : clsB g i m = true
  · rw [if_pos h]
    refine funext fun j => ?_
    unfold meB
    by_cases e : m = j
    · subst e
      simp [h]
    · rw [show decide (j < m + 1) = decide (j < m) from by rw [decide_eq_decide]; omega]
      simp [e]
  · rw [if_neg h]
    refine funext fun j => ?_
    unfold meB
    by_cases e : m = j
    · subst e
      simp [h]
    · rw [show decide (j < m + 1) = decide (j < m) from by rw [decide_eq_decide]; omega]
theorem meB_0 {g : Grp} {i : Nat} : (fun j => meB g i 0 j) = metB g i := funext fun j => by unfold meB; simp
theorem meB_n {g : Grp} (hb : GrpB g) (hg : GP g) {i : Nat} (hi : i < g.n.toNat) : (fun j => meB g i g.n.toNat j) = metB g (i + 1) := funext fun j => by
  rw [met_s]
  unfold meB
  cases c : clsB g i j with
  | true => rw [decide_eq_true (cls_lt hb hg hi c)]; simp
  | false => simp
theorem mul3 {g : Grp} (hb : GrpB g) (hg : GP g) {x i : Nat} (hx : x < g.n.toNat) : mulL g [x, i, invN g x] = cj g x i := by
  show mN g (mN g (mN g 0 x) i) (invN g x) = _
  rw [(GP.one hb hg hx).1]; rfl
theorem c_sClasses (hI : C_sInvG P N) (hT : C_sTimesG P N) (hf : isFn P N.spec_l06Classes (ir_spec_l06Classes N) = true) : C_sClasses P N := by
  intro g hb hg
  have hat := grpAt_one g
  have hal := hat.all
  have hn := hg.1
  have e0 : clD g = clU g g.n.toNat := rfl
  rw [e0]
  refine can_of hf rfl rfl ?_
  (repeat' (conv => whnf)<;>first|exact True.intro|(refine if_ ?_ ?_<;>intro h<;>first|exact h.elim|(exfalso; omega)|skip)|refine vs_ ?_|refine dv_ ?_|exact fin_|(show ∃ _, _ ∧ _; refine ex_ ?_)|(show ∃ _ _, _ ∧ _; refine ex2_ ?_))
  conv => whnf
  refine vc_loop (α := Nat) 0 (fun i => g.n.toNat - i) (fun i => i ≤ g.n.toNat) [] (fun i => [(4, .row 5 1), (5, .d (.int .i64 i))]) (fun i => [(4, .data 6 [boL (metB g i)]), (5, .data 1 (clU g i))]) lp_ ?_ ?_
  · (repeat' (conv => whnf)<;>first|exact True.intro|(refine if_ ?_ ?_<;>intro h<;>first|exact h.elim|(exfalso; omega)|skip)|refine vs_ ?_ (by first|exact congrArg (fun x => Chunk.data 6 [x]) (boL_0 fun q => rfl).symm|exact sd_)|refine dv_ ?_|exact fin_|(show ∃ _, _ ∧ _; refine ex_ ?_)|(show ∃ _ _, _ ∧ _; refine ex2_ ?_))
  · intro i hi
    have hlen := clU_len (g := g) i
    by_cases hlt : i < g.n.toNat
    · have hi6 : i < 6 := by omega
      have hr := met_rep (g := g) (i := i)
      cases c : metB g i i with
      | true =>
        have hsk := met_skip hb hg hlt c
        rw [c] at hr
        have hgt := boL_get (f := metB g i) hi6
        rw [c] at hgt
        (repeat' (conv => whnf)<;>first|exact True.intro|(refine if_ ?_ ?_<;>intro h<;>first|exact h.elim|(exfalso; omega)|skip)|refine vs_ ?_|refine dv_ ?_|exact fin_|(show ∃ _, _ ∧ _; refine ex_ ?_ (by first|with_reducible exact rfl|with_reducible exact hat.n|with_reducible exact hgt|exact rd_))|(show ∃ _ _, _ ∧ _; refine ex2_ ?_ (by first|with_reducible exact rfl|with_reducible exact hat.n|with_reducible exact hgt|exact rd_)))
        conv => whnf
        refine ⟨i + 1, by omega, by omega, ?_⟩
        rw [clU_s, if_neg (by rw [hr]; simp), show metB g (i + 1) = metB g i from funext hsk]
        (repeat' (conv => whnf)<;>first|exact True.intro|(refine if_ ?_ ?_<;>intro h<;>first|exact h.elim|(exfalso; omega)|skip)|refine vs_ ?_|refine dv_ ?_|exact fin_|(show ∃ _, _ ∧ _; refine ex_ ?_)|(show ∃ _ _, _ ∧ _; refine ex2_ ?_))
      | false =>
        rw [c] at hr
        have hgt := boL_get (f := metB g i) hi6
        rw [c] at hgt
        (repeat' (conv => whnf)<;>first|exact True.intro|(refine if_ ?_ ?_<;>intro h<;>first|exact h.elim|(exfalso; omega)|skip)|refine vs_ ?_|refine dv_ ?_|exact fin_|(show ∃ _, _ ∧ _; refine ex_ ?_ (by first|with_reducible exact rfl|with_reducible exact hat.n|with_reducible exact hgt|exact rd_))|(show ∃ _ _, _ ∧ _; refine ex2_ ?_ (by first|with_reducible exact rfl|with_reducible exact hat.n|with_reducible exact hgt|exact rd_)))
        conv => whnf
        refine vc_loop (α := Nat) 0 (fun x => g.n.toNat - x) (fun x => x ≤ g.n.toNat) [] (fun x => [(7, .d (.int .i64 x))]) (fun x => [(7, .data 6 [boL fun j => owB g i x j])]) lp_ ?_ ?_
        · (repeat' (conv => whnf)<;>first|exact True.intro|(refine if_ ?_ ?_<;>intro h<;>first|exact h.elim|(exfalso; omega)|skip)|refine vs_ ?_ (by first|exact congrArg (fun x => Chunk.data 6 [x]) (boL_0 fun q => rfl).symm|exact sd_)|refine dv_ ?_|exact fin_|(show ∃ _, _ ∧ _; refine ex_ ?_)|(show ∃ _ _, _ ∧ _; refine ex2_ ?_))
        · intro x hx
          by_cases hlt2 : x < g.n.toNat
          · obtain ⟨v1, _⟩ := GP.inv hb hg hlt2
            have hI' := hI hb hg hlt2
            have hT' := hT (L := [x, i, invN g x]) hb hg (by simp) (by simp only [List.mem_cons, List.not_mem_nil, or_false]; rintro y (rfl | rfl | rfl) <;> omega)
            rw [mul3 hb hg hlt2] at hT'
            have hcl := GP.cj_lt hb hg hlt2 hlt
            (repeat' (conv => whnf)<;>first|exact True.intro|(refine if_ ?_ ?_<;>intro h<;>first|exact h.elim|(exfalso; omega)|skip)|refine vs_ ?_|refine dv_ ?_|exact fin_|(show ∃ _, _ ∧ _; refine ex_ ?_ (by first|with_reducible exact rfl|with_reducible exact hat.n|with_reducible exact hal|exact hI'|exact hT'|exact rd_))|(show ∃ _ _, _ ∧ _; refine ex2_ ?_ (by first|with_reducible exact rfl|with_reducible exact hat.n|with_reducible exact hal|exact hI'|exact hT'|exact rd_)))
            conv => whnf
            refine ⟨x + 1, by omega, by omega, ?_⟩
            rw [owB_s, ← boL_set (by omega)]
            (repeat' (conv => whnf)<;>first|exact True.intro|(refine if_ ?_ ?_<;>intro h<;>first|exact h.elim|(exfalso; omega)|skip)|refine vs_ ?_|refine dv_ ?_|exact fin_|(show ∃ _, _ ∧ _; refine ex_ ?_)|(show ∃ _ _, _ ∧ _; refine ex2_ ?_))
          · have : x = g.n.toNat := by omega
            subst this
            rw [owB_all]
            (repeat' (conv => whnf)<;>first|exact True.intro|(refine if_ ?_ ?_<;>intro h<;>first|exact h.elim|(exfalso; omega)|skip)|refine vs_ ?_|refine dv_ ?_|exact fin_|(show ∃ _, _ ∧ _; refine ex_ ?_ (by first|with_reducible exact rfl|with_reducible exact hat.n|exact rd_))|(show ∃ _ _, _ ∧ _; refine ex2_ ?_ (by first|with_reducible exact rfl|with_reducible exact hat.n|exact rd_)))
            conv => whnf
            refine vc_loop (α := Nat) 0 (fun j => g.n.toNat - j) (fun j => j ≤ g.n.toNat) [] (fun j => [(8, .row 9 1), (9, .d (.int .i64 j))]) (fun j => [(4, .data 6 [boL fun q => meB g i j q]), (9, .data 1 (iN (clP g i j)))]) lp_ ?_ ?_
            · rw [meB_0]
              (repeat' (conv => whnf)<;>first|exact True.intro|(refine if_ ?_ ?_<;>intro h<;>first|exact h.elim|(exfalso; omega)|skip)|refine vs_ ?_|refine dv_ ?_|exact fin_|(show ∃ _, _ ∧ _; refine ex_ ?_)|(show ∃ _ _, _ ∧ _; refine ex2_ ?_))
            · intro j hj
              have hl2 := clP_len (g := g) (i := i) (m := j)
              have hl3 := iN_len (clP g i j)
              by_cases hlt3 : j < g.n.toNat
              · have hj6 : j < 6 := by omega
                have hgo := boL_get (f := clsB g i) hj6
                cases d : clsB g i j with
                | true =>
                  rw [d] at hgo
                  (repeat' (conv => whnf)<;>first|exact True.intro|(refine if_ ?_ ?_<;>intro h<;>first|exact h.elim|(exfalso; omega)|skip)|refine vs_ ?_ (by first|exact ⟨by (simp only [List.length_cons, List.length_nil, maxRow]; omega), by decide, by decide⟩|exact sd_)|refine dv_ ?_|exact fin_|(show ∃ _, _ ∧ _; refine ex_ ?_ (by first|with_reducible exact rfl|with_reducible exact hat.n|with_reducible exact hgo|exact rd_))|(show ∃ _ _, _ ∧ _; refine ex2_ ?_ (by first|with_reducible exact rfl|with_reducible exact hat.n|with_reducible exact hgo|exact rd_)))
                  conv => whnf
                  refine ⟨j + 1, by omega, by omega, ?_⟩
                  rw [meB_s, if_pos d, clP_s, if_pos d, ← boL_set hj6, ← iN_app]
                  (repeat' (conv => whnf)<;>first|exact True.intro|(refine if_ ?_ ?_<;>intro h<;>first|exact h.elim|(exfalso; omega)|skip)|refine vs_ ?_|refine dv_ ?_|exact fin_|(show ∃ _, _ ∧ _; refine ex_ ?_)|(show ∃ _ _, _ ∧ _; refine ex2_ ?_))
                | false =>
                  rw [d] at hgo
                  (repeat' (conv => whnf)<;>first|exact True.intro|(refine if_ ?_ ?_<;>intro h<;>first|exact h.elim|(exfalso; omega)|skip)|refine vs_ ?_|refine dv_ ?_|exact fin_|(show ∃ _, _ ∧ _; refine ex_ ?_ (by first|with_reducible exact rfl|with_reducible exact hat.n|with_reducible exact hgo|exact rd_))|(show ∃ _ _, _ ∧ _; refine ex2_ ?_ (by first|with_reducible exact rfl|with_reducible exact hat.n|with_reducible exact hgo|exact rd_)))
                  conv => whnf
                  refine ⟨j + 1, by omega, by omega, ?_⟩
                  rw [meB_s, if_neg (by rw [d]; simp), clP_s, if_neg (by rw [d]; simp)]
                  (repeat' (conv => whnf)<;>first|exact True.intro|(refine if_ ?_ ?_<;>intro h<;>first|exact h.elim|(exfalso; omega)|skip)|refine vs_ ?_|refine dv_ ?_|exact fin_|(show ∃ _, _ ∧ _; refine ex_ ?_)|(show ∃ _ _, _ ∧ _; refine ex2_ ?_))
              · have : j = g.n.toNat := by omega
                subst this
                rw [meB_n hb hg hlt]
                (repeat' (conv => whnf)<;>first|exact True.intro|(refine if_ ?_ ?_<;>intro h<;>first|exact h.elim|(exfalso; omega)|skip)|refine vs_ ?_ (by first|exact ⟨by (simp only [List.length_cons, List.length_nil, maxRow]; omega), by decide, by decide⟩|exact sd_)|refine dv_ ?_|exact fin_|(show ∃ _, _ ∧ _; refine ex_ ?_ (by first|with_reducible exact rfl|with_reducible exact hat.n|exact rd_))|(show ∃ _ _, _ ∧ _; refine ex2_ ?_ (by first|with_reducible exact rfl|with_reducible exact hat.n|exact rd_)))
                conv => whnf
                refine ⟨i + 1, by omega, by omega, ?_⟩
                rw [clU_s, if_pos (by rw [hr]; rfl)]
                (repeat' (conv => whnf)<;>first|exact True.intro|(refine if_ ?_ ?_<;>intro h<;>first|exact h.elim|(exfalso; omega)|skip)|refine vs_ ?_|refine dv_ ?_|exact fin_|(show ∃ _, _ ∧ _; refine ex_ ?_)|(show ∃ _ _, _ ∧ _; refine ex2_ ?_))
    · have : i = g.n.toNat := by omega
      subst this
      (repeat' (conv => whnf)<;>first|exact True.intro|(refine if_ ?_ ?_<;>intro h<;>first|exact h.elim|(exfalso; omega)|skip)|refine vs_ ?_|refine dv_ ?_|exact fin_|(show ∃ _, _ ∧ _; refine ex_ ?_ (by first|with_reducible exact rfl|with_reducible exact hat.n|exact rd_))|(show ∃ _ _, _ ∧ _; refine ex2_ ?_ (by first|with_reducible exact rfl|with_reducible exact hat.n|exact rd_)))
end Go.X
