import Derived.Test.YtiefibobgdbcdaaK16
import Derived.Test.YtiefibobgdbcdaaW3
import Derived.Test.YtiefibobgdbcdaaW6
import Derived.Test.YtiefibobgdbcdaaK14
import Derived.Test.YtiefibobgdbcdaaW8
import Derived.Test.YtiefibobgdbcdaaK3
set_option linter.all false
namespace Go.X
open Go Go.RowKit
set_option maxRecDepth 100000
set_option maxHeartbeats 8000000
set_option linter.unusedVariables false
variable {P : Program} {N : FN}
def gtN (g : Grp) : Nat → Int := fun q => g.t (q / 6) (q % 6)
theorem grp_t {g : Grp} : sub2 [grpL g] 0 (0 + 1) 36 = some (cel .u8 36 (gtN g)) := grp_tab (grpAt_one g)
theorem grp_put {g : Grp} : splice (grpZ.set 0 (.int .i64 g.n)) 1 (cel .u8 36 (gtN g)) = grpL g := by
  have hz : (grpZ.set 0 (.int .i64 g.n)).length = 37 := by rw [List.length_set]; exact grpZ_len
  refine arr_of (by rw [splice_len (by rw [cel_len, hz]; decide), hz]) fun q hq => ?_
  unfold splice grpF
  cases q with
  | zero => rfl
  | succ q =>
    rw [if_neg (by omega), List.getElem?_append_right (by rw [List.length_take]; omega), List.length_take, hz, List.getElem?_append_left (by rw [cel_len]; omega), show q + 1 - min 1 37 = q by omega, cel_get (by omega)]
    rfl
theorem grp_rd {g : Grp} : sub2 (([grpZ].set 0 (grpZ.set (0 + 0) (.int .i64 g.n))).set 0 (splice (grpZ.set (0 + 0) (.int .i64 g.n)) (0 + 1) (cel .u8 36 (gtN g)))) 0 0 37 = some (grpL g) := by
  simp only [List.set_cons_zero, Nat.zero_add]
  rw [grp_put]
  exact sub2_one (arr_len ..)
theorem grp_rd2 {g : Grp} : sub2 ([grpZ].set 0 (splice grpZ 0 (grpL g))) 0 0 37 = some (grpL g) := by
  rw [List.set_cons_zero, splice_whole (by rw [grpZ_len]; exact arr_len ..)]
  exact sub2_one (arr_len ..)
theorem c_toGroup (hV : C_id P N.laws_toByteA6A6 36) (hf : isFn P N.laws_toGroup (ir_laws_toGroup N) = true) : C_toGroup P N := by
  intro g
  have f1 := (grpAt_one g).n
  have l1 : 0 + 1 + 36 ≤ (grpZ.set (0 + 0) (.int .i64 g.n)).length := by rw [List.length_set, grpZ_len]; decide
  refine can_of hf rfl rfl ?_
  (repeat' (conv => whnf)<;>first|exact True.intro|(refine if_ ?_ ?_<;>intro h<;>first|exact h.elim|(exfalso; omega)|skip)|refine vs_ ?_ (by first|exact l1|exact sd_)|refine dv_ ?_|exact fin_|(show ∃ _, _ ∧ _; refine ex_ ?_ (by first|with_reducible exact rfl|with_reducible exact f1|with_reducible exact grp_t|with_reducible exact grp_rd|with_reducible exact grp_rd2|exact hV|exact rd_))|(show ∃ _ _, _ ∧ _; refine ex2_ ?_ (by first|with_reducible exact rfl|with_reducible exact f1|with_reducible exact grp_t|with_reducible exact grp_rd|with_reducible exact grp_rd2|exact hV|exact rd_)))
end Go.X
namespace Go.X
open Go Go.RowKit
set_option maxRecDepth 100000
set_option maxHeartbeats 8000000
set_option linter.unusedVariables false
variable {P : Program} {N : FN}
theorem c_sInvG (hf : isFn P N.spec_l06Inverse (ir_spec_l06Inverse N) = true) : C_sInvG P N := by
  intro g i hb hg hi
  have hat := grpAt_one g
  have hn := hg.1
  have hi6 : i < 6 := by omega
  have e0 := GP.inv1 hb hg hi
  refine can_of hf rfl rfl ?_
  (repeat' (conv => whnf)<;>first|exact True.intro|(refine if_ ?_ ?_<;>intro h<;>first|exact h.elim|(exfalso; omega)|skip)|refine vs_ ?_|refine dv_ ?_|exact fin_|(show ∃ _, _ ∧ _; refine ex_ ?_)|(show ∃ _ _, _ ∧ _; refine ex2_ ?_))
  conv => whnf
  refine vc_loop (α := Nat) 0 (fun j => g.n.toNat - j) (fun j => j ≤ g.n.toNat ∧ ∀ q, q < j → decide (g.t i q = 0) = false) [] (fun j => [(5, .d (.int .i64 j))]) (fun j => []) lp_ ?_ ?_
  · (repeat' (conv => whnf)<;>first|exact True.intro|(refine if_ ?_ ?_<;>intro h<;>first|exact h.elim|(exfalso; omega)|skip)|refine vs_ ?_|refine dv_ ?_|exact fin_|(show ∃ _, _ ∧ _; refine ex_ ?_)|(show ∃ _ _, _ ∧ _; refine ex2_ ?_))
  · rintro j ⟨hj, hall⟩
    by_cases hlt : j < g.n.toNat
    · have hj6 : j < 6 := by omega
      by_cases c1 : g.t i j = 0
      · rw [idxF_some hlt (decide_eq_true c1) hall] at e0
        rw [← e0]
        (repeat' (conv => whnf)<;>first|exact True.intro|(refine if_ ?_ ?_<;>intro h<;>first|exact h.elim|(exfalso; omega)|skip)|refine vs_ ?_|refine dv_ ?_|exact fin_|(show ∃ _, _ ∧ _; refine ex_ ?_ (by first|with_reducible exact rfl|with_reducible exact hat.n|with_reducible exact hat.t hi6 hj6|exact rd_))|(show ∃ _ _, _ ∧ _; refine ex2_ ?_ (by first|with_reducible exact rfl|with_reducible exact hat.n|with_reducible exact hat.t hi6 hj6|exact rd_)))
      · (repeat' (conv => whnf)<;>first|exact True.intro|(refine if_ ?_ ?_<;>intro h<;>first|exact h.elim|(exfalso; omega)|skip)|refine vs_ ?_|refine dv_ ?_|exact fin_|(show ∃ _, _ ∧ _; refine ex_ ?_ (by first|with_reducible exact rfl|with_reducible exact hat.n|with_reducible exact hat.t hi6 hj6|exact rd_))|(show ∃ _ _, _ ∧ _; refine ex2_ ?_ (by first|with_reducible exact rfl|with_reducible exact hat.n|with_reducible exact hat.t hi6 hj6|exact rd_)))
        all_goals (conv => whnf)
        all_goals (refine ⟨j + 1, ⟨by omega, all_succ hall (decide_eq_false c1)⟩, by omega, ?_⟩)
        all_goals (repeat' (conv => whnf)<;>first|exact True.intro|(refine if_ ?_ ?_<;>intro h<;>first|exact h.elim|(exfalso; omega)|skip)|refine vs_ ?_|refine dv_ ?_|exact fin_|(show ∃ _, _ ∧ _; refine ex_ ?_)|(show ∃ _ _, _ ∧ _; refine ex2_ ?_))
    · exfalso
      have : j = g.n.toNat := by omega
      subst this
      rw [idxF_none hall] at e0
      omega
theorem mulL_s {g : Grp} {L : List Nat} {q : Nat} (h : q < L.length) : mulL g (L.take (q + 1)) = mN g (mulL g (L.take q)) (L.getD q 0) := by
  unfold mulL
  rw [List.take_add_one, List.foldl_append, List.getD_eq_getElem?_getD, List.getElem?_eq_getElem h]; rfl
theorem mulL_lt {g : Grp} (hb : GrpB g) (hg : GP g) : ∀ {L : List Nat} {x : Nat}, (∀ x ∈ L, x < g.n.toNat) → x < g.n.toNat → L.foldl (mN g) x < g.n.toNat
  | [], _, _, h => h
  | y :: r, x, hL, h => mulL_lt hb hg (L := r) (x := mN g x y) (fun z hz => hL z (List.mem_cons_of_mem _ hz)) (GP.tN hb hg h (hL y (List.mem_cons_self ..))).2
theorem c_sTimesG (hf : isFn P N.spec_l06Times (ir_spec_l06Times N) = true) : C_sTimesG P N := by
  intro g L hb hg hl hL
  have hat := grpAt_one g
  have hn := hg.1
  have h0 := GP.zero hb hg
  have hlen : (iN L).length = L.length := iN_len L
  refine can_of hf rfl rfl ?_
  (repeat' (conv => whnf)<;>first|exact True.intro|(refine if_ ?_ ?_<;>intro h<;>first|exact h.elim|(exfalso; omega)|skip)|refine vs_ ?_|refine dv_ ?_|exact fin_|(show ∃ _, _ ∧ _; refine ex_ ?_)|(show ∃ _ _, _ ∧ _; refine ex2_ ?_))
  conv => whnf
  refine vc_loop (α := Nat) 0 (fun q => L.length - q) (fun q => q ≤ L.length) [] (fun q => [(5, .d (.int .i64 (mulL g (L.take q) : Nat))), (6, .d (.int .i64 q))]) (fun q => []) lp_ ?_ ?_
  · (repeat' (conv => whnf)<;>first|exact True.intro|(refine if_ ?_ ?_<;>intro h<;>first|exact h.elim|(exfalso; omega)|skip)|refine vs_ ?_|refine dv_ ?_|exact fin_|(show ∃ _, _ ∧ _; refine ex_ ?_)|(show ∃ _ _, _ ∧ _; refine ex2_ ?_))
  · intro q hq
    by_cases hlt : q < L.length
    · have hm : mulL g (L.take q) < g.n.toNat := mulL_lt hb hg (fun x hx => hL x (List.mem_of_mem_take hx)) h0
      have hx : L.getD q 0 < g.n.toNat := hL _ (by rw [List.getD_eq_getElem?_getD, List.getElem?_eq_getElem hlt]; exact List.getElem_mem hlt)
      obtain ⟨t1, t2⟩ := GP.tN hb hg hm hx
      have r1 := get2_iN hlt
      have r2 := hat.t (i := mulL g (L.take q)) (j := L.getD q 0) (by omega) (by omega)
      rw [t1] at r2
      have e := mulL_s (g := g) hlt
      (repeat' (conv => whnf)<;>first|exact True.intro|(refine if_ ?_ ?_<;>intro h<;>first|exact h.elim|(exfalso; omega)|skip)|refine vs_ ?_|refine dv_ ?_|exact fin_|(show ∃ _, _ ∧ _; refine ex_ ?_ (by first|with_reducible exact rfl|with_reducible exact r1|with_reducible exact r2|exact rd_))|(show ∃ _ _, _ ∧ _; refine ex2_ ?_ (by first|with_reducible exact rfl|with_reducible exact r1|with_reducible exact r2|exact rd_)))
      conv => whnf
      refine ⟨q + 1, by omega, by omega, ?_⟩
      rw [e]
      (repeat' (conv => whnf)<;>first|exact True.intro|(refine if_ ?_ ?_<;>intro h<;>first|exact h.elim|(exfalso; omega)|skip)|refine vs_ ?_|refine dv_ ?_|exact fin_|(show ∃ _, _ ∧ _; refine ex_ ?_)|(show ∃ _ _, _ ∧ _; refine ex2_ ?_))
    · have : q = L.length := by omega
      subst this
      rw [List.take_length]
      (repeat' (conv => whnf)<;>first|exact True.intro|(refine if_ ?_ ?_<;>intro h<;>first|exact h.elim|(exfalso; omega)|skip)|refine vs_ ?_|refine dv_ ?_|exact fin_|(show ∃ _, _ ∧ _; refine ex_ ?_)|(show ∃ _ _, _ ∧ _; refine ex2_ ?_))
theorem c_primed (hG : C_IsGroup P N) (hP : C_isPrime P N) (hf : isFn P N.impl_primed (ir_impl_primed N) = true) : C_primed P N := by
  intro g p hb
  have hat := (grpAt_one g).all
  have hG' := hG hb
  have hP' := hP (p := p)
  refine can_of hf rfl rfl ?_
  cases h1 : dB (GP g) <;> cases h2 : decide (p ∈ primes) <;> rw [h1] at hG' <;> rw [h2] at hP'
  · (repeat' (conv => whnf)<;>first|exact True.intro|(refine if_ ?_ ?_<;>intro h<;>first|exact h.elim|(exfalso; omega)|skip)|refine vs_ ?_|refine dv_ ?_|exact fin_|(show ∃ _, _ ∧ _; refine ex_ ?_ (by first|with_reducible exact rfl|with_reducible exact hat|exact hG'|exact hP'|exact rd_))|(show ∃ _ _, _ ∧ _; refine ex2_ ?_ (by first|with_reducible exact rfl|with_reducible exact hat|exact hG'|exact hP'|exact rd_)))
  · (repeat' (conv => whnf)<;>first|exact True.intro|(refine if_ ?_ ?_<;>intro h<;>first|exact h.elim|(exfalso; omega)|skip)|refine vs_ ?_|refine dv_ ?_|exact fin_|(show ∃ _, _ ∧ _; refine ex_ ?_ (by first|with_reducible exact rfl|with_reducible exact hat|exact hG'|exact hP'|exact rd_))|(show ∃ _ _, _ ∧ _; refine ex2_ ?_ (by first|with_reducible exact rfl|with_reducible exact hat|exact hG'|exact hP'|exact rd_)))
  · (repeat' (conv => whnf)<;>first|exact True.intro|(refine if_ ?_ ?_<;>intro h<;>first|exact h.elim|(exfalso; omega)|skip)|refine vs_ ?_|refine dv_ ?_|exact fin_|(show ∃ _, _ ∧ _; refine ex_ ?_ (by first|with_reducible exact rfl|with_reducible exact hat|exact hG'|exact hP'|exact rd_))|(show ∃ _ _, _ ∧ _; refine ex2_ ?_ (by first|with_reducible exact rfl|with_reducible exact hat|exact hG'|exact hP'|exact rd_)))
  · (repeat' (conv => whnf)<;>first|exact True.intro|(refine if_ ?_ ?_<;>intro h<;>first|exact h.elim|(exfalso; omega)|skip)|refine vs_ ?_|refine dv_ ?_|exact fin_|(show ∃ _, _ ∧ _; refine ex_ ?_ (by first|with_reducible exact rfl|with_reducible exact hat|exact hG'|exact hP'|exact rd_))|(show ∃ _ _, _ ∧ _; refine ex2_ ?_ (by first|with_reducible exact rfl|with_reducible exact hat|exact hG'|exact hP'|exact rd_)))
theorem c_sCodeG (hG : C_sIsG P N) (hP : C_sPrime P N) (hf : isFn P N.spec_l06Code (ir_spec_l06Code N) = true) : C_sCodeG P N := by
  intro g p hb
  have hat := (grpAt_one g).all
  have hG' := hG hb
  have hP' := hP (p := p)
  refine can_of hf rfl rfl ?_
  cases h1 : dB (GP g) <;> cases h2 : decide (p ∈ primes) <;> rw [h1] at hG' <;> rw [h2] at hP'
  · (repeat' (conv => whnf)<;>first|exact True.intro|(refine if_ ?_ ?_<;>intro h<;>first|exact h.elim|(exfalso; omega)|skip)|refine vs_ ?_|refine dv_ ?_|exact fin_|(show ∃ _, _ ∧ _; refine ex_ ?_ (by first|with_reducible exact rfl|with_reducible exact hat|exact hG'|exact hP'|exact rd_))|(show ∃ _ _, _ ∧ _; refine ex2_ ?_ (by first|with_reducible exact rfl|with_reducible exact hat|exact hG'|exact hP'|exact rd_)))
  · (repeat' (conv => whnf)<;>first|exact True.intro|(refine if_ ?_ ?_<;>intro h<;>first|exact h.elim|(exfalso; omega)|skip)|refine vs_ ?_|refine dv_ ?_|exact fin_|(show ∃ _, _ ∧ _; refine ex_ ?_ (by first|with_reducible exact rfl|with_reducible exact hat|exact hG'|exact hP'|exact rd_))|(show ∃ _ _, _ ∧ _; refine ex2_ ?_ (by first|with_reducible exact rfl|with_reducible exact hat|exact hG'|exact hP'|exact rd_)))
  · (repeat' (conv => whnf)<;>first|exact True.intro|(refine if_ ?_ ?_<;>intro h<;>first|exact h.elim|(exfalso; omega)|skip)|refine vs_ ?_|refine dv_ ?_|exact fin_|(show ∃ _, _ ∧ _; refine ex_ ?_ (by first|with_reducible exact rfl|with_reducible exact hat|exact hG'|exact hP'|exact rd_))|(show ∃ _ _, _ ∧ _; refine ex2_ ?_ (by first|with_reducible exact rfl|with_reducible exact hat|exact hG'|exact hP'|exact rd_)))
  · (repeat' (conv => whnf)<;>first|exact True.intro|(refine if_ ?_ ?_<;>intro h<;>first|exact h.elim|(exfalso; omega)|skip)|refine vs_ ?_|refine dv_ ?_|exact fin_|(show ∃ _, _ ∧ _; refine ex_ ?_ (by first|with_reducible exact rfl|with_reducible exact hat|exact hG'|exact hP'|exact rd_))|(show ∃ _ _, _ ∧ _; refine ex2_ ?_ (by first|with_reducible exact rfl|with_reducible exact hat|exact hG'|exact hP'|exact rd_)))
end Go.X
