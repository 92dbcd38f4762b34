import Derived.Test.YtmbocpoebbijmaaW10
set_option linter.all false
namespace Go.X
open Go Go.RowKit
set_option maxRecDepth 100000
set_option maxHeartbeats 8000000
set_option linter.unusedVariables false
variable {P : Program} {N : FN}
theorem st_alg2 {p n : Int} : Chunk.data algZ.length ([algZ].set 0 (splice algZ 0 ((algZ.set 0 (.int .i64 p)).set 1 (.int .i64 n)))) = .data 224 [algL (alg0 p n fun _ => 0)] := by
  rw [alg0_L, List.set_cons_zero, splice_whole (by rw [algZ_len]; exact arr_len ..), algZ_len]
theorem ct_rd {p : Int} {g : Grp} : sub2 ([algL (ctF p g (fun _ => 0) (clsS g).length 0 0)].set 0 ((algL (ctF p g (fun _ => 0) (clsS g).length 0 0)).set (0 + 218 + (0 : Int).toNat * 1) (.int .u8 1))) 0 0 224 = some (algL (ctA p g)) := by
  rw [algL_setF, List.set_cons_zero]
  exact sub2_one (arr_len ..)
theorem mul2 {g : Grp} (hb : GrpB g) (hg : GP g) {x y : Nat} (hx : x < g.n.toNat) : mulL g [x, y] = mN g x y := by
  show mN g (mN g 0 x) y = _
  rw [(GP.one hb hg hx).1]
theorem c_sClsAlg (hC : C_sClasses P N) (hT : C_sTimesG P N) (hf : isFn P N.spec_l06ClassAlgebra (ir_spec_l06ClassAlgebra N) = true) : C_sClsAlg P N := by
  intro g p hb hg hp
  have hn := hg.1
  have hp2 := prime_bd hp
  have hat := grpAt_one g
  have hgl := hat.all
  have hC' := hC hb hg
  have hcl := clD_len g
  have hcm := clsS_len g
  have hz : (algZ.set 0 (.int .i64 p)).length = 224 := by rw [List.length_set]; exact algZ_len
  have st0 : Chunk.data algZ.length ([algZ].set 0 (splice algZ 0 ((algZ.set 0 (.int .i64 p)).set 1 (.int .i64 ((clD g).length : Nat))))) = .data 224 [algL (ctF p g (fun _ => 0) 0 0 0)] := by rw [hcl, st_alg2, ct_0]
  refine can_of hf rfl rfl ?_
  (repeat' (conv => whnf)<;>first|exact True.intro|(refine if_ ?_ ?_<;>intro h<;>first|exact h.elim|(exfalso; omega)|skip)|refine vs_ ?_ (by first|exact ⟨rfl, by rw [hz]; decide, rfl⟩|exact sd_)|refine dv_ ?_|exact fin_|(show ∃ _, _ ∧ _; refine ex_ ?_ (by first|with_reducible exact rfl|with_reducible exact hgl|exact hC'|exact rd_))|(show ∃ _ _, _ ∧ _; refine ex2_ ?_ (by first|with_reducible exact rfl|with_reducible exact hgl|exact hC'|exact rd_)))
  conv => whnf
  refine vc_loop (α := Nat) 0 (fun i => (clsS g).length - i) (fun i => i ≤ (clsS g).length) [] (fun i => [(7, .d (.int .i64 i))]) (fun i => [(7, .data 224 [algL (ctF p g (fun _ => 0) i 0 0)])]) lp_ ?_ ?_
  · (repeat' (conv => whnf)<;>first|exact True.intro|(refine if_ ?_ ?_<;>intro h<;>first|exact h.elim|(exfalso; omega)|skip)|refine vs_ ?_ (by first|exact st0|exact sd_)|refine dv_ ?_|exact fin_|(show ∃ _, _ ∧ _; refine ex_ ?_)|(show ∃ _ _, _ ∧ _; refine ex2_ ?_))
  · intro i hi
    by_cases hlt : i < (clsS g).length
    · have gi := get2_clD hlt
      have li := iN_len (cS g i)
      have lb := cS_len hb hg hlt
      (repeat' (conv => whnf)<;>first|exact True.intro|(refine if_ ?_ ?_<;>intro h<;>first|exact h.elim|(exfalso; omega)|skip)|refine vs_ ?_|refine dv_ ?_|exact fin_|(show ∃ _, _ ∧ _; refine ex_ ?_)|(show ∃ _ _, _ ∧ _; refine ex2_ ?_))
      conv => whnf
      refine vc_loop (α := Nat) 0 (fun j => (clsS g).length - j) (fun j => j ≤ (clsS g).length) [] (fun j => [(8, .d (.int .i64 j))]) (fun j => [(7, .data 224 [algL (ctF p g (fun _ => 0) i j 0)])]) lp_ ?_ ?_
      · (repeat' (conv => whnf)<;>first|exact True.intro|(refine if_ ?_ ?_<;>intro h<;>first|exact h.elim|(exfalso; omega)|skip)|refine vs_ ?_|refine dv_ ?_|exact fin_|(show ∃ _, _ ∧ _; refine ex_ ?_)|(show ∃ _ _, _ ∧ _; refine ex2_ ?_))
      · intro j hj
        by_cases hlt2 : j < (clsS g).length
        · have gj := get2_clD hlt2
          have lj := iN_len (cS g j)
          have lc := cS_len hb hg hlt2
          (repeat' (conv => whnf)<;>first|exact True.intro|(refine if_ ?_ ?_<;>intro h<;>first|exact h.elim|(exfalso; omega)|skip)|refine vs_ ?_|refine dv_ ?_|exact fin_|(show ∃ _, _ ∧ _; refine ex_ ?_)|(show ∃ _ _, _ ∧ _; refine ex2_ ?_))
          conv => whnf
          refine vc_loop (α := Nat) 0 (fun k => (clsS g).length - k) (fun k => k ≤ (clsS g).length) [] (fun k => [(9, .d (.int .i64 k))]) (fun k => [(7, .data 224 [algL (ctF p g (fun _ => 0) i j k)])]) lp_ ?_ ?_
          · (repeat' (conv => whnf)<;>first|exact True.intro|(refine if_ ?_ ?_<;>intro h<;>first|exact h.elim|(exfalso; omega)|skip)|refine vs_ ?_|refine dv_ ?_|exact fin_|(show ∃ _, _ ∧ _; refine ex_ ?_)|(show ∃ _ _, _ ∧ _; refine ex2_ ?_))
          · intro k hk
            by_cases hlt3 : k < (clsS g).length
            · have gk := get2_clD hlt3
              have lk := iN_len (cS g k)
              have ld := cS_len hb hg hlt3
              have gz := get2_iN (L := cS g k) (i := 0) ld.1
              (repeat' (conv => whnf)<;>first|exact True.intro|(refine if_ ?_ ?_<;>intro h<;>first|exact h.elim|(exfalso; omega)|skip)|refine vs_ ?_|refine dv_ ?_|exact fin_|(show ∃ _, _ ∧ _; refine ex_ ?_)|(show ∃ _ _, _ ∧ _; refine ex2_ ?_))
              conv => whnf
              refine vc_loop (α := Nat) 0 (fun q => (cS g i).length - q) (fun q => q ≤ (cS g i).length) [] (fun q => [(10, .d (.int .i64 (cxN g (cS g i) (cS g j) ((cS g k).getD 0 0) q))), (11, .d (.int .i64 q))]) (fun q => []) lp_ ?_ ?_
              · (repeat' (conv => whnf)<;>first|exact True.intro|(refine if_ ?_ ?_<;>intro h<;>first|exact h.elim|(exfalso; omega)|skip)|refine vs_ ?_|refine dv_ ?_|exact fin_|(show ∃ _, _ ∧ _; refine ex_ ?_)|(show ∃ _ _, _ ∧ _; refine ex2_ ?_))
              · intro q hq
                have cb := cxN_b (g := g) (K := cS g i) (L := cS g j) (e := (cS g k).getD 0 0) lc.2 q
                by_cases hlt4 : q < (cS g i).length
                · have gq := get2_iN hlt4
                  have hq2 := cS_at hlt hlt4
                  (repeat' (conv => whnf)<;>first|exact True.intro|(refine if_ ?_ ?_<;>intro h<;>first|exact h.elim|(exfalso; omega)|skip)|refine vs_ ?_|refine dv_ ?_|exact fin_|(show ∃ _, _ ∧ _; refine ex_ ?_ (by first|with_reducible exact rfl|with_reducible exact gi|exact rd_))|(show ∃ _ _, _ ∧ _; refine ex2_ ?_ (by first|with_reducible exact rfl|with_reducible exact gi|exact rd_)))
                  conv => whnf
                  rw [cx_z]
                  refine vc_loop (α := Nat) 0 (fun r => (cS g j).length - r) (fun r => r ≤ (cS g j).length) [] (fun r => [(10, .d (.int .i64 (cxN g (cS g i) (cS g j) ((cS g k).getD 0 0) q + cyN g ((cS g i).getD q 0) (cS g j) ((cS g k).getD 0 0) r))), (12, .d (.int .i64 r))]) (fun r => []) lp_ ?_ ?_
                  · (repeat' (conv => whnf)<;>first|exact True.intro|(refine if_ ?_ ?_<;>intro h<;>first|exact h.elim|(exfalso; omega)|skip)|refine vs_ ?_|refine dv_ ?_|exact fin_|(show ∃ _, _ ∧ _; refine ex_ ?_)|(show ∃ _ _, _ ∧ _; refine ex2_ ?_))
                  · intro r hr
                    have yb := cyN_b (g := g) (x := (cS g i).getD q 0) (L := cS g j) (e := (cS g k).getD 0 0) r
                    by_cases hlt5 : r < (cS g j).length
                    · have gr := get2_iN hlt5
                      have hr2 := cS_at hlt2 hlt5
                      have hT' := hT (L := [(cS g i).getD q 0, (cS g j).getD r 0]) hb hg (by simp) (by simp only [List.mem_cons, List.not_mem_nil, or_false]; rintro y (rfl | rfl) <;> omega)
                      rw [mul2 hb hg hq2] at hT'
                      by_cases c : mN g ((cS g i).getD q 0) ((cS g j).getD r 0) = (cS g k).getD 0 0
                      · (repeat' (conv => whnf)<;>first|exact True.intro|(refine if_ ?_ ?_<;>intro h<;>first|exact h.elim|(exfalso; omega)|skip)|refine vs_ ?_|refine dv_ ?_|exact fin_|(show ∃ _, _ ∧ _; refine ex_ ?_ (by first|with_reducible exact rfl|with_reducible exact gi|with_reducible exact gj|with_reducible exact gk|with_reducible exact hgl|with_reducible exact gq|with_reducible exact gr|exact hT'|exact gz|exact rd_))|(show ∃ _ _, _ ∧ _; refine ex2_ ?_ (by first|with_reducible exact rfl|with_reducible exact gi|with_reducible exact gj|with_reducible exact gk|with_reducible exact hgl|with_reducible exact gq|with_reducible exact gr|exact hT'|exact gz|exact rd_)))
                        conv => whnf
                        refine ⟨r + 1, by omega, by omega, ?_⟩
                        rw [cy_t c]
                        (repeat' (conv => whnf)<;>first|exact True.intro|(refine if_ ?_ ?_<;>intro h<;>first|exact h.elim|(exfalso; omega)|skip)|refine vs_ ?_ (by first|exact q_i64 (by omega)|exact sd_)|refine dv_ ?_|exact fin_|(show ∃ _, _ ∧ _; refine ex_ ?_)|(show ∃ _ _, _ ∧ _; refine ex2_ ?_))
                      · (repeat' (conv => whnf)<;>first|exact True.intro|(refine if_ ?_ ?_<;>intro h<;>first|exact h.elim|(exfalso; omega)|skip)|refine vs_ ?_|refine dv_ ?_|exact fin_|(show ∃ _, _ ∧ _; refine ex_ ?_ (by first|with_reducible exact rfl|with_reducible exact gi|with_reducible exact gj|with_reducible exact gk|with_reducible exact hgl|with_reducible exact gq|with_reducible exact gr|exact hT'|exact gz|exact rd_))|(show ∃ _ _, _ ∧ _; refine ex2_ ?_ (by first|with_reducible exact rfl|with_reducible exact gi|with_reducible exact gj|with_reducible exact gk|with_reducible exact hgl|with_reducible exact gq|with_reducible exact gr|exact hT'|exact gz|exact rd_)))
                        conv => whnf
                        refine ⟨r + 1, by omega, by omega, ?_⟩
                        rw [cy_f c]
                        (repeat' (conv => whnf)<;>first|exact True.intro|(refine if_ ?_ ?_<;>intro h<;>first|exact h.elim|(exfalso; omega)|skip)|refine vs_ ?_|refine dv_ ?_|exact fin_|(show ∃ _, _ ∧ _; refine ex_ ?_)|(show ∃ _ _, _ ∧ _; refine ex2_ ?_))
                    · have : r = (cS g j).length := by omega
                      subst this
                      rw [cx_s]
                      (repeat' (conv => whnf)<;>first|exact True.intro|(refine if_ ?_ ?_<;>intro h<;>first|exact h.elim|(exfalso; omega)|skip)|refine vs_ ?_|refine dv_ ?_|exact fin_|(show ∃ _, _ ∧ _; refine ex_ ?_ (by first|with_reducible exact rfl|with_reducible exact gj|exact rd_))|(show ∃ _ _, _ ∧ _; refine ex2_ ?_ (by first|with_reducible exact rfl|with_reducible exact gj|exact rd_)))
                      conv => whnf
                      refine ⟨q + 1, by omega, by omega, ?_⟩
                      (repeat' (conv => whnf)<;>first|exact True.intro|(refine if_ ?_ ?_<;>intro h<;>first|exact h.elim|(exfalso; omega)|skip)|refine vs_ ?_|refine dv_ ?_|exact fin_|(show ∃ _, _ ∧ _; refine ex_ ?_)|(show ∃ _ _, _ ∧ _; refine ex2_ ?_))
                · have : q = (cS g i).length := by omega
                  subst this
                  have hal : (algL (ctF p g (fun _ => 0) i j k)).length = 224 := arr_len ..
                  have mb := mod_bd (cxN g (cS g i) (cS g j) ((cS g k).getD 0 0) (cS g i).length) (show 1 ≤ p by omega)
                  (repeat' (conv => whnf)<;>first|exact True.intro|(refine if_ ?_ ?_<;>intro h<;>first|exact h.elim|(exfalso; omega)|skip)|refine vs_ ?_ (by first|exact ⟨rfl, by rw [hal]; omega⟩|exact sd_)|refine dv_ ?_|exact fin_|(show ∃ _, _ ∧ _; refine ex_ ?_ (by first|with_reducible exact rfl|with_reducible exact gi|exact rd_))|(show ∃ _ _, _ ∧ _; refine ex2_ ?_ (by first|with_reducible exact rfl|with_reducible exact gi|exact rd_)))
                  conv => whnf
                  refine ⟨k + 1, by omega, by omega, ?_⟩
                  rw [← ct_set (by omega) hlt hlt2 hlt3]
                  (repeat' (conv => whnf)<;>first|exact True.intro|(refine if_ ?_ ?_<;>intro h<;>first|exact h.elim|(exfalso; omega)|skip)|refine vs_ ?_|refine dv_ ?_|exact fin_|(show ∃ _, _ ∧ _; refine ex_ ?_)|(show ∃ _ _, _ ∧ _; refine ex2_ ?_))
            · have : k = (clsS g).length := by omega
              subst this
              rw [ct_r]
              (repeat' (conv => whnf)<;>first|exact True.intro|(refine if_ ?_ ?_<;>intro h<;>first|exact h.elim|(exfalso; omega)|skip)|refine vs_ ?_|refine dv_ ?_|exact fin_|(show ∃ _, _ ∧ _; refine ex_ ?_)|(show ∃ _ _, _ ∧ _; refine ex2_ ?_))
              conv => whnf
              refine ⟨j + 1, by omega, by omega, ?_⟩
              (repeat' (conv => whnf)<;>first|exact True.intro|(refine if_ ?_ ?_<;>intro h<;>first|exact h.elim|(exfalso; omega)|skip)|refine vs_ ?_|refine dv_ ?_|exact fin_|(show ∃ _, _ ∧ _; refine ex_ ?_)|(show ∃ _ _, _ ∧ _; refine ex2_ ?_))
        · have : j = (clsS g).length := by omega
          subst this
          rw [ct_q]
          (repeat' (conv => whnf)<;>first|exact True.intro|(refine if_ ?_ ?_<;>intro h<;>first|exact h.elim|(exfalso; omega)|skip)|refine vs_ ?_|refine dv_ ?_|exact fin_|(show ∃ _, _ ∧ _; refine ex_ ?_)|(show ∃ _ _, _ ∧ _; refine ex2_ ?_))
          conv => whnf
          refine ⟨i + 1, by omega, by omega, ?_⟩
          (repeat' (conv => whnf)<;>first|exact True.intro|(refine if_ ?_ ?_<;>intro h<;>first|exact h.elim|(exfalso; omega)|skip)|refine vs_ ?_|refine dv_ ?_|exact fin_|(show ∃ _, _ ∧ _; refine ex_ ?_)|(show ∃ _ _, _ ∧ _; refine ex2_ ?_))
    · have : i = (clsS g).length := by omega
      subst this
      have hal : (algL (ctF p g (fun _ => 0) (clsS g).length 0 0)).length = 224 := arr_len ..
      (repeat' (conv => whnf)<;>first|exact True.intro|(refine if_ ?_ ?_<;>intro h<;>first|exact h.elim|(exfalso; omega)|skip)|refine vs_ ?_|refine dv_ ?_|exact fin_|(show ∃ _, _ ∧ _; refine ex_ ?_ (by first|with_reducible exact rfl|with_reducible exact ct_rd|with_reducible exact alg_rd2 algZ_len|exact rd_))|(show ∃ _ _, _ ∧ _; refine ex2_ ?_ (by first|with_reducible exact rfl|with_reducible exact ct_rd|with_reducible exact alg_rd2 algZ_len|exact rd_)))
end Go.X
