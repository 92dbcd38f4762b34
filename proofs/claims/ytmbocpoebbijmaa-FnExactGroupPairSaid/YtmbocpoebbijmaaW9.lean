import Derived.Test.YtmbocpoebbijmaaW8
set_option linter.all false
namespace Go.X
open Go Go.RowKit
set_option maxRecDepth 100000
set_option maxHeartbeats 8000000
set_option linter.unusedVariables false
variable {P : Program} {N : FN}
theorem st_alg1 {p n : Int} {f : Nat → Int} : Chunk.data algZ.length ([algZ].set 0 (splice algZ 0 (splice ((algZ.set 0 (.int .i64 p)).set 1 (.int .i64 n)) 218 (vecL f)))) = .data 224 [algL (alg0 p n f)] := by
  rw [alg0_F, List.set_cons_zero, splice_whole (by rw [algZ_len]; exact arr_len ..), algZ_len]
theorem c_built (hT : C_gTimes P N) (hf : isFn P N.impl_built (ir_impl_built N) = true) : C_built P N := by
  intro sz l e off g p hat hb hg
  have hn := hg.1
  have hz : (algZ.set 0 (.int .i64 p)).length = 224 := by rw [List.length_set]; exact algZ_len
  have hz2 : ((algZ.set 0 (.int .i64 p)).set 1 (.int .i64 g.n)).length = 224 := by rw [List.length_set]; exact hz
  refine can_of hf rfl rfl ?_
  (repeat' (conv => whnf)<;>first|exact True.intro|(refine if_ ?_ ?_<;>intro h<;>first|exact h.elim|(exfalso; omega)|skip)|refine vs_ ?_ (by first|exact ⟨rfl, by rw [hz]; decide, rfl⟩ | exact ⟨rfl, by rw [hz2]; decide⟩|exact sd_)|refine dv_ ?_|exact fin_|(show ∃ _, _ ∧ _; refine ex_ ?_ (by first|with_reducible exact rfl|with_reducible exact sub2_one (cel_len ..)|exact rd_))|(show ∃ _ _, _ ∧ _; refine ex2_ ?_ (by first|with_reducible exact rfl|with_reducible exact sub2_one (cel_len ..)|exact rd_)))
  conv => whnf
  refine vc_loop (α := Nat) 0 (fun i => g.n.toNat - i) (fun i => i ≤ g.n.toNat) [] (fun i => [(18, .d (.int .i64 i))]) (fun i => [(10, .data 224 [algL (gaF p g oneV i 0)])]) lp_ ?_ ?_
  · (repeat' (conv => whnf)<;>first|exact True.intro|(refine if_ ?_ ?_<;>intro h<;>first|exact h.elim|(exfalso; omega)|skip)|refine vs_ ?_ (by first|exact (ga_0 (p := p) (g := g)) ▸ st_alg1|exact sd_)|refine dv_ ?_|exact fin_|(show ∃ _, _ ∧ _; refine ex_ ?_)|(show ∃ _ _, _ ∧ _; refine ex2_ ?_))
  · intro i hi
    by_cases hlt : i < g.n.toNat
    · have hi6 : i < 6 := by omega
      (repeat' (conv => whnf)<;>first|exact True.intro|(refine if_ ?_ ?_<;>intro h<;>first|exact h.elim|(exfalso; omega)|skip)|refine vs_ ?_|refine dv_ ?_|exact fin_|(show ∃ _, _ ∧ _; refine ex_ ?_)|(show ∃ _ _, _ ∧ _; refine ex2_ ?_))
      conv => whnf
      refine vc_loop (α := Nat) 0 (fun j => g.n.toNat - j) (fun j => j ≤ g.n.toNat) [] (fun j => [(22, .d (.int .i64 j))]) (fun j => [(10, .data 224 [algL (gaF p g oneV i j)])]) lp_ ?_ ?_
      · (repeat' (conv => whnf)<;>first|exact True.intro|(refine if_ ?_ ?_<;>intro h<;>first|exact h.elim|(exfalso; omega)|skip)|refine vs_ ?_|refine dv_ ?_|exact fin_|(show ∃ _, _ ∧ _; refine ex_ ?_)|(show ∃ _ _, _ ∧ _; refine ex2_ ?_))
      · intro j hj
        by_cases hlt2 : j < g.n.toNat
        · have hj6 : j < 6 := by omega
          obtain ⟨t1, t2⟩ := GP.tN hb hg hlt hlt2
          have hT' := hT (sz := sz) hat hb hi6 hj6
          rw [t1] at hT'
          have hm6 : mN g i j < 6 := by omega
          have hal : (algL (gaF p g oneV i j)).length = 224 := arr_len ..
          (repeat' (conv => whnf)<;>first|exact True.intro|(refine if_ ?_ ?_<;>intro h<;>first|exact h.elim|(exfalso; omega)|skip)|refine vs_ ?_ (by first|exact ⟨rfl, by rw [hal]; omega⟩|exact sd_)|refine dv_ ?_|exact fin_|(show ∃ _, _ ∧ _; refine ex_ ?_ (by first|with_reducible exact rfl|exact hT'|exact rd_))|(show ∃ _ _, _ ∧ _; refine ex2_ ?_ (by first|with_reducible exact rfl|exact hT'|exact rd_)))
          conv => whnf
          refine ⟨j + 1, by omega, by omega, ?_⟩
          rw [← ga_set hlt2 (by omega) hi6 hm6]
          (repeat' (conv => whnf)<;>first|exact True.intro|(refine if_ ?_ ?_<;>intro h<;>first|exact h.elim|(exfalso; omega)|skip)|refine vs_ ?_|refine dv_ ?_|exact fin_|(show ∃ _, _ ∧ _; refine ex_ ?_)|(show ∃ _ _, _ ∧ _; refine ex2_ ?_))
        · have : j = g.n.toNat := by omega
          subst this
          (repeat' (conv => whnf)<;>first|exact True.intro|(refine if_ ?_ ?_<;>intro h<;>first|exact h.elim|(exfalso; omega)|skip)|refine vs_ ?_|refine dv_ ?_|exact fin_|(show ∃ _, _ ∧ _; refine ex_ ?_)|(show ∃ _ _, _ ∧ _; refine ex2_ ?_))
          conv => whnf
          refine ⟨i + 1, by omega, by omega, ?_⟩
          rw [← ga_r]
          (repeat' (conv => whnf)<;>first|exact True.intro|(refine if_ ?_ ?_<;>intro h<;>first|exact h.elim|(exfalso; omega)|skip)|refine vs_ ?_|refine dv_ ?_|exact fin_|(show ∃ _, _ ∧ _; refine ex_ ?_)|(show ∃ _ _, _ ∧ _; refine ex2_ ?_))
    · have : i = g.n.toNat := by omega
      subst this
      have hal : (algL (gaF p g oneV g.n.toNat 0)).length = 224 := arr_len ..
      (repeat' (conv => whnf)<;>first|exact True.intro|(refine if_ ?_ ?_<;>intro h<;>first|exact h.elim|(exfalso; omega)|skip)|refine vs_ ?_|refine dv_ ?_|exact fin_|(show ∃ _, _ ∧ _; refine ex_ ?_ (by first|with_reducible exact rfl|with_reducible exact sub2_one hal|with_reducible exact alg_rd2 algZ_len|exact rd_))|(show ∃ _ _, _ ∧ _; refine ex2_ ?_ (by first|with_reducible exact rfl|with_reducible exact sub2_one hal|with_reducible exact alg_rd2 algZ_len|exact rd_)))
theorem c_gAlg (hN : C_gN P N) (hB : C_built P N) (hf : isFn P N.impl_Group_algebra (ir_impl_Group_algebra N) = true) : C_gAlg P N := by
  intro sz l e off g p hat hb hg
  have hN' : Can P N.impl_Group_n [.pd sz l e off] (.val (.int .i64 g.n)) := hN hat
  have hB' := hB (sz := sz) (p := p) hat hb hg
  refine can_of hf rfl rfl ?_
  (repeat' (conv => whnf)<;>first|exact True.intro|(refine if_ ?_ ?_<;>intro h<;>first|exact h.elim|(exfalso; omega)|skip)|refine vs_ ?_|refine dv_ ?_|exact fin_|(show ∃ _, _ ∧ _; refine ex_ ?_ (by first|with_reducible exact rfl|exact hN'|exact hB'|with_reducible exact alg_rd2 algZ_len|exact rd_))|(show ∃ _ _, _ ∧ _; refine ex2_ ?_ (by first|with_reducible exact rfl|exact hN'|exact hB'|with_reducible exact alg_rd2 algZ_len|exact rd_)))
end Go.X
