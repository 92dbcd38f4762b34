import Derived.Test.YtmbocpoebbijmaaW9
import Derived.Test.YtmbocpoebbijmaaW8
set_option linter.all false
namespace Go.X
open Go Go.RowKit
set_option maxRecDepth 100000
set_option maxHeartbeats 8000000
set_option linter.unusedVariables false
variable {P : Program} {N : FN}
theorem ct_set {p : Int} {g : Grp} {f : Nat → Int} {i j k : Nat} (hn : (clsS g).length ≤ 6) (hi : i < (clsS g).length) (hj : j < (clsS g).length) (hk : k < (clsS g).length) : (algL (ctF p g f i j k)).set (0 + 2 + ((i : Nat) : Int).toNat * 36 + ((j : Nat) : Int).toNat * 6 + ((k : Nat) : Int).toNat * 1) (.int .u8 (cxN g (cS g i) (cS g j) ((cS g k).getD 0 0) (cS g i).length % p)) = algL (ctF p g f i j (k + 1)) := by
  rw [algL_setT (by omega) (by omega) (by omega)]
  unfold ctF
  dsimp only
  rw [← ctT_s hj hk]; rfl
theorem ct_0 {p : Int} {g : Grp} {f : Nat → Int} : alg0 p (clsS g).length f = ctF p g f 0 0 0 := by unfold alg0 ctF; rw [ctT_0]
theorem ct_r {p : Int} {g : Grp} {f : Nat → Int} {i j : Nat} : ctF p g f i j (clsS g).length = ctF p g f i (j + 1) 0 := by unfold ctF; rw [ctT_r]
theorem ct_q {p : Int} {g : Grp} {f : Nat → Int} {i : Nat} : ctF p g f i (clsS g).length 0 = ctF p g f (i + 1) 0 0 := by unfold ctF; rw [ctT_q]
theorem cy_t {g : Grp} {x : Nat} {L : List Nat} {e r : Nat} (h : mN g x (L.getD r 0) = e) : cyN g x L e (r + 1) = cyN g x L e r + 1 := by
  show cyN g x L e r + (if mN g x (L.getD r 0) = e then 1 else 0) = _
  rw [if_pos h]
theorem cy_f {g : Grp} {x : Nat} {L : List Nat} {e r : Nat} (h : ¬ mN g x (L.getD r 0) = e) : cyN g x L e (r + 1) = cyN g x L e r := by
  show cyN g x L e r + (if mN g x (L.getD r 0) = e then 1 else 0) = _
  rw [if_neg h, Int.add_zero]
theorem cx_s {g : Grp} {K L : List Nat} {e q : Nat} : cxN g K L e q + cyN g (K.getD q 0) L e L.length = cxN g K L e (q + 1) := rfl
theorem cx_z {g : Grp} {K L : List Nat} {e q : Nat} : cxN g K L e q = cxN g K L e q + cyN g (K.getD q 0) L e 0 := (Int.add_zero _).symm
theorem q_i64 {x y : Int} (h : x = y) : AV.d (D.int .i64 x) = AV.d (D.int .i64 y) := by rw [h]
theorem c_gClsAlg (hC : C_classes P N) (hT : C_gTimes P N) (hf : isFn P N.impl_Group_classAlgebra (ir_impl_Group_classAlgebra N) = true) : C_gClsAlg P N := by
  intro sz l e off g p hat hb hg hp
  have hn := hg.1
  have hp2 := prime_bd hp
  have hC' := hC (sz := sz) hat hb hg
  have hcl := clD_len g
  have hcm := clsS_len g
  have hz : (algZ.set 0 (.int .i64 p)).length = 224 := by rw [List.length_set]; exact algZ_len
  have hz2 : ((algZ.set 0 (.int .i64 p)).set 1 (.int .i64 ((clsS g).length : Nat))).length = 224 := by rw [List.length_set]; exact hz
  have st0 : Chunk.data algZ.length ([algZ].set 0 (splice algZ 0 (splice ((algZ.set 0 (.int .i64 p)).set 1 (.int .i64 ((clD g).length : Nat))) 218 (vecL oneV)))) = .data 224 [algL (ctF p g oneV 0 0 0)] := by rw [hcl, st_alg1, ct_0]
  rw [← hcl] at hz2
  refine can_of hf rfl rfl ?_
  (repeat' (conv => whnf)<;>first|exact True.intro|(refine if_ ?_ ?_<;>intro h<;>first|exact h.elim|(exfalso; omega)|skip)|refine vs_ ?_ (by first|exact ⟨rfl, by rw [hz]; decide, rfl⟩ | exact ⟨rfl, by rw [hz2]; decide⟩|exact sd_)|refine dv_ ?_|exact fin_|(show ∃ _, _ ∧ _; refine ex_ ?_ (by first|with_reducible exact rfl|exact hC'|exact rd_))|(show ∃ _ _, _ ∧ _; refine ex2_ ?_ (by first|with_reducible exact rfl|exact hC'|exact rd_)))
  conv => whnf
  refine vc_loop (α := Nat) 0 (fun i => (clsS g).length - i) (fun i => i ≤ (clsS g).length) [] (fun i => [(27, .d (.int .i64 i))]) (fun i => [(7, .data 224 [algL (ctF p g oneV i 0 0)])]) lp_ ?_ ?_
  · (repeat' (conv => whnf)<;>first|exact True.intro|(refine if_ ?_ ?_<;>intro h<;>first|exact h.elim|(exfalso; omega)|skip)|refine vs_ ?_ (by first|exact st0|exact sd_)|refine dv_ ?_|exact fin_|(show ∃ _, _ ∧ _; refine ex_ ?_)|(show ∃ _ _, _ ∧ _; refine ex2_ ?_))
  · intro i hi
    by_cases hlt : i < (clsS g).length
    · have gi := get2_clD hlt
      have li := iN_len (cS g i)
      have lb := cS_len hb hg hlt
      (repeat' (conv => whnf)<;>first|exact True.intro|(refine if_ ?_ ?_<;>intro h<;>first|exact h.elim|(exfalso; omega)|skip)|refine vs_ ?_|refine dv_ ?_|exact fin_|(show ∃ _, _ ∧ _; refine ex_ ?_ (by first|with_reducible exact rfl|with_reducible exact gi|exact rd_))|(show ∃ _ _, _ ∧ _; refine ex2_ ?_ (by first|with_reducible exact rfl|with_reducible exact gi|exact rd_)))
      conv => whnf
      refine vc_loop (α := Nat) 0 (fun j => (clsS g).length - j) (fun j => j ≤ (clsS g).length) [] (fun j => [(34, .d (.int .i64 j))]) (fun j => [(7, .data 224 [algL (ctF p g oneV i j 0)])]) lp_ ?_ ?_
      · (repeat' (conv => whnf)<;>first|exact True.intro|(refine if_ ?_ ?_<;>intro h<;>first|exact h.elim|(exfalso; omega)|skip)|refine vs_ ?_|refine dv_ ?_|exact fin_|(show ∃ _, _ ∧ _; refine ex_ ?_)|(show ∃ _ _, _ ∧ _; refine ex2_ ?_))
      · intro j hj
        by_cases hlt2 : j < (clsS g).length
        · have gj := get2_clD hlt2
          have lj := iN_len (cS g j)
          have lc := cS_len hb hg hlt2
          (repeat' (conv => whnf)<;>first|exact True.intro|(refine if_ ?_ ?_<;>intro h<;>first|exact h.elim|(exfalso; omega)|skip)|refine vs_ ?_|refine dv_ ?_|exact fin_|(show ∃ _, _ ∧ _; refine ex_ ?_ (by first|with_reducible exact rfl|with_reducible exact gj|exact rd_))|(show ∃ _ _, _ ∧ _; refine ex2_ ?_ (by first|with_reducible exact rfl|with_reducible exact gj|exact rd_)))
          conv => whnf
          refine vc_loop (α := Nat) 0 (fun k => (clsS g).length - k) (fun k => k ≤ (clsS g).length) [] (fun k => [(41, .d (.int .i64 k))]) (fun k => [(7, .data 224 [algL (ctF p g oneV i j k)])]) lp_ ?_ ?_
          · (repeat' (conv => whnf)<;>first|exact True.intro|(refine if_ ?_ ?_<;>intro h<;>first|exact h.elim|(exfalso; omega)|skip)|refine vs_ ?_|refine dv_ ?_|exact fin_|(show ∃ _, _ ∧ _; refine ex_ ?_)|(show ∃ _ _, _ ∧ _; refine ex2_ ?_))
          · intro k hk
            by_cases hlt3 : k < (clsS g).length
            · have gk := get2_clD hlt3
              have lk := iN_len (cS g k)
              have ld := cS_len hb hg hlt3
              have gz := get2_iN (L := cS g k) (i := 0) ld.1
              (repeat' (conv => whnf)<;>first|exact True.intro|(refine if_ ?_ ?_<;>intro h<;>first|exact h.elim|(exfalso; omega)|skip)|refine vs_ ?_|refine dv_ ?_|exact fin_|(show ∃ _, _ ∧ _; refine ex_ ?_ (by first|with_reducible exact rfl|with_reducible exact gk|exact rd_))|(show ∃ _ _, _ ∧ _; refine ex2_ ?_ (by first|with_reducible exact rfl|with_reducible exact gk|exact rd_)))
              conv => whnf
              refine vc_loop (α := Nat) 0 (fun q => (cS g i).length - q) (fun q => q ≤ (cS g i).length) [] (fun q => [(13, .d (.int .i64 (cxN g (cS g i) (cS g j) ((cS g k).getD 0 0) q))), (48, .d (.int .i64 q))]) (fun q => []) lp_ ?_ ?_
              · (repeat' (conv => whnf)<;>first|exact True.intro|(refine if_ ?_ ?_<;>intro h<;>first|exact h.elim|(exfalso; omega)|skip)|refine vs_ ?_|refine dv_ ?_|exact fin_|(show ∃ _, _ ∧ _; refine ex_ ?_)|(show ∃ _ _, _ ∧ _; refine ex2_ ?_))
              · intro q hq
                have cb := cxN_b (g := g) (K := cS g i) (L := cS g j) (e := (cS g k).getD 0 0) lc.2 q
                by_cases hlt4 : q < (cS g i).length
                · have gq := get2_iN hlt4
                  have hq2 := cS_at hlt hlt4
                  (repeat' (conv => whnf)<;>first|exact True.intro|(refine if_ ?_ ?_<;>intro h<;>first|exact h.elim|(exfalso; omega)|skip)|refine vs_ ?_|refine dv_ ?_|exact fin_|(show ∃ _, _ ∧ _; refine ex_ ?_ (by first|with_reducible exact rfl|with_reducible exact gq|exact rd_))|(show ∃ _ _, _ ∧ _; refine ex2_ ?_ (by first|with_reducible exact rfl|with_reducible exact gq|exact rd_)))
                  conv => whnf
                  rw [cx_z]
                  refine vc_loop (α := Nat) 0 (fun r => (cS g j).length - r) (fun r => r ≤ (cS g j).length) [] (fun r => [(13, .d (.int .i64 (cxN g (cS g i) (cS g j) ((cS g k).getD 0 0) q + cyN g ((cS g i).getD q 0) (cS g j) ((cS g k).getD 0 0) r))), (54, .d (.int .i64 r))]) (fun r => []) lp_ ?_ ?_
                  · (repeat' (conv => whnf)<;>first|exact True.intro|(refine if_ ?_ ?_<;>intro h<;>first|exact h.elim|(exfalso; omega)|skip)|refine vs_ ?_|refine dv_ ?_|exact fin_|(show ∃ _, _ ∧ _; refine ex_ ?_)|(show ∃ _ _, _ ∧ _; refine ex2_ ?_))
                  · intro r hr
                    have yb := cyN_b (g := g) (x := (cS g i).getD q 0) (L := cS g j) (e := (cS g k).getD 0 0) r
                    by_cases hlt5 : r < (cS g j).length
                    · have gr := get2_iN hlt5
                      have hr2 := cS_at hlt2 hlt5
                      obtain ⟨t1, t2⟩ := GP.tN hb hg hq2 hr2
                      have hT' := hT (sz := sz) hat hb (i := (cS g i).getD q 0) (j := (cS g j).getD r 0) (by omega) (by omega)
                      rw [t1] at hT'
                      by_cases c : mN g ((cS g i).getD q 0) ((cS g j).getD r 0) = (cS g k).getD 0 0
                      · (repeat' (conv => whnf)<;>first|exact True.intro|(refine if_ ?_ ?_<;>intro h<;>first|exact h.elim|(exfalso; omega)|skip)|refine vs_ ?_|refine dv_ ?_|exact fin_|(show ∃ _, _ ∧ _; refine ex_ ?_ (by first|with_reducible exact rfl|with_reducible exact gr|exact hT'|exact gz|exact rd_))|(show ∃ _ _, _ ∧ _; refine ex2_ ?_ (by first|with_reducible exact rfl|with_reducible exact gr|exact hT'|exact gz|exact rd_)))
                        conv => whnf
                        refine ⟨r + 1, by omega, by omega, ?_⟩
                        rw [cy_t c]
                        (repeat' (conv => whnf)<;>first|exact True.intro|(refine if_ ?_ ?_<;>intro h<;>first|exact h.elim|(exfalso; omega)|skip)|refine vs_ ?_ (by first|exact q_i64 (by omega)|exact sd_)|refine dv_ ?_|exact fin_|(show ∃ _, _ ∧ _; refine ex_ ?_)|(show ∃ _ _, _ ∧ _; refine ex2_ ?_))
                      · (repeat' (conv => whnf)<;>first|exact True.intro|(refine if_ ?_ ?_<;>intro h<;>first|exact h.elim|(exfalso; omega)|skip)|refine vs_ ?_|refine dv_ ?_|exact fin_|(show ∃ _, _ ∧ _; refine ex_ ?_ (by first|with_reducible exact rfl|with_reducible exact gr|exact hT'|exact gz|exact rd_))|(show ∃ _ _, _ ∧ _; refine ex2_ ?_ (by first|with_reducible exact rfl|with_reducible exact gr|exact hT'|exact gz|exact rd_)))
                        conv => whnf
                        refine ⟨r + 1, by omega, by omega, ?_⟩
                        rw [cy_f c]
                        (repeat' (conv => whnf)<;>first|exact True.intro|(refine if_ ?_ ?_<;>intro h<;>first|exact h.elim|(exfalso; omega)|skip)|refine vs_ ?_|refine dv_ ?_|exact fin_|(show ∃ _, _ ∧ _; refine ex_ ?_)|(show ∃ _ _, _ ∧ _; refine ex2_ ?_))
                    · have : r = (cS g j).length := by omega
                      subst this
                      rw [cx_s]
                      (repeat' (conv => whnf)<;>first|exact True.intro|(refine if_ ?_ ?_<;>intro h<;>first|exact h.elim|(exfalso; omega)|skip)|refine vs_ ?_|refine dv_ ?_|exact fin_|(show ∃ _, _ ∧ _; refine ex_ ?_)|(show ∃ _ _, _ ∧ _; refine ex2_ ?_))
                      conv => whnf
                      refine ⟨q + 1, by omega, by omega, ?_⟩
                      (repeat' (conv => whnf)<;>first|exact True.intro|(refine if_ ?_ ?_<;>intro h<;>first|exact h.elim|(exfalso; omega)|skip)|refine vs_ ?_|refine dv_ ?_|exact fin_|(show ∃ _, _ ∧ _; refine ex_ ?_)|(show ∃ _ _, _ ∧ _; refine ex2_ ?_))
                · have : q = (cS g i).length := by omega
                  subst this
                  have hal : (algL (ctF p g oneV i j k)).length = 224 := arr_len ..
                  have mb := mod_bd (cxN g (cS g i) (cS g j) ((cS g k).getD 0 0) (cS g i).length) (show 1 ≤ p by omega)
                  (repeat' (conv => whnf)<;>first|exact True.intro|(refine if_ ?_ ?_<;>intro h<;>first|exact h.elim|(exfalso; omega)|skip)|refine vs_ ?_ (by first|exact ⟨rfl, by rw [hal]; omega⟩|exact sd_)|refine dv_ ?_|exact fin_|(show ∃ _, _ ∧ _; refine ex_ ?_)|(show ∃ _ _, _ ∧ _; refine ex2_ ?_))
                  conv => whnf
                  refine ⟨k + 1, by omega, by omega, ?_⟩
                  rw [← ct_set (by omega) hlt hlt2 hlt3]
                  (repeat' (conv => whnf)<;>first|exact True.intro|(refine if_ ?_ ?_<;>intro h<;>first|exact h.elim|(exfalso; omega)|skip)|refine vs_ ?_|refine dv_ ?_|exact fin_|(show ∃ _, _ ∧ _; refine ex_ ?_)|(show ∃ _ _, _ ∧ _; refine ex2_ ?_))
            · have : k = (clsS g).length := by omega
              subst this
              rw [ct_r]
              (repeat' (conv => whnf)<;>first|exact True.intro|(refine if_ ?_ ?_<;>intro h<;>first|exact h.elim|(exfalso; omega)|skip)|refine vs_ ?_|refine dv_ ?_|exact fin_|(show ∃ _, _ ∧ _; refine ex_ ?_)|(show ∃ _ _, _ ∧ _; refine ex2_ ?_))
              conv => whnf
              refine ⟨j + 1, by omega, by omega, ?_⟩
              (repeat' (conv => whnf)<;>first|exact True.intro|(refine if_ ?_ ?_<;>intro h<;>first|exact h.elim|(exfalso; omega)|skip)|refine vs_ ?_|refine dv_ ?_|exact fin_|(show ∃ _, _ ∧ _; refine ex_ ?_)|(show ∃ _ _, _ ∧ _; refine ex2_ ?_))
        · have : j = (clsS g).length := by omega
          subst this
          rw [ct_q]
          (repeat' (conv => whnf)<;>first|exact True.intro|(refine if_ ?_ ?_<;>intro h<;>first|exact h.elim|(exfalso; omega)|skip)|refine vs_ ?_|refine dv_ ?_|exact fin_|(show ∃ _, _ ∧ _; refine ex_ ?_)|(show ∃ _ _, _ ∧ _; refine ex2_ ?_))
          conv => whnf
          refine ⟨i + 1, by omega, by omega, ?_⟩
          (repeat' (conv => whnf)<;>first|exact True.intro|(refine if_ ?_ ?_<;>intro h<;>first|exact h.elim|(exfalso; omega)|skip)|refine vs_ ?_|refine dv_ ?_|exact fin_|(show ∃ _, _ ∧ _; refine ex_ ?_)|(show ∃ _ _, _ ∧ _; refine ex2_ ?_))
    · have : i = (clsS g).length := by omega
      subst this
      have hal : (algL (ctF p g oneV (clsS g).length 0 0)).length = 224 := arr_len ..
      (repeat' (conv => whnf)<;>first|exact True.intro|(refine if_ ?_ ?_<;>intro h<;>first|exact h.elim|(exfalso; omega)|skip)|refine vs_ ?_|refine dv_ ?_|exact fin_|(show ∃ _, _ ∧ _; refine ex_ ?_ (by first|with_reducible exact rfl|with_reducible exact sub2_one hal|with_reducible exact alg_rd2 algZ_len|exact rd_))|(show ∃ _ _, _ ∧ _; refine ex2_ ?_ (by first|with_reducible exact rfl|with_reducible exact sub2_one hal|with_reducible exact alg_rd2 algZ_len|exact rd_)))
end Go.X
