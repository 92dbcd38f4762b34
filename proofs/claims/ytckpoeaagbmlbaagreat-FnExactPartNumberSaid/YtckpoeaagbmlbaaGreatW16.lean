import Derived.Test.YtckpoeaagbmlbaaGreatK15
import Derived.Test.YtckpoeaagbmlbaaGreatW15
import Derived.Test.YtckpoeaagbmlbaaGreatW13
import Derived.Test.YtckpoeaagbmlbaaGreatW9
set_option linter.all false
namespace Go.X
open Go Go.RowKit
set_option maxRecDepth 100000
set_option maxHeartbeats 8000000
set_option linter.unusedVariables false
variable {P : Program} {N : FN}
theorem c_nil1 (hF : C_frobPow P N) (hf : isFn P N.impl_Algebra_nilradical_1 (ir_impl_Algebra_nilradical_1 N) = true) : C_nil1 P N := by
  intro sz l e off a v t hat ha hv ht
  have hF' := hF (sz := sz) (t := t) hat ha hv ht
  refine can_of hf rfl rfl ?_
  (repeat' (conv => whnf)<;>first|exact True.intro|(refine if_ ?_ ?_<;>intro h<;>first|exact h.elim|(exfalso; omega)|skip)|refine vs_ ?_ (by first|exact st_all (f := Z)|exact sd_)|refine dv_ ?_|exact fin_|(show ∃ _, _ ∧ _; refine ex_ ?_ (by first|with_reducible exact rfl|exact hF'|exact rd_))|(show ∃ _ _, _ ∧ _; refine ex2_ ?_ (by first|with_reducible exact rfl|exact hF'|exact rd_)))
theorem c_nil (hN : C_n P N) (hE : C_equations P N) (h1 : C_nil1 P N) (hK : C_kernel P N) (hV : C_vectors P N) (hf : isFn P N.impl_Algebra_nilradical (ir_impl_Algebra_nilradical N) = true) : C_nil P N := by
  intro sz l e off a hat hca
  have ha := hca.ok
  have hn := ha.n
  have hp2 := prime_bd ha.p
  have hnn : ((a.n.toNat : Nat) : Int) = a.n := by omega
  have hN' : Can P N.impl_Algebra_n [.pd sz l e off] (.val (.int .i64 a.n)) := hN hat
  obtain ⟨x1, x2, x3, x4⟩ := expI_facts ha.p
  have himp := nil_imp hca
  obtain ⟨s, hs⟩ : ∃ s, s = expI a.p := ⟨_, rfl⟩
  rw [← hs] at x1 x2 x3 x4 himp
  have hb : ∀ i k, 0 ≤ frobI a (basV i) s k ∧ frobI a (basV i) s k ≤ 255 := fun i k => by
    rw [frobI_pw hca _ s x1]
    exact (in_pw hca _ _).1.byt (by omega) k
  have hE' := hE (sz := sz) (m := 1) (g := fun _ => N.impl_Algebra_nilradical_1) (c := fun _ => .pd 1 [[.pd sz l e off]] 0 0) (d := fun _ => .pd 1 [[.int .i64 s]] 0 0) (M := fun _ i k => frobI a (basV i) s k) hat ha (by omega)
    (fun _ i k => hb i k) (fun q i _ _ => h1 hat ha (basV_byt i) (by omega))
  have hK' := hK (n := a.n.toNat) (L := mapL a.n.toNat (nilF a s)) (by omega) (by rw [show (mapL a.n.toNat (nilF a s)).length = a.n.toNat from arr_len ..]; omega) ha.p (nil_rw hca s)
  rw [hnn, ← eqs_map (a := a) (M := fun _ i k => frobI a (basV i) s k) (fun i r _ _ => congrFun (frobI_pw hca (basV i) s x1) r)] at hK'
  obtain ⟨ld2, rr2⟩ : ∃ ld, RR a.p a.n.toNat (iKerF a.p a.n.toNat (mapL a.n.toNat (nilF a s))) ld := redF_rr ha.p (free_rw hp2.1 _)
  have hkl := rr2.len_le
  have hV' := hV (m := a.n.toNat) (L := iKerF a.p a.n.toNat (mapL a.n.toNat (nilF a s))) (by omega) (by omega) (fun r hr i => by have := rr2.rw r hr i; omega)
  have eV : ((iKerF a.p a.n.toNat (mapL a.n.toNat (nilF a s))).map fun r => vecL (vecR a.n.toNat r)) = (nilL a).map vecL := by
    have := congrArg (List.map vecL) himp
    rw [List.map_map] at this
    exact this
  rw [eV] at hV'
  have hflat : ∀ r ∈ arr (1 * a.n.toNat) (fun r => row a.n.toNat (eqR (fun _ i k => frobI a (basV i) s k) a.n.toNat r)), ∀ e ∈ r, ∀ x ∈ e, Flat x := fun r hr => by
    obtain ⟨i, _, rfl⟩ := List.mem_map.1 hr
    exact flat_row
  refine can_of hf rfl rfl ?_
  (repeat' (conv => whnf)<;>first|exact True.intro|(refine if_ ?_ ?_<;>intro h<;>first|exact h.elim|(exfalso; omega)|skip)|refine vs_ ?_|refine dv_ ?_|exact fin_|(show ∃ _, _ ∧ _; refine ex_ ?_ (by first|with_reducible exact rfl|with_reducible exact hat.p|exact rd_))|(show ∃ _ _, _ ∧ _; refine ex2_ ?_ (by first|with_reducible exact rfl|with_reducible exact hat.p|exact rd_)))
  conv => whnf
  refine vc_loop (α := Nat) 1 (fun i => s - i) (fun i => 1 ≤ i ∧ i ≤ s) [] (fun i => [(3, .ptr 4 1 0 0), (4, .d (.int .i64 (a.p ^ i)))]) (fun i => [(4, .data 1 [[.int .i64 i]])]) lp_ ?_ ?_
  · rw [Int.pow_one]
    (repeat' (conv => whnf)<;>first|exact True.intro|(refine if_ ?_ ?_<;>intro h<;>first|exact h.elim|(exfalso; omega)|skip)|refine vs_ ?_|refine dv_ ?_|exact fin_|(show ∃ _, _ ∧ _; refine ex_ ?_)|(show ∃ _ _, _ ∧ _; refine ex2_ ?_))
  · rintro i ⟨hi1, hi2⟩
    obtain ⟨y1, y2⟩ := x4 i hi1 hi2
    have y3 : 0 < a.p ^ i := Int.pow_pos (show 0 < a.p by omega)
    by_cases hlt : i < s
    · have y4 := y1.2 hlt
      have y5 : a.p ^ i * a.p ≤ 1000 * 13 := Int.mul_le_mul y2 (by omega) (by omega) (by omega)
      have y6 : 0 ≤ a.p ^ i * a.p := Int.mul_nonneg (by omega) (by omega)
      (repeat' (conv => whnf)<;>first|exact True.intro|(refine if_ ?_ ?_<;>intro h<;>first|exact h.elim|(exfalso; omega)|skip)|refine vs_ ?_|refine dv_ ?_|exact fin_|(show ∃ _, _ ∧ _; refine ex_ ?_ (by first|with_reducible exact rfl|with_reducible exact hat.p|exact rd_))|(show ∃ _ _, _ ∧ _; refine ex2_ ?_ (by first|with_reducible exact rfl|with_reducible exact hat.p|exact rd_)))
      conv => whnf
      refine ⟨i + 1, ⟨by omega, by omega⟩, by omega, ?_⟩
      rw [show a.p ^ (i + 1) = a.p ^ i * a.p from Int.pow_succ ..]
      (repeat' (conv => whnf)<;>first|exact True.intro|(refine if_ ?_ ?_<;>intro h<;>first|exact h.elim|(exfalso; omega)|skip)|refine vs_ ?_|refine dv_ ?_|exact fin_|(show ∃ _, _ ∧ _; refine ex_ ?_)|(show ∃ _ _, _ ∧ _; refine ex2_ ?_))
    · have : i = s := by omega
      rw [this]
      have y7 : ¬ a.p ^ s ≤ 6 := by omega
      (repeat' (conv => whnf)<;>first|exact True.intro|(refine if_ ?_ ?_<;>intro h<;>first|exact h.elim|(exfalso; omega)|skip)|refine vs_ ?_ (by first|exact .inr hflat|exact sd_)|refine dv_ ?_|exact fin_|(show ∃ _, _ ∧ _; refine ex_ ?_ (by first|with_reducible exact rfl|exact hE'|exact hK'|exact hV'|exact hN'|with_reducible exact hat.p|exact rd_))|(show ∃ _ _, _ ∧ _; refine ex2_ ?_ (by first|with_reducible exact rfl|exact hE'|exact hK'|exact hV'|exact hN'|with_reducible exact hat.p|exact rd_)))
theorem c_degrees (hL : C_nil P N) (hP : C_prims P N) (hA : C_all P N) (hT : C_spread P N) (hf : isFn P N.impl_Algebra_degrees (ir_impl_Algebra_degrees N) = true) : C_degrees P N := by
  intro sz l e off a hat hca
  have ha := hca.ok
  have hn := ha.n
  have hp2 := prime_bd ha.p
  have hL' := hL (sz := sz) hat hca
  have hP' := hP (sz := sz) hat hca
  have hA' := hA (sz := sz) hat (by omega)
  have hle := prims_le hca
  have hSl : (sortV (primI a)).length = (primI a).length := sortV_len _
  have hpm := prims_len (a := a)
  have hbl := basL_len (a := a)
  have hnl := nilL_len hca
  refine can_of hf rfl rfl ?_
  (repeat' (conv => whnf)<;>first|exact True.intro|(refine if_ ?_ ?_<;>intro h<;>first|exact h.elim|(exfalso; omega)|skip)|refine vs_ ?_|refine dv_ ?_|exact fin_|(show ∃ _, _ ∧ _; refine ex_ ?_ (by first|with_reducible exact rfl|exact hL'|exact hP'|exact rd_))|(show ∃ _ _, _ ∧ _; refine ex2_ ?_ (by first|with_reducible exact rfl|exact hL'|exact hP'|exact rd_)))
  conv => whnf
  refine vc_loop (α := Nat) 0 (fun q => (primI a).length - q) (fun q => q ≤ (primI a).length) [] (fun q => [(3, .row 4 1), (13, .d (.int .i64 q))]) (fun q => [(4, .data 1 (row q (szF a true)))]) lp_ ?_ ?_
  · (repeat' (conv => whnf)<;>first|exact True.intro|(refine if_ ?_ ?_<;>intro h<;>first|exact h.elim|(exfalso; omega)|skip)|refine vs_ ?_|refine dv_ ?_|exact fin_|(show ∃ _, _ ∧ _; refine ex_ ?_)|(show ∃ _ _, _ ∧ _; refine ex2_ ?_))
  · intro q hq
    have hrl : (row q (szF a true)).length = q := row_len ..
    by_cases hlt : q < (primI a).length
    · have hem : (sortV (primI a)).getD q Z ∈ primI a := ((sortV_facts _ (primI a) rfl (orth_dist hca (primI_orth hca))).2.2 _).1 (getD_memE (by omega))
      have heb : Byts ((sortV (primI a)).getD q Z) := ((primI_orth hca).inn _ hem).1.byt (by omega)
      have hT1 := hT (sz := sz) (v := (sortV (primI a)).getD q Z) (L := basL a) hat ha heb (by omega) basL_byt
      have hT2 := hT (sz := sz) (v := (sortV (primI a)).getD q Z) (L := nilL a) hat ha heb (by omega) (fun w hw => (nilL_in hca w hw).1.byt (by omega))
      have hl1 := part_len ha ((sortV (primI a)).getD q Z) (basL a)
      have hl2 := part_len ha ((sortV (primI a)).getD q Z) (nilL a)
      have hm1 : ((partL a ((sortV (primI a)).getD q Z) (basL a)).map vecL).length = (partL a ((sortV (primI a)).getD q Z) (basL a)).length := List.length_map ..
      have hm2 : ((partL a ((sortV (primI a)).getD q Z) (nilL a)).map vecL).length = (partL a ((sortV (primI a)).getD q Z) (nilL a)).length := List.length_map ..
      have hz : (((partL a ((sortV (primI a)).getD q Z) (basL a)).length : Nat) : Int) - (((partL a ((sortV (primI a)).getD q Z) (nilL a)).length : Nat) : Int) = szF a true q := by
        unfold szF; rw [if_pos rfl]
      (repeat' (conv => whnf)<;>first|exact True.intro|(refine if_ ?_ ?_<;>intro h<;>first|exact h.elim|(exfalso; omega)|skip)|refine vs_ ?_ (by first|exact .inr flat_mv|exact sd_)|refine dv_ ?_|exact fin_|(show ∃ _, _ ∧ _; refine ex_ ?_ (by first|with_reducible exact rfl|with_reducible exact sub_vm (by omega) rfl|with_reducible exact rd_st6|exact hA'|exact hT1|exact hT2|exact rd_))|(show ∃ _ _, _ ∧ _; refine ex2_ ?_ (by first|with_reducible exact rfl|with_reducible exact sub_vm (by omega) rfl|with_reducible exact rd_st6|exact hA'|exact hT1|exact hT2|exact rd_)))
      conv => whnf
      refine ⟨q + 1, by omega, by omega, ?_⟩
      (repeat' (conv => whnf)<;>first|exact True.intro|(refine if_ ?_ ?_<;>intro h<;>first|exact h.elim|(exfalso; omega)|skip)|refine vs_ ?_ (by first|exact szF_app (by rw [hm1, hm2]; exact hz)|exact sd_)|refine dv_ ?_|exact fin_|(show ∃ _, _ ∧ _; refine ex_ ?_)|(show ∃ _ _, _ ∧ _; refine ex2_ ?_))
    · have : q = (primI a).length := by omega
      subst this
      (repeat' (conv => whnf)<;>first|exact True.intro|(refine if_ ?_ ?_<;>intro h<;>first|exact h.elim|(exfalso; omega)|skip)|refine vs_ ?_|refine dv_ ?_|exact fin_|(show ∃ _, _ ∧ _; refine ex_ ?_)|(show ∃ _ _, _ ∧ _; refine ex2_ ?_))
end Go.X
