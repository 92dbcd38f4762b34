import Derived.Test.YtckpoeaagbmlbaaGreatW13
import Derived.Test.YtckpoeaagbmlbaaGreatW12
import Derived.Test.YtckpoeaagbmlbaaGreatW11
set_option linter.all false
namespace Go.X
open Go Go.RowKit
set_option maxRecDepth 100000
set_option maxHeartbeats 8000000
set_option linter.unusedVariables false
variable {P : Program} {N : FN}
theorem c_sPart (hT : C_sTimes P N) (hR : C_sRow P N) (hE : C_sEchelon P N) (hV : C_sVectors P N) (hf : isFn P N.spec_l05Part (ir_spec_l05Part N) = true) : C_sPart P N := by
  intro a v L ha hv hL hb
  have hn := ha.n
  have hp2 := prime_bd ha.p
  have hat := algAt_one a
  have hal := hat.all
  have hnn : ((a.n.toNat : Nat) : Int) = a.n := by omega
  have hml : (L.map vecL).length = L.length := List.length_map ..
  have hrw := part_rw (show 1 ≤ a.p by omega) v L
  have hE' := hE (m := a.n.toNat) (L := L.map (timesV a v)) (by omega) (by rw [List.length_map]; exact hL) ha.p hrw
  obtain ⟨ld, rr⟩ := echF_rr (m := a.n.toNat) ha.p hrw
  have hkl := rr.len_le
  have hV' := hV (m := a.n.toNat) (L := echF a.p a.n.toNat (L.map (timesV a v))) (by omega) (by omega) (fun r hr i => by have := rr.rw r hr i; omega)
  have e0 : (partL a v L).map vecL = (echF a.p a.n.toNat (L.map (timesV a v))).map fun r => vecL (vecR a.n.toNat r) := by unfold partL; rw [List.map_map]; rfl
  rw [e0]
  refine can_of hf rfl rfl ?_
  (repeat' (conv => whnf)<;>first|exact True.intro|(refine if_ ?_ ?_<;>intro h<;>first|exact h.elim|(exfalso; omega)|skip)|refine vs_ ?_|refine dv_ ?_|exact fin_|(show ∃ _, _ ∧ _; refine ex_ ?_)|(show ∃ _ _, _ ∧ _; refine ex2_ ?_))
  conv => whnf
  refine vc_loop (α := Nat) 0 (fun q => L.length - q) (fun q => q ≤ L.length) [] (fun q => [(7, .row 8 1), (8, .d (.int .i64 q))]) (fun q => [(8, .data 1 (rowsL a.n.toNat ((L.take q).map (timesV a v))))]) lp_ ?_ ?_
  · (repeat' (conv => whnf)<;>first|exact True.intro|(refine if_ ?_ ?_<;>intro h<;>first|exact h.elim|(exfalso; omega)|skip)|refine vs_ ?_|refine dv_ ?_|exact fin_|(show ∃ _, _ ∧ _; refine ex_ ?_)|(show ∃ _ _, _ ∧ _; refine ex2_ ?_))
  · intro q hq
    have htl : (rowsL a.n.toNat ((L.take q).map (timesV a v))).length = q := by rw [rowsL_len, List.length_map, List.length_take]; omega
    by_cases hlt : q < L.length
    · have hT' := hT (a := a) ha.b hv (hb _ (getD_memE hlt)) (by omega) (by omega)
      have hR' := hR (m := a.n.toNat) (v := timesV a v (L.getD q Z)) (by omega) ((times_rw (a := a) (by omega) _ _).byt (by omega))
      rw [hnn] at hR'
      (repeat' (conv => whnf)<;>first|exact True.intro|(refine if_ ?_ ?_<;>intro h<;>first|exact h.elim|(exfalso; omega)|skip)|refine vs_ ?_ (by first|exact ⟨by (simp only [List.length_cons, List.length_nil, htl, maxRow]; omega), by decide, by decide⟩|exact sd_)|refine dv_ ?_|exact fin_|(show ∃ _, _ ∧ _; refine ex_ ?_ (by first|with_reducible exact rfl|with_reducible exact hal|with_reducible exact hat.n|with_reducible exact sub_vm hlt rfl|with_reducible exact rd_st6|exact hT'|exact hR'|exact rd_))|(show ∃ _ _, _ ∧ _; refine ex2_ ?_ (by first|with_reducible exact rfl|with_reducible exact hal|with_reducible exact hat.n|with_reducible exact sub_vm hlt rfl|with_reducible exact rd_st6|exact hT'|exact hR'|exact rd_)))
      conv => whnf
      refine ⟨q + 1, by omega, by omega, ?_⟩
      rw [take_getD hlt, List.map_append, List.map_singleton, ← rws_app]
      (repeat' (conv => whnf)<;>first|exact True.intro|(refine if_ ?_ ?_<;>intro h<;>first|exact h.elim|(exfalso; omega)|skip)|refine vs_ ?_|refine dv_ ?_|exact fin_|(show ∃ _, _ ∧ _; refine ex_ ?_)|(show ∃ _ _, _ ∧ _; refine ex2_ ?_))
    · have : q = L.length := by omega
      rw [this, List.take_length]
      (repeat' (conv => whnf)<;>first|exact True.intro|(refine if_ ?_ ?_<;>intro h<;>first|exact h.elim|(exfalso; omega)|skip)|refine vs_ ?_|refine dv_ ?_|exact fin_|(show ∃ _, _ ∧ _; refine ex_ ?_ (by first|with_reducible exact rfl|with_reducible exact hat.p|exact hE'|exact hV'|exact rd_))|(show ∃ _ _, _ ∧ _; refine ex2_ ?_ (by first|with_reducible exact rfl|with_reducible exact hat.p|exact hE'|exact hV'|exact rd_)))
theorem c_sNil (hS : C_sSpace P N) (hf : isFn P N.spec_l05Nil (ir_spec_l05Nil N) = true) : C_sNil P N := by
  intro a hca
  have ha := hca.ok
  have hn := ha.n
  have hp2 := prime_bd ha.p
  have hat := algAt_one a
  have hal := hat.all
  obtain ⟨x1, x2, x3, x4⟩ := exp_facts ha.p hn
  obtain ⟨s, hs⟩ : ∃ s, s = expS a.p a.n := ⟨_, rfl⟩
  have hpp : ((a.p.toNat ^ s : Nat) : Int) = a.p ^ s := by rw [Int.natCast_pow, show ((a.p.toNat : Nat) : Int) = a.p by omega]
  have hk : a.p.toNat ^ s ≤ 1000 := by
    have := (x4 s (by omega) (by omega)).2
    omega
  have hS' := hS (k := a.p.toNat ^ s) (t := 0) ha hk (by omega)
  rw [hpp] at hS'
  have hF : spF a (a.p.toNat ^ s) 0 = nilF a s := funext fun x => funext fun i => by
    show (pw a x (a.p.toNat ^ s) i + -0 * x i) % a.p = pw a x (a.p.toNat ^ s) i
    rw [Int.neg_zero, Int.zero_mul, Int.add_zero]
    exact rw_mod (in_pw hca x _).1 i
  rw [hF] at hS'
  unfold nilL
  rw [← hs]
  rw [← hs] at x1 x2 x3 x4
  refine can_of hf rfl rfl ?_
  (repeat' (conv => whnf)<;>first|exact True.intro|(refine if_ ?_ ?_<;>intro h<;>first|exact h.elim|(exfalso; omega)|skip)|refine vs_ ?_|refine dv_ ?_|exact fin_|(show ∃ _, _ ∧ _; refine ex_ ?_)|(show ∃ _ _, _ ∧ _; refine ex2_ ?_))
  conv => whnf
  refine vc_loop (α := Nat) 1 (fun i => s - i) (fun i => 1 ≤ i ∧ i ≤ s) [] (fun i => [(3, .d (.int .i64 (a.p ^ i)))]) (fun i => []) lp_ ?_ ?_
  · rw [Int.pow_one]
    (repeat' (conv => whnf)<;>first|exact True.intro|(refine if_ ?_ ?_<;>intro h<;>first|exact h.elim|(exfalso; omega)|skip)|refine vs_ ?_|refine dv_ ?_|exact fin_|(show ∃ _, _ ∧ _; refine ex_ ?_ (by first|with_reducible exact rfl|with_reducible exact hat.p|exact rd_))|(show ∃ _ _, _ ∧ _; refine ex2_ ?_ (by first|with_reducible exact rfl|with_reducible exact hat.p|exact rd_)))
  · rintro i ⟨hi1, hi2⟩
    obtain ⟨y1, y2⟩ := x4 i hi1 hi2
    have y3 : 0 < a.p ^ i := Int.pow_pos (show 0 < a.p by omega)
    by_cases hlt : i < s
    · have y4 := y1.2 hlt
      have y5 : a.p ^ i * a.p ≤ 1000 * 13 := Int.mul_le_mul y2 (by omega) (by omega) (by omega)
      have y6 : 0 ≤ a.p ^ i * a.p := Int.mul_nonneg (by omega) (by omega)
      (repeat' (conv => whnf)<;>first|exact True.intro|(refine if_ ?_ ?_<;>intro h<;>first|exact h.elim|(exfalso; omega)|skip)|refine vs_ ?_|refine dv_ ?_|exact fin_|(show ∃ _, _ ∧ _; refine ex_ ?_ (by first|with_reducible exact rfl|with_reducible exact hat.n|with_reducible exact hat.p|exact rd_))|(show ∃ _ _, _ ∧ _; refine ex2_ ?_ (by first|with_reducible exact rfl|with_reducible exact hat.n|with_reducible exact hat.p|exact rd_)))
      conv => whnf
      refine ⟨i + 1, ⟨by omega, by omega⟩, by omega, ?_⟩
      rw [show a.p ^ (i + 1) = a.p ^ i * a.p from Int.pow_succ ..]
      (repeat' (conv => whnf)<;>first|exact True.intro|(refine if_ ?_ ?_<;>intro h<;>first|exact h.elim|(exfalso; omega)|skip)|refine vs_ ?_|refine dv_ ?_|exact fin_|(show ∃ _, _ ∧ _; refine ex_ ?_)|(show ∃ _ _, _ ∧ _; refine ex2_ ?_))
    · have : i = s := by omega
      subst this
      (repeat' (conv => whnf)<;>first|exact True.intro|(refine if_ ?_ ?_<;>intro h<;>first|exact h.elim|(exfalso; omega)|skip)|refine vs_ ?_|refine dv_ ?_|exact fin_|(show ∃ _, _ ∧ _; refine ex_ ?_ (by first|with_reducible exact rfl|with_reducible exact hat.n|with_reducible exact hal|exact hS'|exact rd_))|(show ∃ _ _, _ ∧ _; refine ex2_ ?_ (by first|with_reducible exact rfl|with_reducible exact hat.n|with_reducible exact hal|exact hS'|exact rd_)))
theorem szF_app {a : Alg} {b : Bool} {q : Nat} {x : Int} (h : x = szF a b q) : Chunk.data 1 (row q (szF a b) ++ [[.int .i64 x]]) = .data 1 (row (q + 1) (szF a b)) := row_app h
theorem c_sSizes (hP : C_sPrims P N) (hB : C_sBasisL P N) (hL : C_sNil P N) (hT : C_sPart P N) (hf : isFn P N.spec_l05Sizes (ir_spec_l05Sizes N) = true) : C_sSizes P N := by
  intro a b hca
  have ha := hca.ok
  have hn := ha.n
  have hp2 := prime_bd ha.p
  have hat := algAt_one a
  have hal := hat.all
  have hP' := hP hca
  have hB' := hB (a := a) (by omega)
  have hL' := hL hca
  have hle := prims_le hca
  have hSl : (sortV (primI a)).length = (primI a).length := sortV_len _
  have hpm := prims_len (a := a)
  have hbl := basL_len (a := a)
  have hnl := nilL_len hca
  refine can_of hf rfl rfl ?_
  (repeat' (conv => whnf)<;>first|exact True.intro|(refine if_ ?_ ?_<;>intro h<;>first|exact h.elim|(exfalso; omega)|skip)|refine vs_ ?_|refine dv_ ?_|exact fin_|(show ∃ _, _ ∧ _; refine ex_ ?_ (by first|with_reducible exact rfl|with_reducible exact hal|exact hP'|exact hB'|exact hL'|exact rd_))|(show ∃ _ _, _ ∧ _; refine ex2_ ?_ (by first|with_reducible exact rfl|with_reducible exact hal|exact hP'|exact hB'|exact hL'|exact rd_)))
  conv => whnf
  refine vc_loop (α := Nat) 0 (fun q => (primI a).length - q) (fun q => q ≤ (primI a).length) [] (fun q => [(8, .row 9 1), (9, .d (.int .i64 q))]) (fun q => [(9, .data 1 (row q (szF a b)))]) lp_ ?_ ?_
  · (repeat' (conv => whnf)<;>first|exact True.intro|(refine if_ ?_ ?_<;>intro h<;>first|exact h.elim|(exfalso; omega)|skip)|refine vs_ ?_|refine dv_ ?_|exact fin_|(show ∃ _, _ ∧ _; refine ex_ ?_)|(show ∃ _ _, _ ∧ _; refine ex2_ ?_))
  · intro q hq
    have hrl : (row q (szF a b)).length = q := row_len ..
    by_cases hlt : q < (primI a).length
    · have hem : (sortV (primI a)).getD q Z ∈ primI a := ((sortV_facts _ (primI a) rfl (orth_dist hca (primI_orth hca))).2.2 _).1 (getD_memE (by omega))
      have heb : Byts ((sortV (primI a)).getD q Z) := ((primI_orth hca).inn _ hem).1.byt (by omega)
      have hT1 := hT (v := (sortV (primI a)).getD q Z) (L := basL a) ha heb (by omega) basL_byt
      have hT2 := hT (v := (sortV (primI a)).getD q Z) (L := nilL a) ha heb (by omega) (fun w hw => (nilL_in hca w hw).1.byt (by omega))
      have hl1 := part_len ha ((sortV (primI a)).getD q Z) (basL a)
      have hl2 := part_len ha ((sortV (primI a)).getD q Z) (nilL a)
      have hm1 : ((partL a ((sortV (primI a)).getD q Z) (basL a)).map vecL).length = (partL a ((sortV (primI a)).getD q Z) (basL a)).length := List.length_map ..
      have hm2 : ((partL a ((sortV (primI a)).getD q Z) (nilL a)).map vecL).length = (partL a ((sortV (primI a)).getD q Z) (nilL a)).length := List.length_map ..
      cases b with
      | false =>
        have hz : (((partL a ((sortV (primI a)).getD q Z) (basL a)).length : Nat) : Int) = szF a false q := by
          unfold szF; rw [if_neg (by simp), Int.sub_zero]
        (repeat' (conv => whnf)<;>first|exact True.intro|(refine if_ ?_ ?_<;>intro h<;>first|exact h.elim|(exfalso; omega)|skip)|refine vs_ ?_ (by first|exact .inr flat_mv|exact sd_)|refine dv_ ?_|exact fin_|(show ∃ _, _ ∧ _; refine ex_ ?_ (by first|with_reducible exact rfl|with_reducible exact hal|with_reducible exact sub_vm (by omega) rfl|exact hT1|exact rd_))|(show ∃ _ _, _ ∧ _; refine ex2_ ?_ (by first|with_reducible exact rfl|with_reducible exact hal|with_reducible exact sub_vm (by omega) rfl|exact hT1|exact rd_)))
        conv => whnf
        refine ⟨q + 1, by omega, by omega, ?_⟩
        (repeat' (conv => whnf)<;>first|exact True.intro|(refine if_ ?_ ?_<;>intro h<;>first|exact h.elim|(exfalso; omega)|skip)|refine vs_ ?_ (by first|exact szF_app (by rw [hm1]; exact hz)|exact sd_)|refine dv_ ?_|exact fin_|(show ∃ _, _ ∧ _; refine ex_ ?_)|(show ∃ _ _, _ ∧ _; refine ex2_ ?_))
      | true =>
        have hz : (((partL a ((sortV (primI a)).getD q Z) (basL a)).length : Nat) : Int) - (((partL a ((sortV (primI a)).getD q Z) (nilL a)).length : Nat) : Int) = szF a true q := by
          unfold szF; rw [if_pos rfl]
        (repeat' (conv => whnf)<;>first|exact True.intro|(refine if_ ?_ ?_<;>intro h<;>first|exact h.elim|(exfalso; omega)|skip)|refine vs_ ?_ (by first|exact .inr flat_mv|exact sd_)|refine dv_ ?_|exact fin_|(show ∃ _, _ ∧ _; refine ex_ ?_ (by first|with_reducible exact rfl|with_reducible exact hal|with_reducible exact sub_vm (by omega) rfl|exact hT1|exact hT2|exact rd_))|(show ∃ _ _, _ ∧ _; refine ex2_ ?_ (by first|with_reducible exact rfl|with_reducible exact hal|with_reducible exact sub_vm (by omega) rfl|exact hT1|exact hT2|exact rd_)))
        conv => whnf
        refine ⟨q + 1, by omega, by omega, ?_⟩
        (repeat' (conv => whnf)<;>first|exact True.intro|(refine if_ ?_ ?_<;>intro h<;>first|exact h.elim|(exfalso; omega)|skip)|refine vs_ ?_ (by first|exact szF_app (by rw [hm1, hm2]; exact hz)|exact sd_)|refine dv_ ?_|exact fin_|(show ∃ _, _ ∧ _; refine ex_ ?_)|(show ∃ _ _, _ ∧ _; refine ex2_ ?_))
    · have : q = (primI a).length := by omega
      subst this
      (repeat' (conv => whnf)<;>first|exact True.intro|(refine if_ ?_ ?_<;>intro h<;>first|exact h.elim|(exfalso; omega)|skip)|refine vs_ ?_|refine dv_ ?_|exact fin_|(show ∃ _, _ ∧ _; refine ex_ ?_)|(show ∃ _ _, _ ∧ _; refine ex2_ ?_))
end Go.X
namespace Go.X
open Go Go.RowKit
set_option maxRecDepth 100000
set_option maxHeartbeats 8000000
set_option linter.unusedVariables false
variable {P : Program} {N : FN}
theorem shS_in {a : Alg} (h : CA a) {b e : Nat → Int} (hb : InA a b) (he : InA a e) (c d : Nat) : InA a (shS a b e c d) := by
  rw [shS_eq h hb he]; exact in_sc h (in_mul h _ _)
theorem shS_ne {a : Alg} {b e : Nat → Int} {c d : Nat} (h : d ≠ c) : shS a b e c (d + 1) = timesV a (shS a b e c d) (addV a.p (invF a.p ((c : Int) - d)) Z (addV a.p (-(d : Int)) b (sUnit a))) := by
  rw [shS, if_neg h]
theorem shS_e {a : Alg} {b e : Nat → Int} {c d : Nat} (h : d = c) : shS a b e c (d + 1) = shS a b e c d := by
  rw [shS, if_pos h]
theorem ins1 {S : List Row} {v : Row} {j : Nat} (h : posV v S = j) (hj : j ≤ S.length) :
    Chunk.data 6 ([] ++ ((S.map vecL).drop (Int.toNat 0)).take (((j : Nat) : Int).toNat - Int.toNat 0) ++ ([vecL v] ++ ((S.map vecL).drop ((j : Nat) : Int).toNat).take ((((S.map vecL).length : Nat) : Int).toNat - ((j : Nat) : Int).toNat))) = .data 6 ((insV S v).map vecL) := by
  unfold insV
  rw [h, Int.toNat_natCast, Int.toNat_natCast, List.take_of_length_le (l := (S.map vecL).drop j) (by rw [List.length_drop]; omega)]
  simp [List.map_take, List.map_drop]
theorem ins2 {S : List Row} {v : Row} {j : Nat} (h : posV v S = j) (hj : j = S.length) :
    Chunk.data 6 ([] ++ ((S.map vecL).drop (Int.toNat 0)).take (((j : Nat) : Int).toNat - Int.toNat 0) ++ ([vecL v] ++ [])) = .data 6 ((insV S v).map vecL) := by
  unfold insV
  subst hj
  rw [h, Int.toNat_natCast, List.take_of_length_le (by simp), List.take_length, List.drop_length]
  simp
theorem ins3 {S : List Row} {v : Row} (h : S.length = 0) : Chunk.data 6 ([] ++ [] ++ ([vecL v] ++ [])) = .data 6 ((insV S v).map vecL) := by
  have : S = [] := List.length_eq_zero_iff.1 h
  subst this
  rfl
theorem c_sPrims (hU : C_sUnit P N) (hSp : C_sSpace P N) (hA : C_sAddK P N) (hI : C_sInverse P N) (hT : C_sTimes P N) (hBf : C_before P N) (hf : isFn P N.spec_l05Primitive (ir_spec_l05Primitive N) = true) : C_sPrims P N := by
  intro a hca
  have ha := hca.ok
  have hn := ha.n
  have hp2 := prime_bd ha.p
  have hat := algAt_one a
  have hal := hat.all
  have hpn : ((a.p.toNat : Nat) : Int) = a.p := by omega
  have hU' : Can P N.spec_l01Unit [algD a] (.val (vecD (sUnit a))) := hU ha
  have hSp' : Can P N.spec_l05Space [algD a, .int .i64 a.p, .int .i64 1] (.own 6 ((fixL a).map vecL)) := by
    have := hSp (k := a.p.toNat) (t := 1) ha (by omega) (by omega)
    rw [hpn] at this
    exact this
  have hfl := fix_len hca
  have hfm : ((fixL a).map vecL).length = (fixL a).length := List.length_map ..
  have hub : Byts (sUnit a) := (in_one hca).1.byt (by omega)
  have hPo := primI_orth hca
  have hPl := orth_len hca hPo
  have hPm : ((primI a).map vecL).length = (primI a).length := List.length_map ..
  refine can_of hf rfl rfl ?_
  (repeat' (conv => whnf)<;>first|exact True.intro|(refine if_ ?_ ?_<;>intro h<;>first|exact h.elim|(exfalso; omega)|skip)|refine vs_ ?_|refine dv_ ?_|exact fin_|(show ∃ _, _ ∧ _; refine ex_ ?_ (by first|with_reducible exact rfl|with_reducible exact hal|with_reducible exact hat.p|with_reducible exact rd_st6|exact hU'|exact hSp'|exact rd_))|(show ∃ _ _, _ ∧ _; refine ex2_ ?_ (by first|with_reducible exact rfl|with_reducible exact hal|with_reducible exact hat.p|with_reducible exact rd_st6|exact hU'|exact hSp'|exact rd_)))
  conv => whnf
  refine vc_loop (α := Nat) 0 (fun k => (fixL a).length - k) (fun k => k ≤ (fixL a).length) [] (fun k => [(4, .row 5 6), (6, .d (.int .i64 k))]) (fun k => [(5, .data 6 ((stg a k).map vecL))]) lp_ ?_ ?_
  · (repeat' (conv => whnf)<;>first|exact True.intro|(refine if_ ?_ ?_<;>intro h<;>first|exact h.elim|(exfalso; omega)|skip)|refine vs_ ?_|refine dv_ ?_|exact fin_|(show ∃ _, _ ∧ _; refine ex_ ?_)|(show ∃ _ _, _ ∧ _; refine ex2_ ?_))
  · intro k hk
    have ho := stg_orth hca k
    have hol := orth_len hca ho
    have hml : ((stg a k).map vecL).length = (stg a k).length := List.length_map ..
    by_cases hlt : k < (fixL a).length
    · obtain ⟨hbi, hbf⟩ := fix_mem hca _ (getD_memE hlt)
      have hs1 := stg_s hlt
      generalize hb : (fixL a).getD k Z = b at *
      (repeat' (conv => whnf)<;>first|exact True.intro|(refine if_ ?_ ?_<;>intro h<;>first|exact h.elim|(exfalso; omega)|skip)|refine vs_ ?_|refine dv_ ?_|exact fin_|(show ∃ _, _ ∧ _; refine ex_ ?_)|(show ∃ _ _, _ ∧ _; refine ex2_ ?_))
      conv => whnf
      refine vc_loop (α := Nat) 0 (fun q => (stg a k).length - q) (fun q => q ≤ (stg a k).length) [] (fun q => [(7, .row 8 6), (8, .d (.int .i64 q))]) (fun q => [(8, .data 6 ((nxt a b (stg a k) q).map vecL))]) lp_ ?_ ?_
      · (repeat' (conv => whnf)<;>first|exact True.intro|(refine if_ ?_ ?_<;>intro h<;>first|exact h.elim|(exfalso; omega)|skip)|refine vs_ ?_|refine dv_ ?_|exact fin_|(show ∃ _, _ ∧ _; refine ex_ ?_)|(show ∃ _ _, _ ∧ _; refine ex2_ ?_))
      · intro q hq
        by_cases hlt2 : q < (stg a k).length
        · have hei := ho.inn _ (getD_memE hlt2)
          have hn1 := nxt_s (a := a) (b := b) hlt2
          generalize he : (stg a k).getD q Z = e at *
          have hnl := nxt_len (a := a) (b := b) (E := stg a k) q
          have hqp : q * a.p.toNat ≤ 6 * 13 := Nat.mul_le_mul (by omega) (by omega)
          (repeat' (conv => whnf)<;>first|exact True.intro|(refine if_ ?_ ?_<;>intro h<;>first|exact h.elim|(exfalso; omega)|skip)|refine vs_ ?_|refine dv_ ?_|exact fin_|(show ∃ _, _ ∧ _; refine ex_ ?_)|(show ∃ _ _, _ ∧ _; refine ex2_ ?_))
          conv => whnf
          refine vc_loop (α := Nat) 0 (fun c => a.p.toNat - c) (fun c => c ≤ a.p.toNat) [] (fun c => [(7, .row 8 6), (9, .d (.int .i64 c))]) (fun c => [(8, .data 6 ((nxt a b (stg a k) q ++ shQ a b e c).map vecL))]) lp_ ?_ ?_
          · have e0 : nxt a b (stg a k) q ++ shQ a b e 0 = nxt a b (stg a k) q := List.append_nil _
            rw [e0]
            (repeat' (conv => whnf)<;>first|exact True.intro|(refine if_ ?_ ?_<;>intro h<;>first|exact h.elim|(exfalso; omega)|skip)|refine vs_ ?_|refine dv_ ?_|exact fin_|(show ∃ _, _ ∧ _; refine ex_ ?_)|(show ∃ _ _, _ ∧ _; refine ex2_ ?_))
          · intro c hc
            have hlq := shQ_len (a := a) (b := b) (e := e) (q := c)
            have hnm : ((nxt a b (stg a k) q ++ shQ a b e c).map vecL).length = (nxt a b (stg a k) q).length + (shQ a b e c).length := by rw [List.length_map, List.length_append]
            by_cases hlt3 : c < a.p.toNat
            · (repeat' (conv => whnf)<;>first|exact True.intro|(refine if_ ?_ ?_<;>intro h<;>first|exact h.elim|(exfalso; omega)|skip)|refine vs_ ?_|refine dv_ ?_|exact fin_|(show ∃ _, _ ∧ _; refine ex_ ?_ (by first|with_reducible exact rfl|with_reducible exact hat.p|with_reducible exact sub_vm hlt2 he|exact rd_))|(show ∃ _ _, _ ∧ _; refine ex2_ ?_ (by first|with_reducible exact rfl|with_reducible exact hat.p|with_reducible exact sub_vm hlt2 he|exact rd_)))
              conv => whnf
              refine vc_loop (α := Nat) 0 (fun d => a.p.toNat - d) (fun d => d ≤ a.p.toNat) [] (fun d => [(10, .ptr 11 6 0 0), (11, .d (.int .i64 d))]) (fun d => [(11, .data 6 [vecL (shS a b e c d)])]) lp_ ?_ ?_
              · (repeat' (conv => whnf)<;>first|exact True.intro|(refine if_ ?_ ?_<;>intro h<;>first|exact h.elim|(exfalso; omega)|skip)|refine vs_ ?_ (by first|exact st_all (f := Z)|exact sd_)|refine dv_ ?_|exact fin_|(show ∃ _, _ ∧ _; refine ex_ ?_)|(show ∃ _ _, _ ∧ _; refine ex2_ ?_))
              · intro d hd
                by_cases hlt4 : d < a.p.toNat
                · by_cases g : d = c
                  · (repeat' (conv => whnf)<;>first|exact True.intro|(refine if_ ?_ ?_<;>intro h<;>first|exact h.elim|(exfalso; omega)|skip)|refine vs_ ?_|refine dv_ ?_|exact fin_|(show ∃ _, _ ∧ _; refine ex_ ?_ (by first|with_reducible exact rfl|with_reducible exact hat.p|exact rd_))|(show ∃ _ _, _ ∧ _; refine ex2_ ?_ (by first|with_reducible exact rfl|with_reducible exact hat.p|exact rd_)))
                    conv => whnf
                    refine ⟨d + 1, by omega, by omega, ?_⟩
                    rw [shS_e g]
                    (repeat' (conv => whnf)<;>first|exact True.intro|(refine if_ ?_ ?_<;>intro h<;>first|exact h.elim|(exfalso; omega)|skip)|refine vs_ ?_|refine dv_ ?_|exact fin_|(show ∃ _, _ ∧ _; refine ex_ ?_)|(show ∃ _ _, _ ∧ _; refine ex2_ ?_))
                  · have hdb := diff_bd (c := c) (d := d) (p := a.p) (by omega) (by omega) (by omega) g
                    have hib := inv_mul ha.p hdb
                    rw [invF_mod] at hib
                    have hbb : Byts b := hbi.1.byt (by omega)
                    have hZb : Byts Z := fun _ => by show (0 : Int) ≤ 0 ∧ (0 : Int) ≤ 255; omega
                    have hA1 : Can P N.spec_l01Add [.int .i64 a.p, vecD b, vecD (sUnit a), .int .i64 (0 - (d : Int))] (.val (vecD (addV a.p (-(d : Int)) b (sUnit a)))) := by
                      rw [Int.zero_sub]
                      exact hA hbb hub (by omega) (by omega)
                    have hab : Byts (addV a.p (-(d : Int)) b (sUnit a)) := fun i => by
                      have := mod_bd (b i + (-(d : Int)) * sUnit a i) (show 1 ≤ a.p by omega)
                      show 0 ≤ (b i + (-(d : Int)) * sUnit a i) % a.p ∧ (b i + (-(d : Int)) * sUnit a i) % a.p ≤ 255
                      omega
                    have hI1 := hI (x := (c : Int) - d) (p := a.p) (by omega) (by omega)
                    have hA2 := hA (p := a.p) (k := invF a.p ((c : Int) - d)) hZb hab (by omega) (by omega)
                    have hac : Byts (addV a.p (invF a.p ((c : Int) - d)) Z (addV a.p (-(d : Int)) b (sUnit a))) := fun i => by
                      have := mod_bd (Z i + (invF a.p ((c : Int) - d)) * addV a.p (-(d : Int)) b (sUnit a) i) (show 1 ≤ a.p by omega)
                      show 0 ≤ (Z i + (invF a.p ((c : Int) - d)) * addV a.p (-(d : Int)) b (sUnit a) i) % a.p ∧ (Z i + (invF a.p ((c : Int) - d)) * addV a.p (-(d : Int)) b (sUnit a) i) % a.p ≤ 255
                      omega
                    have hT1 := hT (a := a) ha.b ((shS_in hca hbi hei c d).1.byt (by omega)) hac (by omega) (by omega)
                    (repeat' (conv => whnf)<;>first|exact True.intro|(refine if_ ?_ ?_<;>intro h<;>first|exact h.elim|(exfalso; omega)|skip)|refine vs_ ?_|refine dv_ ?_|exact fin_|(show ∃ _, _ ∧ _; refine ex_ ?_ (by first|with_reducible exact rfl|with_reducible exact hat.p|with_reducible exact hal|with_reducible exact sub_vm hlt hb|with_reducible exact rd_st6|exact hA1|exact hI1|exact hA2|exact hT1|exact rd_))|(show ∃ _ _, _ ∧ _; refine ex2_ ?_ (by first|with_reducible exact rfl|with_reducible exact hat.p|with_reducible exact hal|with_reducible exact sub_vm hlt hb|with_reducible exact rd_st6|exact hA1|exact hI1|exact hA2|exact hT1|exact rd_)))
                    conv => whnf
                    refine ⟨d + 1, by omega, by omega, ?_⟩
                    rw [shS_ne g]
                    (repeat' (conv => whnf)<;>first|exact True.intro|(refine if_ ?_ ?_<;>intro h<;>first|exact h.elim|(exfalso; omega)|skip)|refine vs_ ?_ (by first|exact st_all|exact sd_)|refine dv_ ?_|exact fin_|(show ∃ _, _ ∧ _; refine ex_ ?_)|(show ∃ _ _, _ ∧ _; refine ex2_ ?_))
                · have : d = a.p.toNat := by omega
                  have hsh : shS a b e c a.p.toNat = share a b e c := (sh_same hca hbi hei c _).symm
                  rw [this, hsh]
                  by_cases g : VEq (share a b e c) Z
                  · (repeat' (conv => whnf)<;>first|exact True.intro|(refine if_ ?_ ?_<;>intro h<;>first|exact h.elim|(exfalso; omega)|skip)|refine vs_ ?_ (by first|exact ⟨conf_vec _, conf_vec Z⟩|exact sd_)|refine dv_ ?_|exact fin_|(show ∃ _, _ ∧ _; refine ex_ ?_ (by first|with_reducible exact rfl|with_reducible exact hat.p|exact eq_t g|exact rd_))|(show ∃ _ _, _ ∧ _; refine ex2_ ?_ (by first|with_reducible exact rfl|with_reducible exact hat.p|exact eq_t g|exact rd_)))
                    conv => whnf
                    refine ⟨c + 1, by omega, by omega, ?_⟩
                    rw [shQ_f g]
                    (repeat' (conv => whnf)<;>first|exact True.intro|(refine if_ ?_ ?_<;>intro h<;>first|exact h.elim|(exfalso; omega)|skip)|refine vs_ ?_|refine dv_ ?_|exact fin_|(show ∃ _, _ ∧ _; refine ex_ ?_)|(show ∃ _ _, _ ∧ _; refine ex2_ ?_))
                  · (repeat' (conv => whnf)<;>first|exact True.intro|(refine if_ ?_ ?_<;>intro h<;>first|exact h.elim|(exfalso; omega)|skip)|refine vs_ ?_ (by first|exact ⟨conf_vec _, conf_vec Z⟩ | exact ⟨by (simp only [List.length_cons, List.length_nil, hnm, maxRow]; omega), by decide, by decide⟩|exact sd_)|refine dv_ ?_|exact fin_|(show ∃ _, _ ∧ _; refine ex_ ?_ (by first|with_reducible exact rfl|with_reducible exact hat.p|exact eq_f g|exact rd_))|(show ∃ _ _, _ ∧ _; refine ex2_ ?_ (by first|with_reducible exact rfl|with_reducible exact hat.p|exact eq_f g|exact rd_)))
                    conv => whnf
                    refine ⟨c + 1, by omega, by omega, ?_⟩
                    rw [shQ_t g, ← List.append_assoc, ← vcs_app]
                    (repeat' (conv => whnf)<;>first|exact True.intro|(refine if_ ?_ ?_<;>intro h<;>first|exact h.elim|(exfalso; omega)|skip)|refine vs_ ?_|refine dv_ ?_|exact fin_|(show ∃ _, _ ∧ _; refine ex_ ?_)|(show ∃ _ _, _ ∧ _; refine ex2_ ?_))
            · have : c = a.p.toNat := by omega
              rw [this, show nxt a b (stg a k) q ++ shQ a b e a.p.toNat = nxt a b (stg a k) (q + 1) from hn1.symm]
              (repeat' (conv => whnf)<;>first|exact True.intro|(refine if_ ?_ ?_<;>intro h<;>first|exact h.elim|(exfalso; omega)|skip)|refine vs_ ?_|refine dv_ ?_|exact fin_|(show ∃ _, _ ∧ _; refine ex_ ?_ (by first|with_reducible exact rfl|with_reducible exact hat.p|exact rd_))|(show ∃ _ _, _ ∧ _; refine ex2_ ?_ (by first|with_reducible exact rfl|with_reducible exact hat.p|exact rd_)))
              conv => whnf
              refine ⟨q + 1, by omega, by omega, ?_⟩
              (repeat' (conv => whnf)<;>first|exact True.intro|(refine if_ ?_ ?_<;>intro h<;>first|exact h.elim|(exfalso; omega)|skip)|refine vs_ ?_|refine dv_ ?_|exact fin_|(show ∃ _, _ ∧ _; refine ex_ ?_)|(show ∃ _ _, _ ∧ _; refine ex2_ ?_))
        · have : q = (stg a k).length := by omega
          rw [this, nxt_n, ← hs1]
          (repeat' (conv => whnf)<;>first|exact True.intro|(refine if_ ?_ ?_<;>intro h<;>first|exact h.elim|(exfalso; omega)|skip)|refine vs_ ?_|refine dv_ ?_|exact fin_|(show ∃ _, _ ∧ _; refine ex_ ?_)|(show ∃ _ _, _ ∧ _; refine ex2_ ?_))
          conv => whnf
          refine ⟨k + 1, by omega, by omega, ?_⟩
          (repeat' (conv => whnf)<;>first|exact True.intro|(refine if_ ?_ ?_<;>intro h<;>first|exact h.elim|(exfalso; omega)|skip)|refine vs_ ?_|refine dv_ ?_|exact fin_|(show ∃ _, _ ∧ _; refine ex_ ?_)|(show ∃ _ _, _ ∧ _; refine ex2_ ?_))
    · have : k = (fixL a).length := by omega
      rw [this, stg_n]
      (repeat' (conv => whnf)<;>first|exact True.intro|(refine if_ ?_ ?_<;>intro h<;>first|exact h.elim|(exfalso; omega)|skip)|refine vs_ ?_|refine dv_ ?_|exact fin_|(show ∃ _, _ ∧ _; refine ex_ ?_)|(show ∃ _ _, _ ∧ _; refine ex2_ ?_))
      conv => whnf
      generalize primI a = E at *
      have hEb : ∀ i, i < E.length → Byts (E.getD i Z) := fun i hi => (hPo.inn _ (getD_memE hi)).1.byt (by omega)
      refine vc_loop (α := Nat) 0 (fun i => E.length - i) (fun i => i ≤ E.length) [] (fun i => [(13, .row 14 6), (14, .d (.int .i64 i))]) (fun i => [(14, .data 6 ((sortV (E.take i)).map vecL))]) lp_ ?_ ?_
      · (repeat' (conv => whnf)<;>first|exact True.intro|(refine if_ ?_ ?_<;>intro h<;>first|exact h.elim|(exfalso; omega)|skip)|refine vs_ ?_|refine dv_ ?_|exact fin_|(show ∃ _, _ ∧ _; refine ex_ ?_)|(show ∃ _ _, _ ∧ _; refine ex2_ ?_))
      · intro i hi
        have hSl : (sortV (E.take i)).length = i := by rw [sortV_len, List.length_take]; omega
        by_cases hlt : i < E.length
        · have hs1 := sortV_take hlt
          have hvb := hEb i hlt
          have hSb : ∀ k, k < i → Byts ((sortV (E.take i)).getD k Z) := fun k hk => (hPo.inn _ (List.mem_of_mem_take (((sortV_facts _ (E.take i) rfl ((orth_dist hca hPo).sublist (List.take_sublist _ _))).2.2 _).1 (getD_memE (by omega))))).1.byt (by omega)
          generalize hv : E.getD i Z = v at *
          generalize sortV (E.take i) = S at *
          have hSm : (S.map vecL).length = i := by rw [List.length_map]; exact hSl
          (repeat' (conv => whnf)<;>first|exact True.intro|(refine if_ ?_ ?_<;>intro h<;>first|exact h.elim|(exfalso; omega)|skip)|refine vs_ ?_|refine dv_ ?_|exact fin_|(show ∃ _, _ ∧ _; refine ex_ ?_)|(show ∃ _ _, _ ∧ _; refine ex2_ ?_))
          conv => whnf
          refine vc_loop (α := Nat) 0 (fun j => i - j) (fun j => j ≤ i ∧ ∀ k, k < j → ltV (S.getD k Z) v = true) [] (fun j => [(15, .d (.int .i64 j))]) (fun j => []) lp_ ?_ ?_
          · (repeat' (conv => whnf)<;>first|exact True.intro|(refine if_ ?_ ?_<;>intro h<;>first|exact h.elim|(exfalso; omega)|skip)|refine vs_ ?_|refine dv_ ?_|exact fin_|(show ∃ _, _ ∧ _; refine ex_ ?_)|(show ∃ _ _, _ ∧ _; refine ex2_ ?_))
          · rintro j ⟨hj, hall⟩
            by_cases hlt2 : j < i
            · have hB' := hBf (hSb j hlt2) hvb
              cases g : ltV (S.getD j Z) v with
              | true =>
                rw [g] at hB'
                (repeat' (conv => whnf)<;>first|exact True.intro|(refine if_ ?_ ?_<;>intro h<;>first|exact h.elim|(exfalso; omega)|skip)|refine vs_ ?_|refine dv_ ?_|exact fin_|(show ∃ _, _ ∧ _; refine ex_ ?_ (by first|with_reducible exact rfl|with_reducible exact sub_vm hlt hv|with_reducible exact sub_vm (by omega) rfl|exact hB'|exact rd_))|(show ∃ _ _, _ ∧ _; refine ex2_ ?_ (by first|with_reducible exact rfl|with_reducible exact sub_vm hlt hv|with_reducible exact sub_vm (by omega) rfl|exact hB'|exact rd_)))
                all_goals (conv => whnf)
                all_goals (refine ⟨j + 1, ⟨by omega, all_succ hall g⟩, by omega, ?_⟩)
                all_goals (repeat' (conv => whnf)<;>first|exact True.intro|(refine if_ ?_ ?_<;>intro h<;>first|exact h.elim|(exfalso; omega)|skip)|refine vs_ ?_|refine dv_ ?_|exact fin_|(show ∃ _, _ ∧ _; refine ex_ ?_)|(show ∃ _ _, _ ∧ _; refine ex2_ ?_))
              | false =>
                have hpos := posV_eq (v := v) (S := S) (q := j) (by omega) hall (fun _ => g)
                rw [g] at hB'
                (repeat' (conv => whnf)<;>first|exact True.intro|(refine if_ ?_ ?_<;>intro h<;>first|exact h.elim|(exfalso; omega)|skip)|refine vs_ ?_|refine dv_ ?_|exact fin_|(show ∃ _, _ ∧ _; refine ex_ ?_ (by first|with_reducible exact rfl|with_reducible exact sub_vm hlt hv|with_reducible exact sub_vm (by omega) rfl|exact hB'|exact rd_))|(show ∃ _ _, _ ∧ _; refine ex2_ ?_ (by first|with_reducible exact rfl|with_reducible exact sub_vm hlt hv|with_reducible exact sub_vm (by omega) rfl|exact hB'|exact rd_)))
                all_goals (conv => whnf)
                all_goals (refine ⟨i + 1, by omega, by omega, ?_⟩)
                all_goals rw [hs1]
                all_goals (repeat' (conv => whnf)<;>first|exact True.intro|(refine if_ ?_ ?_<;>intro h<;>first|exact h.elim|(exfalso; omega)|skip)|refine vs_ ?_ (by first|exact ins1 hpos (by omega)|exact sd_)|refine dv_ ?_|exact fin_|(show ∃ _, _ ∧ _; refine ex_ ?_)|(show ∃ _ _, _ ∧ _; refine ex2_ ?_))
            · have hpos := posV_eq (v := v) (S := S) (q := j) (by omega) hall (fun _ => by omega)
              (repeat' (conv => whnf)<;>first|exact True.intro|(refine if_ ?_ ?_<;>intro h<;>first|exact h.elim|(exfalso; omega)|skip)|refine vs_ ?_|refine dv_ ?_|exact fin_|(show ∃ _, _ ∧ _; refine ex_ ?_ (by first|with_reducible exact rfl|with_reducible exact sub_vm hlt hv|exact rd_))|(show ∃ _ _, _ ∧ _; refine ex2_ ?_ (by first|with_reducible exact rfl|with_reducible exact sub_vm hlt hv|exact rd_)))
              all_goals (conv => whnf)
              all_goals (refine ⟨i + 1, by omega, by omega, ?_⟩)
              all_goals rw [hs1]
              · (repeat' (conv => whnf)<;>first|exact True.intro|(refine if_ ?_ ?_<;>intro h<;>first|exact h.elim|(exfalso; omega)|skip)|refine vs_ ?_ (by first|exact ins2 hpos (by omega)|exact sd_)|refine dv_ ?_|exact fin_|(show ∃ _, _ ∧ _; refine ex_ ?_)|(show ∃ _ _, _ ∧ _; refine ex2_ ?_))
              · (repeat' (conv => whnf)<;>first|exact True.intro|(refine if_ ?_ ?_<;>intro h<;>first|exact h.elim|(exfalso; omega)|skip)|refine vs_ ?_ (by first|exact ins3 (by omega)|exact sd_)|refine dv_ ?_|exact fin_|(show ∃ _, _ ∧ _; refine ex_ ?_)|(show ∃ _ _, _ ∧ _; refine ex2_ ?_))
        · have : i = E.length := by omega
          rw [this, List.take_length]
          (repeat' (conv => whnf)<;>first|exact True.intro|(refine if_ ?_ ?_<;>intro h<;>first|exact h.elim|(exfalso; omega)|skip)|refine vs_ ?_|refine dv_ ?_|exact fin_|(show ∃ _, _ ∧ _; refine ex_ ?_)|(show ∃ _ _, _ ∧ _; refine ex2_ ?_))
end Go.X
