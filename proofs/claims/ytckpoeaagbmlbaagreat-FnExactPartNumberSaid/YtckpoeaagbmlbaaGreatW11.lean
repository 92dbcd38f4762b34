import Derived.Test.YtckpoeaagbmlbaaGreatK12
import Derived.Test.YtckpoeaagbmlbaaGreatK1
import Derived.Test.YtckpoeaagbmlbaaGreatK8
set_option linter.all false
namespace Go.X
open Go Go.RowKit
set_option maxRecDepth 100000
set_option maxHeartbeats 8000000
variable {P : Program} {N : FN}
theorem mulK_bd {k x : Int} (hk : -1000 ≤ k ∧ k ≤ 1000) (hx : 0 ≤ x ∧ x ≤ 255) : -255000 ≤ k * x ∧ k * x ≤ 255000 := by
  have h1 : k * x ≤ 1000 * x := Int.mul_le_mul_of_nonneg_right hk.2 hx.1
  have h2 : -1000 * x ≤ k * x := Int.mul_le_mul_of_nonneg_right hk.1 hx.1
  omega
theorem c_sAddK (hm : C_sMod P N) (hf : isFn P N.spec_l01Add (ir_spec_l01Add N) = true) : C_sAddK P N := by
  intro p v w k hv hw hp hk
  refine can_of hf rfl rfl ?_
  (repeat' (conv => whnf)<;>first|exact True.intro|(refine if_ ?_ ?_<;>intro h<;>first|exact h.elim|(exfalso; omega)|skip)|refine vs_ ?_|refine dv_ ?_|exact fin_|(show ∃ _, _ ∧ _; refine ex_ ?_)|(show ∃ _ _, _ ∧ _; refine ex2_ ?_))
  conv => whnf
  refine vc_loop (α := Nat) 0 (fun i => 6 - i) (fun i => i ≤ 6) [] (fun i => [(5, .ptr 6 6 0 0), (6, .ptr 7 6 0 0), (9, .d (.int .i64 i))]) (fun i => [(6, .data 6 [vecL (prog i (addV p k v w) v)]), (7, .data 6 [vecL w])]) lp_ ?_ ?_
  · (repeat' (conv => whnf)<;>first|exact True.intro|(refine if_ ?_ ?_<;>intro h<;>first|exact h.elim|(exfalso; omega)|skip)|refine vs_ ?_|refine dv_ ?_|exact fin_|(show ∃ _, _ ∧ _; refine ex_ ?_)|(show ∃ _ _, _ ∧ _; refine ex2_ ?_))
  · intro i hi
    have h1 := hv i
    have h2 := hw i
    have h3 := mulK_bd hk h2
    have h4 := mod_bd (v i + k * w i) hp.1
    (repeat' (conv => whnf)<;>first|exact True.intro|(refine if_ ?_ ?_<;>intro h<;>first|exact h.elim|(exfalso; omega)|skip)|refine vs_ ?_|refine dv_ ?_|exact fin_|(show ∃ _, _ ∧ _; refine ex_ ?_ (by first|with_reducible exact rfl|exact hm (by omega) (by omega)|exact rd_))|(show ∃ _ _, _ ∧ _; refine ex2_ ?_ (by first|with_reducible exact rfl|exact hm (by omega) (by omega)|exact rd_)))
    · refine ⟨i + 1, by omega, by omega, ?_⟩
      (repeat' (conv => whnf)<;>first|exact True.intro|(refine if_ ?_ ?_<;>intro h<;>first|exact h.elim|(exfalso; omega)|skip)|refine vs_ ?_|refine dv_ ?_|exact fin_|(show ∃ _, _ ∧ _; refine ex_ ?_)|(show ∃ _ _, _ ∧ _; refine ex2_ ?_))
theorem c_prims1 (hF : C_frobPow P N) (hA : C_add P N) (hf : isFn P N.impl_Algebra_primitives_1 (ir_impl_Algebra_primitives_1 N) = true) : C_prims1 P N := by
  intro sz l e off a v hat ha hv
  have hp2 := prime_bd ha.p
  have hF' : Can P N.impl_Algebra_frobeniusPower [.pd sz l e off, vecD v, .int .i64 1] (.val (vecD (frobI a v 1))) := hF (t := 1) hat ha hv (by omega)
  have hb : Byts (frobI a v 1) := (foldV_rw (a := a) (b := frobI a v 0) (by omega) (iUnit_rw ha) a.p.toNat).byt (by omega)
  have hA' := hA (sz := sz) (k := a.p - 1) hat hb hv (by omega) (by omega)
  refine can_of hf rfl rfl ?_
  (repeat' (conv => whnf)<;>first|exact True.intro|(refine if_ ?_ ?_<;>intro h<;>first|exact h.elim|(exfalso; omega)|skip)|refine vs_ ?_ (by first|exact st_all (f := Z)|exact sd_)|refine dv_ ?_|exact fin_|(show ∃ _, _ ∧ _; refine ex_ ?_ (by first|with_reducible exact rfl|with_reducible exact hat.p|exact hF'|exact hA'|exact rd_))|(show ∃ _ _, _ ∧ _; refine ex2_ ?_ (by first|with_reducible exact rfl|with_reducible exact hat.p|exact hF'|exact hA'|exact rd_)))
theorem c_before (hf : isFn P N.spec_l05Before (ir_spec_l05Before N) = true) : C_before P N := by
  intro v w hv hw
  refine can_of hf rfl rfl ?_
  (repeat' (conv => whnf)<;>first|exact True.intro|(refine if_ ?_ ?_<;>intro h<;>first|exact h.elim|(exfalso; omega)|skip)|refine vs_ ?_|refine dv_ ?_|exact fin_|(show ∃ _, _ ∧ _; refine ex_ ?_)|(show ∃ _ _, _ ∧ _; refine ex2_ ?_))
  conv => whnf
  refine vc_loop (α := Nat) 0 (fun i => 6 - i) (fun i => i ≤ 6 ∧ ltN v w 6 0 = ltN v w (6 - i) i) [] (fun i => [(2, .ptr 3 6 0 0), (3, .ptr 4 6 0 0), (5, .d (.int .i64 i))]) (fun i => [(3, .data 6 [vecL v]), (4, .data 6 [vecL w])]) lp_ ?_ ?_
  · (repeat' (conv => whnf)<;>first|exact True.intro|(refine if_ ?_ ?_<;>intro h<;>first|exact h.elim|(exfalso; omega)|skip)|refine vs_ ?_|refine dv_ ?_|exact fin_|(show ∃ _, _ ∧ _; refine ex_ ?_)|(show ∃ _ _, _ ∧ _; refine ex2_ ?_))
  · rintro i ⟨hi, hl⟩
    by_cases hlt : i < 6
    · obtain ⟨q, hq⟩ : ∃ q, 6 - i = q + 1 := ⟨5 - i, by omega⟩
      have hv1 := hv i
      have hw1 := hw i
      have hs : ltN v w (q + 1) i = if v i = w i then ltN v w q (i + 1) else decide (v i < w i) := rfl
      rw [hq, hs] at hl
      by_cases c : v i = w i
      · rw [if_pos c] at hl
        (repeat' (conv => whnf)<;>first|exact True.intro|(refine if_ ?_ ?_<;>intro h<;>first|exact h.elim|(exfalso; omega)|skip)|refine vs_ ?_|refine dv_ ?_|exact fin_|(show ∃ _, _ ∧ _; refine ex_ ?_)|(show ∃ _ _, _ ∧ _; refine ex2_ ?_))
        conv => whnf
        refine ⟨i + 1, ⟨by omega, by rw [hl]; congr 1; omega⟩, by omega, ?_⟩
        (repeat' (conv => whnf)<;>first|exact True.intro|(refine if_ ?_ ?_<;>intro h<;>first|exact h.elim|(exfalso; omega)|skip)|refine vs_ ?_|refine dv_ ?_|exact fin_|(show ∃ _, _ ∧ _; refine ex_ ?_)|(show ∃ _ _, _ ∧ _; refine ex2_ ?_))
      · rw [if_neg c] at hl
        unfold ltV
        rw [hl]
        (repeat' (conv => whnf)<;>first|exact True.intro|(refine if_ ?_ ?_<;>intro h<;>first|exact h.elim|(exfalso; omega)|skip)|refine vs_ ?_|refine dv_ ?_|exact fin_|(show ∃ _, _ ∧ _; refine ex_ ?_)|(show ∃ _ _, _ ∧ _; refine ex2_ ?_))
    · have : i = 6 := by omega
      subst this
      have h0 : ltV v w = false := hl
      rw [h0]
      (repeat' (conv => whnf)<;>first|exact True.intro|(refine if_ ?_ ?_<;>intro h<;>first|exact h.elim|(exfalso; omega)|skip)|refine vs_ ?_|refine dv_ ?_|exact fin_|(show ∃ _, _ ∧ _; refine ex_ ?_)|(show ∃ _ _, _ ∧ _; refine ex2_ ?_))
end Go.X
namespace Go.X
open Go Go.RowKit
set_option maxRecDepth 100000
set_option maxHeartbeats 8000000
set_option linter.unusedVariables false
variable {P : Program} {N : FN}
theorem nest_emp {i : Nat} : Chunk.nest 1 ((arr i (fun _ => ([] : List (List D))) ++ [([] : List (List D))]).set (arr i (fun _ => ([] : List (List D)))).length []) none = .nest 1 (arr (i + 1) fun _ => []) none := by
  rw [List.set_append_right _ _ (Nat.le_refl _), Nat.sub_self, arr_succ]; rfl
def spR (F : (Nat → Int) → Nat → Int) (j i r : Nat) : List (List D) := row (if r < i then j + 1 else j) fun c => F (basV c) r
theorem sp_0 {F : (Nat → Int) → Nat → Int} {n : Nat} : (arr n fun _ => ([] : List (List D))) = arr n (spR F 0 0) := arr_ext fun r _ => by
  unfold spR; rw [if_neg (by omega)]; rfl
theorem sp_get {F : (Nat → Int) → Nat → Int} {n j i : Nat} (h : i < n) : (arr n (spR F j i))[((i : Nat) : Int).toNat]? = some (row j fun c => F (basV c) i) := by
  rw [Int.toNat_natCast, arr_get h]; unfold spR; rw [if_neg (by omega)]
theorem sp_put {F : (Nat → Int) → Nat → Int} {n j i : Nat} : Chunk.nest 1 ((arr n (spR F j i)).set ((i : Nat) : Int).toNat ((row j fun c => F (basV c) i) ++ [[.int .i64 (F (basV j) i)]])) none = .nest 1 (arr n (spR F j (i + 1))) none := by
  rw [Int.toNat_natCast, arr_set]
  congr 1
  refine arr_ext fun r hr => ?_
  unfold upd spR
  by_cases e : r = i
  · subst e
    rw [if_pos rfl, if_pos (Nat.lt_succ_self _)]
    exact (arr_succ ..).symm
  · rw [if_neg e]
    by_cases g : r < i
    · rw [if_pos g, if_pos (by omega)]
    · rw [if_neg g, if_neg (by omega)]
theorem sp_next {F : (Nat → Int) → Nat → Int} {n j : Nat} : arr n (spR F j n) = arr n (spR F (j + 1) 0) := arr_ext fun r hr => by
  unfold spR; rw [if_pos hr, if_neg (by omega)]
theorem sp_end {F : (Nat → Int) → Nat → Int} {n : Nat} : nestD 1 (arr n (spR F n 0)) = rowsL n (mapL n F) := by
  unfold nestD rowsL mapL
  rw [arr_map, arr_map]
  refine arr_ext fun r hr => ?_
  unfold spR; rw [if_neg (by omega)]
theorem c_sSpace (hB : C_sBasis P N) (hW : C_sPower5 P N) (hA : C_sAddK P N) (hK : C_sKernel P N) (hV : C_sVectors P N) (hf : isFn P N.spec_l05Space (ir_spec_l05Space N) = true) : C_sSpace P N := by
  intro a k t ha hk ht
  have hat := algAt_one a
  have hal := hat.all
  have hn := ha.n
  have hp2 := prime_bd ha.p
  have hrw : RwL a.p (mapL a.n.toNat (spF a k t)) := fun r hr => by
    obtain ⟨i, _, rfl⟩ := List.mem_map.1 hr
    exact fun j => mod_bd _ (by omega)
  have hml : (mapL a.n.toNat (spF a k t)).length = a.n.toNat := arr_len ..
  have hK' := hK (n := a.n.toNat) (L := mapL a.n.toNat (spF a k t)) (by omega) (by omega) ha.p hrw
  obtain ⟨ld, rr⟩ := sKer_rr (n := a.n.toNat) (L := mapL a.n.toNat (spF a k t)) ha.p
  have hkl := rr.len_le
  have hV' := hV (m := a.n.toNat) (L := sKerF a.p a.n.toNat (mapL a.n.toNat (spF a k t))) (by omega) (by omega) (fun r hr i => by have := rr.rw r hr i; omega)
  have e : (spaceL a.p a.n.toNat (spF a k t)).map vecL = (sKerF a.p a.n.toNat (mapL a.n.toNat (spF a k t))).map fun r => vecL (vecR a.n.toNat r) := by
    unfold spaceL; rw [List.map_map]; rfl
  rw [e]
  have hnn : ((a.n.toNat : Nat) : Int) = a.n := by omega
  rw [hnn] at hK'
  have er : rowsD a.n.toNat (mapL a.n.toNat (spF a k t)) = .lst 1 (nestD 1 (arr a.n.toNat (spR (spF a k t) a.n.toNat 0))) := congrArg (D.lst 1) sp_end.symm
  rw [er] at hK'
  refine can_of hf rfl rfl ?_
  (repeat' (conv => whnf)<;>first|exact True.intro|(refine if_ ?_ ?_<;>intro h<;>first|exact h.elim|(exfalso; omega)|skip)|refine vs_ ?_|refine dv_ ?_|exact fin_|(show ∃ _, _ ∧ _; refine ex_ ?_)|(show ∃ _ _, _ ∧ _; refine ex2_ ?_))
  conv => whnf
  refine vc_loop (α := Nat) 0 (fun i => a.n.toNat - i) (fun i => i ≤ a.n.toNat) [] (fun i => [(7, .row 8 1), (8, .d (.int .i64 i))]) (fun i => [(8, .nest 1 (arr i fun _ => []) none)]) lp_ ?_ ?_
  · (repeat' (conv => whnf)<;>first|exact True.intro|(refine if_ ?_ ?_<;>intro h<;>first|exact h.elim|(exfalso; omega)|skip)|refine vs_ ?_|refine dv_ ?_|exact fin_|(show ∃ _, _ ∧ _; refine ex_ ?_)|(show ∃ _ _, _ ∧ _; refine ex2_ ?_))
  · intro i hi
    by_cases hlt : i < a.n.toNat
    · (repeat' (conv => whnf)<;>first|exact True.intro|(refine if_ ?_ ?_<;>intro h<;>first|exact h.elim|(exfalso; omega)|skip)|refine vs_ ?_|refine dv_ ?_|exact fin_|(show ∃ _, _ ∧ _; refine ex_ ?_ (by first|with_reducible exact rfl|with_reducible exact hat.n|exact rd_))|(show ∃ _ _, _ ∧ _; refine ex2_ ?_ (by first|with_reducible exact rfl|with_reducible exact hat.n|exact rd_)))
      conv => whnf
      refine ⟨i + 1, by omega, by omega, ?_⟩
      (repeat' (conv => whnf)<;>first|exact True.intro|(refine if_ ?_ ?_<;>intro h<;>first|exact h.elim|(exfalso; omega)|skip)|refine vs_ ?_ (by first|exact nest_emp|exact sd_)|refine dv_ ?_|exact fin_|(show ∃ _, _ ∧ _; refine ex_ ?_)|(show ∃ _ _, _ ∧ _; refine ex2_ ?_))
    · have : i = a.n.toNat := by omega
      rw [this, sp_0 (F := spF a k t)]
      (repeat' (conv => whnf)<;>first|exact True.intro|(refine if_ ?_ ?_<;>intro h<;>first|exact h.elim|(exfalso; omega)|skip)|refine vs_ ?_|refine dv_ ?_|exact fin_|(show ∃ _, _ ∧ _; refine ex_ ?_ (by first|with_reducible exact rfl|with_reducible exact hat.n|exact rd_))|(show ∃ _ _, _ ∧ _; refine ex2_ ?_ (by first|with_reducible exact rfl|with_reducible exact hat.n|exact rd_)))
      conv => whnf
      refine vc_loop (α := Nat) 0 (fun j => a.n.toNat - j) (fun j => j ≤ a.n.toNat) [] (fun j => [(7, .row 8 1), (9, .d (.int .i64 j))]) (fun j => [(8, .nest 1 (arr a.n.toNat (spR (spF a k t) j 0)) none)]) lp_ ?_ ?_
      · (repeat' (conv => whnf)<;>first|exact True.intro|(refine if_ ?_ ?_<;>intro h<;>first|exact h.elim|(exfalso; omega)|skip)|refine vs_ ?_|refine dv_ ?_|exact fin_|(show ∃ _, _ ∧ _; refine ex_ ?_)|(show ∃ _ _, _ ∧ _; refine ex2_ ?_))
      · intro j hj
        by_cases hlt2 : j < a.n.toNat
        · have hB' := hB (i := j) (by omega)
          have hW' := hW (v := basV j) (k := k) ha (basV_byt j) hk
          have hfb : Byts (foldV a (sUnit a) (basV j) k) := (foldV_rw (a := a) (b := basV j) (by omega) (sUnit_rw ha) k).byt (by omega)
          have hA' : Can P N.spec_l01Add [.int .i64 a.p, vecD (foldV a (sUnit a) (basV j) k), vecD (basV j), .int .i64 (0 - t)] (.val (vecD (spF a k t (basV j)))) := by
            rw [Int.zero_sub]
            exact hA hfb (basV_byt j) (by omega) (by omega)
          (repeat' (conv => whnf)<;>first|exact True.intro|(refine if_ ?_ ?_<;>intro h<;>first|exact h.elim|(exfalso; omega)|skip)|refine vs_ ?_|refine dv_ ?_|exact fin_|(show ∃ _, _ ∧ _; refine ex_ ?_ (by first|with_reducible exact rfl|with_reducible exact hat.n|with_reducible exact hat.p|with_reducible exact hal|exact hB'|exact hW'|exact hA'|exact rd_))|(show ∃ _ _, _ ∧ _; refine ex2_ ?_ (by first|with_reducible exact rfl|with_reducible exact hat.n|with_reducible exact hat.p|with_reducible exact hal|exact hB'|exact hW'|exact hA'|exact rd_)))
          conv => whnf
          refine vc_loop (α := Nat) 0 (fun i => a.n.toNat - i) (fun i => i ≤ a.n.toNat) [] (fun i => [(7, .row 8 1), (9, .d (.int .i64 j)), (10, .ptr 11 6 0 0), (11, .d (.int .i64 i))]) (fun i => [(8, .nest 1 (arr a.n.toNat (spR (spF a k t) j i)) none), (11, .data 6 [vecL (spF a k t (basV j))])]) lp_ ?_ ?_
          · (repeat' (conv => whnf)<;>first|exact True.intro|(refine if_ ?_ ?_<;>intro h<;>first|exact h.elim|(exfalso; omega)|skip)|refine vs_ ?_ (by first|exact st_all (f := Z)|exact sd_)|refine dv_ ?_|exact fin_|(show ∃ _, _ ∧ _; refine ex_ ?_)|(show ∃ _ _, _ ∧ _; refine ex2_ ?_))
          · intro i hi
            have hbd : 0 ≤ spF a k t (basV j) i ∧ spF a k t (basV j) i < a.p := mod_bd _ (by omega)
            by_cases hlt3 : i < a.n.toNat
            · (repeat' (conv => whnf)<;>first|exact True.intro|(refine if_ ?_ ?_<;>intro h<;>first|exact h.elim|(exfalso; omega)|skip)|refine vs_ ?_|refine dv_ ?_|exact fin_|(show ∃ _, _ ∧ _; refine ex_ ?_ (by first|with_reducible exact rfl|with_reducible exact hat.n|exact sp_get hlt3|exact rd_))|(show ∃ _ _, _ ∧ _; refine ex2_ ?_ (by first|with_reducible exact rfl|with_reducible exact hat.n|exact sp_get hlt3|exact rd_)))
              conv => whnf
              refine ⟨i + 1, by omega, by omega, ?_⟩
              (repeat' (conv => whnf)<;>first|exact True.intro|(refine if_ ?_ ?_<;>intro h<;>first|exact h.elim|(exfalso; omega)|skip)|refine vs_ ?_ (by first|exact sp_put|exact sd_)|refine dv_ ?_|exact fin_|(show ∃ _, _ ∧ _; refine ex_ ?_)|(show ∃ _ _, _ ∧ _; refine ex2_ ?_))
            · have : i = a.n.toNat := by omega
              rw [this, sp_next]
              (repeat' (conv => whnf)<;>first|exact True.intro|(refine if_ ?_ ?_<;>intro h<;>first|exact h.elim|(exfalso; omega)|skip)|refine vs_ ?_|refine dv_ ?_|exact fin_|(show ∃ _, _ ∧ _; refine ex_ ?_ (by first|with_reducible exact rfl|with_reducible exact hat.n|exact rd_))|(show ∃ _ _, _ ∧ _; refine ex2_ ?_ (by first|with_reducible exact rfl|with_reducible exact hat.n|exact rd_)))
              conv => whnf
              refine ⟨j + 1, by omega, by omega, ?_⟩
              (repeat' (conv => whnf)<;>first|exact True.intro|(refine if_ ?_ ?_<;>intro h<;>first|exact h.elim|(exfalso; omega)|skip)|refine vs_ ?_|refine dv_ ?_|exact fin_|(show ∃ _, _ ∧ _; refine ex_ ?_)|(show ∃ _ _, _ ∧ _; refine ex2_ ?_))
        · have : j = a.n.toNat := by omega
          rw [this]
          (repeat' (conv => whnf)<;>first|exact True.intro|(refine if_ ?_ ?_<;>intro h<;>first|exact h.elim|(exfalso; omega)|skip)|refine vs_ ?_|refine dv_ ?_|exact fin_|(show ∃ _, _ ∧ _; refine ex_ ?_ (by first|with_reducible exact rfl|with_reducible exact hat.n|with_reducible exact hat.p|exact hK'|exact hV'|exact rd_))|(show ∃ _ _, _ ∧ _; refine ex2_ ?_ (by first|with_reducible exact rfl|with_reducible exact hat.n|with_reducible exact hat.p|exact hK'|exact hV'|exact rd_)))
end Go.X
namespace Go.X
open Go Go.RowKit
set_option maxRecDepth 100000
set_option maxHeartbeats 8000000
variable {P : Program} {N : FN}
def shQ (a : Alg) (b e : Nat → Int) (q : Nat) : List Row := ((List.range q).map (share a b e)).filter nzB
theorem shQ_t {a : Alg} {b e : Nat → Int} {q : Nat} (h : ¬ VEq (share a b e q) Z) : shQ a b e (q + 1) = shQ a b e q ++ [share a b e q] := by
  unfold shQ
  rw [List.range_succ, List.map_append, List.filter_append]
  simp [nzB, h]
theorem shQ_f {a : Alg} {b e : Nat → Int} {q : Nat} (h : VEq (share a b e q) Z) : shQ a b e (q + 1) = shQ a b e q := by
  unfold shQ
  rw [List.range_succ, List.map_append, List.filter_append]
  simp [nzB, h]
theorem shQ_len {a : Alg} {b e : Nat → Int} {q : Nat} : (shQ a b e q).length ≤ q := by
  have := List.length_filter_le nzB ((List.range q).map (share a b e))
  unfold shQ
  rw [List.length_map, List.length_range] at this
  exact this
theorem shI_in {a : Alg} (h : CA a) {b e : Nat → Int} (hb : InA a b) (he : InA a e) (c d : Nat) : InA a (shI a b e c d) := by
  rw [shI_eq h hb he]; exact in_sc h (in_mul h _ _)
theorem shI_ne {a : Alg} {b e : Nat → Int} {c d : Nat} (h : d ≠ c) : shI a b e c (d + 1) = addV a.p (invF a.p (((c : Int) - d) % a.p)) Z (timesV a (shI a b e c d) (addV a.p (a.p - d) b (sUnit a))) := by
  rw [shI, if_neg h]
theorem shI_e {a : Alg} {b e : Nat → Int} {c d : Nat} (h : d = c) : shI a b e c (d + 1) = shI a b e c d := by
  rw [shI, if_pos h]
theorem diff_bd {p : Int} {c d : Nat} (hp : 2 ≤ p) (hc : (c : Int) < p) (hd : (d : Int) < p) (h : d ≠ c) : 0 < ((c : Int) - d) % p ∧ ((c : Int) - d) % p < p := by
  have h1 := Int.emod_nonneg ((c : Int) - d) (show p ≠ 0 by omega)
  have h2 := Int.emod_lt_of_pos ((c : Int) - d) (show 0 < p by omega)
  refine ⟨?_, h2⟩
  rcases Int.lt_or_eq_of_le h1 with g | g
  · exact g
  · exfalso
    obtain ⟨k, hk⟩ := Int.dvd_of_emod_eq_zero g.symm
    rcases Int.lt_trichotomy k 0 with e | e | e
    · have : p * k ≤ p * (-1) := Int.mul_le_mul_of_nonneg_left (by omega) (by omega)
      omega
    · rw [e, Int.mul_zero] at hk; omega
    · have : p * 1 ≤ p * k := Int.mul_le_mul_of_nonneg_left (by omega) (by omega)
      omega
theorem st_all2 {k : IntKind} {m z : Nat} {f g h : Nat → Int} : Chunk.data z ((([cel k m f] : List (List D)).set 0 (splice (cel k m f) 0 (cel k m g))).set 0 (splice (splice (cel k m f) 0 (cel k m g)) 0 (cel k m h))) = .data z [cel k m h] := by
  have e1 : splice (cel k m f) 0 (cel k m g) = cel k m g := splice_whole (by rw [show (cel k m f).length = m from arr_len .., show (cel k m g).length = m from arr_len ..])
  have e2 : splice (cel k m g) 0 (cel k m h) = cel k m h := splice_whole (by rw [show (cel k m g).length = m from arr_len .., show (cel k m h).length = m from arr_len ..])
  rw [e1, e2]; rfl
theorem c_shares (hU : C_unit P N) (hA : C_add P N) (hT : C_times P N) (hR : C_rest P N) (hI : C_inverse P N) (hf : isFn P N.impl_Algebra_shares (ir_impl_Algebra_shares N) = true) : C_shares P N := by
  intro sz l e off a b v hat hca hb hv
  have ha := hca.ok
  have hp2 := prime_bd ha.p
  have hn := ha.n
  have hpn : ((a.p.toNat : Nat) : Int) = a.p := by omega
  have hU' : Can P N.impl_Algebra_unit [.pd sz l e off] (.val (vecD (sUnit a))) := by
    rw [← (unit_same ha).2]; exact hU hat ha
  have hbb : Byts b := hb.1.byt (by omega)
  have hub : Byts (sUnit a) := (in_one hca).1.byt (by omega)
  have hsI : ∀ c d, Byts (shI a b v c d) := fun c d => (shI_in hca hb hv c d).1.byt (by omega)
  have hZb : Byts Z := fun _ => by show (0 : Int) ≤ 0 ∧ (0 : Int) ≤ 255; omega
  refine can_of hf rfl rfl ?_
  (repeat' (conv => whnf)<;>first|exact True.intro|(refine if_ ?_ ?_<;>intro h<;>first|exact h.elim|(exfalso; omega)|skip)|refine vs_ ?_|refine dv_ ?_|exact fin_|(show ∃ _, _ ∧ _; refine ex_ ?_ (by first|with_reducible exact rfl|with_reducible exact hat.p|exact rd_))|(show ∃ _ _, _ ∧ _; refine ex2_ ?_ (by first|with_reducible exact rfl|with_reducible exact hat.p|exact rd_)))
  conv => whnf
  refine vc_loop (α := Nat) 0 (fun c => a.p.toNat - c) (fun c => c ≤ a.p.toNat) [] (fun c => [(0, .d (.pd sz l e off)), (4, .ptr 5 6 0 0), (5, .ptr 6 6 0 0), (7, .row 8 6), (15, .d (.int .i64 a.p)), (16, .d (.int .i64 c))]) (fun c => [(5, .data 6 [vecL v]), (6, .data 6 [vecL b]), (8, .data 6 ((shQ a b v c).map vecL))]) lp_ ?_ ?_
  · (repeat' (conv => whnf)<;>first|exact True.intro|(refine if_ ?_ ?_<;>intro h<;>first|exact h.elim|(exfalso; omega)|skip)|refine vs_ ?_|refine dv_ ?_|exact fin_|(show ∃ _, _ ∧ _; refine ex_ ?_)|(show ∃ _ _, _ ∧ _; refine ex2_ ?_))
  · intro c hc
    by_cases hlt : c < a.p.toNat
    · (repeat' (conv => whnf)<;>first|exact True.intro|(refine if_ ?_ ?_<;>intro h<;>first|exact h.elim|(exfalso; omega)|skip)|refine vs_ ?_|refine dv_ ?_|exact fin_|(show ∃ _, _ ∧ _; refine ex_ ?_ (by first|with_reducible exact rfl|with_reducible exact hat.p|exact rd_))|(show ∃ _ _, _ ∧ _; refine ex2_ ?_ (by first|with_reducible exact rfl|with_reducible exact hat.p|exact rd_)))
      conv => whnf
      refine vc_loop (α := Nat) 0 (fun d => a.p.toNat - d) (fun d => d ≤ a.p.toNat) [] (fun d => [(0, .d (.pd sz l e off)), (4, .ptr 5 6 0 0), (5, .ptr 6 6 0 0), (7, .row 8 6), (8, .d (.int .i64 c)), (9, .ptr 10 6 0 0), (15, .d (.int .i64 a.p)), (16, .d (.int .i64 c)), (23, .d (.int .i64 a.p)), (24, .d (.int .i64 d))]) (fun d => [(5, .data 6 [vecL v]), (6, .data 6 [vecL b]), (8, .data 6 ((shQ a b v c).map vecL)), (10, .data 6 [vecL (shI a b v c d)])]) lp_ ?_ ?_
      · (repeat' (conv => whnf)<;>first|exact True.intro|(refine if_ ?_ ?_<;>intro h<;>first|exact h.elim|(exfalso; omega)|skip)|refine vs_ ?_ (by first|exact st_all (f := Z)|exact sd_)|refine dv_ ?_|exact fin_|(show ∃ _, _ ∧ _; refine ex_ ?_)|(show ∃ _ _, _ ∧ _; refine ex2_ ?_))
      · intro d hd
        by_cases hlt2 : d < a.p.toNat
        · by_cases g : d = c
          · (repeat' (conv => whnf)<;>first|exact True.intro|(refine if_ ?_ ?_<;>intro h<;>first|exact h.elim|(exfalso; omega)|skip)|refine vs_ ?_|refine dv_ ?_|exact fin_|(show ∃ _, _ ∧ _; refine ex_ ?_)|(show ∃ _ _, _ ∧ _; refine ex2_ ?_))
            conv => whnf
            refine ⟨d + 1, by omega, by omega, ?_⟩
            rw [shI_e g]
            (repeat' (conv => whnf)<;>first|exact True.intro|(refine if_ ?_ ?_<;>intro h<;>first|exact h.elim|(exfalso; omega)|skip)|refine vs_ ?_|refine dv_ ?_|exact fin_|(show ∃ _, _ ∧ _; refine ex_ ?_)|(show ∃ _ _, _ ∧ _; refine ex2_ ?_))
          · have hdb := diff_bd (c := c) (d := d) (p := a.p) (by omega) (by omega) (by omega) g
            have hA1 := hA (sz := sz) (k := a.p - d) hat hbb hub (by omega) (by omega)
            have hab : Byts (addV a.p (a.p - d) b (sUnit a)) := fun i => by
              have := mod_bd (b i + (a.p - d) * sUnit a i) (show 1 ≤ a.p by omega)
              show 0 ≤ (b i + (a.p - d) * sUnit a i) % a.p ∧ (b i + (a.p - d) * sUnit a i) % a.p ≤ 255
              omega
            have hT1 := hT (sz := sz) hat ha.b (hsI c d) hab (by omega) (by omega)
            have hR1 := hR (x := (c : Int) - d) (p := a.p) (by omega) (by omega)
            have hI1 := hI ha.p hdb
            have hib := inv_mul ha.p hdb
            have htb : Byts (timesV a (shI a b v c d) (addV a.p (a.p - d) b (sUnit a))) := (times_rw (a := a) (by omega) _ _).byt (by omega)
            have hA2 := hA (sz := sz) (k := invF a.p (((c : Int) - d) % a.p)) hat hZb htb (by omega) (by omega)
            (repeat' (conv => whnf)<;>first|exact True.intro|(refine if_ ?_ ?_<;>intro h<;>first|exact h.elim|(exfalso; omega)|skip)|refine vs_ ?_|refine dv_ ?_|exact fin_|(show ∃ _, _ ∧ _; refine ex_ ?_ (by first|with_reducible exact rfl|exact hU'|exact hA1|exact hT1|exact hR1|exact hI1|exact hA2|with_reducible exact hat.p|with_reducible exact rd_stall rfl|exact rd_))|(show ∃ _ _, _ ∧ _; refine ex2_ ?_ (by first|with_reducible exact rfl|exact hU'|exact hA1|exact hT1|exact hR1|exact hI1|exact hA2|with_reducible exact hat.p|with_reducible exact rd_stall rfl|exact rd_)))
            conv => whnf
            refine ⟨d + 1, by omega, by omega, ?_⟩
            rw [shI_ne g]
            (repeat' (conv => whnf)<;>first|exact True.intro|(refine if_ ?_ ?_<;>intro h<;>first|exact h.elim|(exfalso; omega)|skip)|refine vs_ ?_ (by first|exact st_all2|exact sd_)|refine dv_ ?_|exact fin_|(show ∃ _, _ ∧ _; refine ex_ ?_)|(show ∃ _ _, _ ∧ _; refine ex2_ ?_))
        · have : d = a.p.toNat := by omega
          subst this
          have hlq := shQ_len (a := a) (b := b) (e := v) (q := c)
          have hml : ((shQ a b v c).map vecL).length = (shQ a b v c).length := List.length_map ..
          by_cases g : VEq (share a b v c) Z
          · (repeat' (conv => whnf)<;>first|exact True.intro|(refine if_ ?_ ?_<;>intro h<;>first|exact h.elim|(exfalso; omega)|skip)|refine vs_ ?_ (by first|exact ⟨conf_vec _, conf_vec Z⟩|exact sd_)|refine dv_ ?_|exact fin_|(show ∃ _, _ ∧ _; refine ex_ ?_ (by first|with_reducible exact rfl|exact eq_t g|exact rd_))|(show ∃ _ _, _ ∧ _; refine ex2_ ?_ (by first|with_reducible exact rfl|exact eq_t g|exact rd_)))
            conv => whnf
            refine ⟨c + 1, by omega, by omega, ?_⟩
            rw [shQ_f g]
            (repeat' (conv => whnf)<;>first|exact True.intro|(refine if_ ?_ ?_<;>intro h<;>first|exact h.elim|(exfalso; omega)|skip)|refine vs_ ?_|refine dv_ ?_|exact fin_|(show ∃ _, _ ∧ _; refine ex_ ?_)|(show ∃ _ _, _ ∧ _; refine ex2_ ?_))
          · (repeat' (conv => whnf)<;>first|exact True.intro|(refine if_ ?_ ?_<;>intro h<;>first|exact h.elim|(exfalso; omega)|skip)|refine vs_ ?_ (by first|exact ⟨conf_vec _, conf_vec Z⟩ | exact ⟨by (simp only [List.length_cons, List.length_nil, hml, maxRow]; omega), by decide, by decide⟩|exact sd_)|refine dv_ ?_|exact fin_|(show ∃ _, _ ∧ _; refine ex_ ?_ (by first|with_reducible exact rfl|exact eq_f g|exact rd_))|(show ∃ _ _, _ ∧ _; refine ex2_ ?_ (by first|with_reducible exact rfl|exact eq_f g|exact rd_)))
            conv => whnf
            refine ⟨c + 1, by omega, by omega, ?_⟩
            rw [shQ_t g, ← vcs_app]
            (repeat' (conv => whnf)<;>first|exact True.intro|(refine if_ ?_ ?_<;>intro h<;>first|exact h.elim|(exfalso; omega)|skip)|refine vs_ ?_|refine dv_ ?_|exact fin_|(show ∃ _, _ ∧ _; refine ex_ ?_)|(show ∃ _ _, _ ∧ _; refine ex2_ ?_))
    · have : c = a.p.toNat := by omega
      subst this
      (repeat' (conv => whnf)<;>first|exact True.intro|(refine if_ ?_ ?_<;>intro h<;>first|exact h.elim|(exfalso; omega)|skip)|refine vs_ ?_|refine dv_ ?_|exact fin_|(show ∃ _, _ ∧ _; refine ex_ ?_)|(show ∃ _ _, _ ∧ _; refine ex2_ ?_))
end Go.X
