import Derived.Test.YtckpoeaagbmlbaaGreatW11
import Derived.Test.YtckpoeaagbmlbaaGreatW14
import Derived.Test.YtckpoeaagbmlbaaGreatK13
import Derived.Test.YtckpoeaagbmlbaaGreatK1
import Derived.Test.YtckpoeaagbmlbaaGreatK8
set_option linter.all false
namespace Go.X
open Go Go.RowKit
set_option maxRecDepth 100000
set_option maxHeartbeats 8000000
set_option linter.unusedVariables false
variable {P : Program} {N : FN}
def stg (a : Alg) (k : Nat) : List Row := primL a ((fixL a).take k)
theorem stg_s {a : Alg} {k : Nat} (h : k < (fixL a).length) : stg a (k + 1) = stageL a ((fixL a).getD k Z) (stg a k) := by
  unfold stg primL
  rw [take_getD h, List.foldl_append]; rfl
theorem stg_orth {a : Alg} (h : CA a) (k : Nat) : Orth a (stg a k) := prim_orth h fun b hb => fix_mem h b (List.mem_of_mem_take hb)
theorem stg_n {a : Alg} : stg a (fixL a).length = primI a := by unfold stg primI; rw [List.take_length]
def nxt (a : Alg) (b : Row) (E : List Row) (q : Nat) : List Row := (E.take q).flatMap (sharesL a b)
theorem nxt_s {a : Alg} {b : Row} {E : List Row} {q : Nat} (h : q < E.length) : nxt a b E (q + 1) = nxt a b E q ++ sharesL a b (E.getD q Z) := by
  unfold nxt
  rw [take_getD h, List.flatMap_append]; simp
theorem nxt_n {a : Alg} {b : Row} {E : List Row} : nxt a b E E.length = stageL a b E := by unfold nxt stageL; rw [List.take_length]
theorem shares_len {a : Alg} {b e : Row} : (sharesL a b e).length ≤ a.p.toNat := by
  have := List.length_filter_le nzB ((List.range a.p.toNat).map (share a b e))
  unfold sharesL
  rw [List.length_map, List.length_range] at this
  exact this
theorem nxt_len {a : Alg} {b : Row} {E : List Row} : ∀ q, (nxt a b E q).length ≤ q * a.p.toNat
  | 0 => by simp [nxt]
  | q + 1 => by
    by_cases h : q < E.length
    · rw [nxt_s h, List.length_append, Nat.add_mul, Nat.one_mul]
      exact Nat.add_le_add (nxt_len q) shares_len
    · have e : nxt a b E (q + 1) = nxt a b E q := by unfold nxt; rw [List.take_of_length_le (by omega), List.take_of_length_le (by omega)]
      rw [e, Nat.add_mul]
      have := nxt_len (a := a) (b := b) (E := E) q
      omega
theorem vcs_apps {L M : List Row} : L.map vecL ++ M.map vecL = (L ++ M).map vecL := by rw [List.map_append]
theorem eqs_map {a : Alg} {n : Nat} {M : Nat → Nat → Nat → Int} {F : (Nat → Int) → Nat → Int} (h : ∀ i r, i < n → r < n → M 0 i r = F (basV i) r) : D.lst 1 (nestD 1 (arr (1 * n) fun r => row n (eqR M n r))) = rowsD n (mapL n F) := by
  refine congrArg (D.lst 1) ?_
  unfold nestD rowsL mapL
  rw [arr_map, arr_map, Nat.one_mul]
  refine arr_ext fun r hr => ?_
  refine congrArg (fun x => [D.lst 1 x]) (row_ext fun c hc => ?_)
  unfold eqR
  rw [Nat.div_eq_of_lt hr, Nat.mod_eq_of_lt hr]
  exact h c r hc hr
theorem c_prims (hU : C_unit P N) (hN : C_n P N) (hE : C_equationsC P N) (h1 : C_prims1 P N) (hK : C_kernel P N) (hV : C_vectors P N) (hH : C_shares P N) (hS : C_SortVec P N) (h2 : C_prims2 P N) (hf : isFn P N.impl_Algebra_primitives (ir_impl_Algebra_primitives N) = true) : C_prims P N := by
  intro sz l e off a hat hca
  have ha := hca.ok
  have hn := ha.n
  have hp2 := prime_bd ha.p
  have hnn : ((a.n.toNat : Nat) : Int) = a.n := by omega
  have hU' : Can P N.impl_Algebra_unit [.pd sz l e off] (.val (vecD (sUnit a))) := by
    rw [← (unit_same ha).2]; exact hU hat ha
  have hN' : Can P N.impl_Algebra_n [.pd sz l e off] (.val (.int .i64 a.n)) := hN hat
  have hF : ∀ i, i < a.n.toNat → addV a.p (a.p - 1) (frobI a (basV i) 1) (basV i) = fixF a (basV i) := fun i hi => by
    have e1 : frobI a (basV i) 1 = pw a (basV i) a.p.toNat := by
      show foldV a (iUnit a) (basV i) a.p.toNat = _
      rw [(unit_same ha).2]
    rw [e1]
    unfold fixF
    rw [addV_eq _ _ _ _ (in_pw hca _ _).1, addV_eq _ _ _ _ (in_pw hca _ _).1, vsc_cg (c := a.p - 1) (d := -1) (by rw [show a.p - 1 = -1 + a.p by omega, Int.add_emod_right])]
  have hE' := hE (sz := sz) (m := 1) (g := fun _ => N.impl_Algebra_primitives_1) (cs := fun _ => .pd 1 [[.pd sz l e off]] 0 0) (M := fun _ i k => addV a.p (a.p - 1) (frobI a (basV i) 1) (basV i) k) hat ha (by omega)
    (fun _ i k => by
      have := mod_bd (frobI a (basV i) 1 k + (a.p - 1) * basV i k) (show 1 ≤ a.p by omega)
      show 0 ≤ (frobI a (basV i) 1 k + (a.p - 1) * basV i k) % a.p ∧ (frobI a (basV i) 1 k + (a.p - 1) * basV i k) % a.p ≤ 255
      omega) (fun q i _ _ => h1 hat ha (basV_byt i))
  have hK' := hK (n := a.n.toNat) (L := mapL a.n.toNat (fixF a)) (by omega) (by rw [show (mapL a.n.toNat (fixF a)).length = a.n.toNat from arr_len ..]; omega) ha.p (fix_rw hca)
  rw [hnn, ← eqs_map (a := a) (M := fun _ i k => addV a.p (a.p - 1) (frobI a (basV i) 1) (basV i) k) (fun i r hi _ => congrFun (hF i hi) r)] at hK'
  obtain ⟨ld, rr⟩ := sKer_rr (n := a.n.toNat) (L := mapL a.n.toNat (fixF a)) ha.p
  have hsame := ker_same (n := a.n.toNat) ha.p (fix_rw hca)
  obtain ⟨ld2, rr2⟩ : ∃ ld, RR a.p a.n.toNat (iKerF a.p a.n.toNat (mapL a.n.toNat (fixF a))) ld := redF_rr ha.p (free_rw hp2.1 _)
  have hkl := rr2.len_le
  have hV' := hV (m := a.n.toNat) (L := iKerF a.p a.n.toNat (mapL a.n.toNat (fixF a))) (by omega) (by omega) (fun r hr i => by have := rr2.rw r hr i; omega)
  have eV : ((iKerF a.p a.n.toNat (mapL a.n.toNat (fixF a))).map fun r => vecL (vecR a.n.toNat r)) = (fixL a).map vecL := by
    have := congrArg (List.map vecL) (space_imp (n := a.n.toNat) ha.p (fix_rw hca))
    rw [List.map_map] at this
    exact this
  rw [eV] at hV'
  have hfl := fix_len hca
  have hfm : ((fixL a).map vecL).length = (fixL a).length := List.length_map ..
  have hPo := primI_orth hca
  have hPl := orth_len hca hPo
  have hS' := hS (L := primI a) (g := N.impl_Algebra_primitives_2) (by omega) (orth_dist hca hPo) (fun v hv => (hPo.inn v hv).1.byt (by omega)) h2
  have hflat : ∀ r ∈ arr (1 * a.n.toNat) (fun r => row a.n.toNat (eqR (fun _ i k => addV a.p (a.p - 1) (frobI a (basV i) 1) (basV i) k) a.n.toNat r)), ∀ e ∈ r, ∀ x ∈ e, Flat x := fun r hr => by
    obtain ⟨i, _, rfl⟩ := List.mem_map.1 hr
    exact flat_row
  refine can_of hf rfl rfl ?_
  (repeat' (conv => whnf) <;> first | exact True.intro | (refine if_ ?_ ?_ <;> intro h <;> first | exact h.elim | (exfalso; omega) | skip) | refine vs_ ?_ (by first | exact .inr hflat | exact sd_) | refine dv_ ?_ | exact fin_ | (show ∃ _, _ ∧ _; refine ex_ ?_ (by first | with_reducible exact rfl | exact hU' | exact hE' | exact hK' | exact hV' | exact hN' | with_reducible exact hat.p | exact rd_)) | (show ∃ _ _, _ ∧ _; refine ex2_ ?_ (by first | with_reducible exact rfl | exact hU' | exact hE' | exact hK' | exact hV' | exact hN' | with_reducible exact hat.p | exact rd_)) | fail)
  conv => whnf
  refine vc_loop (α := Nat) 0 (fun k => (fixL a).length - k) (fun k => k ≤ (fixL a).length) [] (fun k => [(3, .row 4 6), (27, .d (.int .i64 k))]) (fun k => [(4, .data 6 ((stg a k).map vecL))]) lp_ ?_ ?_
  · (repeat' (conv => whnf) <;> first | exact True.intro | (refine if_ ?_ ?_ <;> intro h <;> first | exact h.elim | (exfalso; omega) | skip) | refine vs_ ?_ | refine dv_ ?_ | exact fin_ | (show ∃ _, _ ∧ _; refine ex_ ?_) | (show ∃ _ _, _ ∧ _; refine ex2_ ?_) | fail)
  · intro k hk
    have ho := stg_orth hca k
    have hol := orth_len hca ho
    have hml : ((stg a k).map vecL).length = (stg a k).length := List.length_map ..
    by_cases hlt : k < (fixL a).length
    · obtain ⟨hbi, hbf⟩ := fix_mem hca _ (getD_memE hlt)
      have hs1 := stg_s hlt
      generalize hb : (fixL a).getD k Z = b at *
      (repeat' (conv => whnf) <;> first | exact True.intro | (refine if_ ?_ ?_ <;> intro h <;> first | exact h.elim | (exfalso; omega) | skip) | refine vs_ ?_ | refine dv_ ?_ | exact fin_ | (show ∃ _, _ ∧ _; refine ex_ ?_ (by first | with_reducible exact rfl | with_reducible exact sub_vm hlt hb | exact rd_)) | (show ∃ _ _, _ ∧ _; refine ex2_ ?_ (by first | with_reducible exact rfl | with_reducible exact sub_vm hlt hb | exact rd_)) | fail)
      conv => whnf
      refine vc_loop (α := Nat) 0 (fun q => (stg a k).length - q) (fun q => q ≤ (stg a k).length) [] (fun q => [(6, .ptr 7 6 0 0), (7, .row 8 6), (34, .d (.int .i64 q))]) (fun q => [(7, .data 6 [vecL b]), (8, .data 6 ((nxt a b (stg a k) q).map vecL))]) lp_ ?_ ?_
      · (repeat' (conv => whnf) <;> first | exact True.intro | (refine if_ ?_ ?_ <;> intro h <;> first | exact h.elim | (exfalso; omega) | skip) | refine vs_ ?_ (by first | exact st_all (f := Z) | exact sd_) | refine dv_ ?_ | exact fin_ | (show ∃ _, _ ∧ _; refine ex_ ?_) | (show ∃ _ _, _ ∧ _; refine ex2_ ?_) | fail)
      · intro q hq
        by_cases hlt2 : q < (stg a k).length
        · have hei := ho.inn _ (getD_memE hlt2)
          have hn1 := nxt_s (a := a) (b := b) hlt2
          generalize he : (stg a k).getD q Z = e at *
          have hH' := hH (sz := sz) hat hca hbi hei
          have hnl := nxt_len (a := a) (b := b) (E := stg a k) q
          have hsl := shares_len (a := a) (b := b) (e := e)
          have hqp : q * a.p.toNat ≤ 6 * 13 := Nat.mul_le_mul (by omega) (by omega)
          have hnm : ((nxt a b (stg a k) q).map vecL).length = (nxt a b (stg a k) q).length := List.length_map ..
          have hsm : ((sharesL a b e).map vecL).length = (sharesL a b e).length := List.length_map ..
          (repeat' (conv => whnf) <;> first | exact True.intro | (refine if_ ?_ ?_ <;> intro h <;> first | exact h.elim | (exfalso; omega) | skip) | refine vs_ ?_ (by first | exact ⟨by (simp only [hnm, hsm, maxRow]; omega), by decide, by decide⟩ | exact sd_) | refine dv_ ?_ | exact fin_ | (show ∃ _, _ ∧ _; refine ex_ ?_ (by first | with_reducible exact rfl | with_reducible exact sub_vm hlt2 he | exact hH' | with_reducible exact rd_st6 | exact rd_)) | (show ∃ _ _, _ ∧ _; refine ex2_ ?_ (by first | with_reducible exact rfl | with_reducible exact sub_vm hlt2 he | exact hH' | with_reducible exact rd_st6 | exact rd_)) | fail)
          conv => whnf
          refine ⟨q + 1, by omega, by omega, ?_⟩
          rw [hn1, ← vcs_apps]
          (repeat' (conv => whnf) <;> first | exact True.intro | (refine if_ ?_ ?_ <;> intro h <;> first | exact h.elim | (exfalso; omega) | skip) | refine vs_ ?_ | refine dv_ ?_ | exact fin_ | (show ∃ _, _ ∧ _; refine ex_ ?_) | (show ∃ _ _, _ ∧ _; refine ex2_ ?_) | fail)
        · have : q = (stg a k).length := by omega
          rw [this, nxt_n, ← hs1]
          (repeat' (conv => whnf) <;> first | exact True.intro | (refine if_ ?_ ?_ <;> intro h <;> first | exact h.elim | (exfalso; omega) | skip) | refine vs_ ?_ | refine dv_ ?_ | exact fin_ | (show ∃ _, _ ∧ _; refine ex_ ?_) | (show ∃ _ _, _ ∧ _; refine ex2_ ?_) | fail)
          conv => whnf
          refine ⟨k + 1, by omega, by omega, ?_⟩
          (repeat' (conv => whnf) <;> first | exact True.intro | (refine if_ ?_ ?_ <;> intro h <;> first | exact h.elim | (exfalso; omega) | skip) | refine vs_ ?_ | refine dv_ ?_ | exact fin_ | (show ∃ _, _ ∧ _; refine ex_ ?_) | (show ∃ _ _, _ ∧ _; refine ex2_ ?_) | fail)
    · have : k = (fixL a).length := by omega
      rw [this, stg_n]
      (repeat' (conv => whnf) <;> first | exact True.intro | (refine if_ ?_ ?_ <;> intro h <;> first | exact h.elim | (exfalso; omega) | skip) | refine vs_ ?_ | refine dv_ ?_ | exact fin_ | (show ∃ _, _ ∧ _; refine ex_ ?_ (by first | with_reducible exact rfl | exact hS' | exact rd_)) | (show ∃ _ _, _ ∧ _; refine ex2_ ?_ (by first | with_reducible exact rfl | exact hS' | exact rd_)) | fail)
end Go.X
namespace Go.X
open Go Go.RowKit
set_option maxRecDepth 100000
set_option maxHeartbeats 8000000
set_option linter.unusedVariables false
variable {P : Program} {N : FN}
theorem shl_eq {n m : Nat} (h : m = n) (hn : n ≤ 6) : (if (true && true) = true then (2 : Int) ^ n else 0) = IntKind.i64.wrap (1 * 2 ^ (min ((m : Nat) : Int).toNat IntKind.i64.bits)) := by
  subst h
  match m, hn with
  | 0, _ => rfl
  | 1, _ => rfl
  | 2, _ => rfl
  | 3, _ => rfl
  | 4, _ => rfl
  | 5, _ => rfl
  | 6, _ => rfl
theorem pow2_bd {n : Nat} (hn : n ≤ 6) : 1 ≤ (2 : Int) ^ n ∧ (2 : Int) ^ n ≤ 64 := by
  match n, hn with
  | 0, _ => decide
  | 1, _ => decide
  | 2, _ => decide
  | 3, _ => decide
  | 4, _ => decide
  | 5, _ => decide
  | 6, _ => decide
theorem prims_le {a : Alg} (h : CA a) : (primI a).length ≤ 6 := by
  have := orth_len h (primI_orth h)
  have := h.ok.n
  omega
theorem c_CountId (hC : C_commutes P N) (hP : C_prims P N) (hf : isFn P N.impl_CountIdempotents (ir_impl_CountIdempotents N) = true) : C_CountId P N := by
  intro a hi
  have hat := algAt_one a
  have hal := hat.all
  have hC' := commutesE hC hi
  refine can_of hf rfl rfl ?_
  unfold cntR
  by_cases g : IsAlgP a
  · have ha := hi.alg g
    by_cases c : CommP a
    · have hca := ca_of hi.s ((alg_iff hi).1 g) ((comm_iff ha).1 c)
      have hP' := hP (sz := (algL a).length) hat hca
      rw [dB_t g, dB_t c] at hC' ⊢
      rw [shl_eq prims_len (prims_le hca)]
      change Can P _ _ (.val (.int .i64 0)) at hC'
      (repeat' (conv => whnf) <;> first | exact True.intro | (refine if_ ?_ ?_ <;> intro h <;> first | exact h.elim | (exfalso; omega) | skip) | refine vs_ ?_ (by first | exact .inr flat_mv | exact sd_) | refine dv_ ?_ | exact fin_ | (show ∃ _, _ ∧ _; refine ex_ ?_ (by first | with_reducible exact rfl | with_reducible exact hal | exact hC' | exact hP' | exact rd_)) | (show ∃ _ _, _ ∧ _; refine ex2_ ?_ (by first | with_reducible exact rfl | with_reducible exact hal | exact hC' | exact hP' | exact rd_)) | fail)
      conv => whnf
      refine .mk ⟨Int.natCast_nonneg _, ?_⟩
      (repeat' (conv => whnf) <;> first | exact True.intro | (refine if_ ?_ ?_ <;> intro h <;> first | exact h.elim | (exfalso; omega) | skip) | refine vs_ ?_ | refine dv_ ?_ | exact fin_ | (show ∃ _, _ ∧ _; refine ex_ ?_) | (show ∃ _ _, _ ∧ _; refine ex2_ ?_) | fail)
    · rw [dB_t g, dB_f c] at hC' ⊢
      change Can P _ _ (.val (.int .i64 5)) at hC'
      (repeat' (conv => whnf) <;> first | exact True.intro | (refine if_ ?_ ?_ <;> intro h <;> first | exact h.elim | (exfalso; omega) | skip) | refine vs_ ?_ | refine dv_ ?_ | exact fin_ | (show ∃ _, _ ∧ _; refine ex_ ?_ (by first | with_reducible exact rfl | with_reducible exact hal | exact hC' | exact rd_)) | (show ∃ _ _, _ ∧ _; refine ex2_ ?_ (by first | with_reducible exact rfl | with_reducible exact hal | exact hC' | exact rd_)) | fail)
  · rw [dB_f g] at hC' ⊢
    change Can P _ _ (.val (.int .i64 1)) at hC'
    (repeat' (conv => whnf) <;> first | exact True.intro | (refine if_ ?_ ?_ <;> intro h <;> first | exact h.elim | (exfalso; omega) | skip) | refine vs_ ?_ | refine dv_ ?_ | exact fin_ | (show ∃ _, _ ∧ _; refine ex_ ?_ (by first | with_reducible exact rfl | with_reducible exact hal | exact hC' | exact rd_)) | (show ∃ _ _, _ ∧ _; refine ex2_ ?_ (by first | with_reducible exact rfl | with_reducible exact hal | exact hC' | exact rd_)) | fail)
theorem c_sCountId (hC : C_sCode5 P N) (hP : C_sPrims P N) (hf : isFn P N.spec_CountIdempotents (ir_spec_CountIdempotents N) = true) : C_sCountId P N := by
  intro a hi
  have hat := algAt_one a
  have hal := hat.all
  have hC' := sCode5E hC hi
  refine can_of hf rfl rfl ?_
  unfold cntR
  by_cases g : sAlgP a
  · by_cases c : sCommP a
    · have hca := ca_of hi g c
      have hP' := hP hca
      rw [dB_t g, dB_t c] at hC' ⊢
      change Can P _ _ (.val (.int .i64 0)) at hC'
      have hle := prims_le hca
      have hl := prims_len (a := a)
      (repeat' (conv => whnf) <;> first | exact True.intro | (refine if_ ?_ ?_ <;> intro h <;> first | exact h.elim | (exfalso; omega) | skip) | refine vs_ ?_ | refine dv_ ?_ | exact fin_ | (show ∃ _, _ ∧ _; refine ex_ ?_ (by first | with_reducible exact rfl | with_reducible exact hal | exact hC' | exact hP' | exact rd_)) | (show ∃ _ _, _ ∧ _; refine ex2_ ?_ (by first | with_reducible exact rfl | with_reducible exact hal | exact hC' | exact hP' | exact rd_)) | fail)
      conv => whnf
      refine vc_loop (α := Nat) 0 (fun i => (primI a).length - i) (fun i => i ≤ (primI a).length) [] (fun i => [(5, .d (.int .i64 (2 ^ i))), (6, .d (.int .i64 (((primI a).length - i : Nat) : Int)))]) (fun i => []) lp_ ?_ ?_
      · rw [Int.pow_zero]
        (repeat' (conv => whnf) <;> first | exact True.intro | (refine if_ ?_ ?_ <;> intro h <;> first | exact h.elim | (exfalso; omega) | skip) | refine vs_ ?_ | refine dv_ ?_ | exact fin_ | (show ∃ _, _ ∧ _; refine ex_ ?_) | (show ∃ _ _, _ ∧ _; refine ex2_ ?_) | fail)
      · intro i hi2
        have h1 := pow2_bd (n := i) (by omega)
        by_cases hlt : i < (primI a).length
        · (repeat' (conv => whnf) <;> first | exact True.intro | (refine if_ ?_ ?_ <;> intro h <;> first | exact h.elim | (exfalso; omega) | skip) | refine vs_ ?_ | refine dv_ ?_ | exact fin_ | (show ∃ _, _ ∧ _; refine ex_ ?_) | (show ∃ _ _, _ ∧ _; refine ex2_ ?_) | fail)
          conv => whnf
          refine ⟨i + 1, by omega, by omega, ?_⟩
          rw [show (2 : Int) ^ (i + 1) = 2 ^ i * 2 from Int.pow_succ ..]
          (repeat' (conv => whnf) <;> first | exact True.intro | (refine if_ ?_ ?_ <;> intro h <;> first | exact h.elim | (exfalso; omega) | skip) | refine vs_ ?_ | refine dv_ ?_ | exact fin_ | (show ∃ _, _ ∧ _; refine ex_ ?_) | (show ∃ _ _, _ ∧ _; refine ex2_ ?_) | fail)
        · have : i = (primI a).length := by omega
          subst this
          (repeat' (conv => whnf) <;> first | exact True.intro | (refine if_ ?_ ?_ <;> intro h <;> first | exact h.elim | (exfalso; omega) | skip) | refine vs_ ?_ | refine dv_ ?_ | exact fin_ | (show ∃ _, _ ∧ _; refine ex_ ?_) | (show ∃ _ _, _ ∧ _; refine ex2_ ?_) | fail)
    · rw [dB_t g, dB_f c] at hC' ⊢
      change Can P _ _ (.val (.int .i64 5)) at hC'
      (repeat' (conv => whnf) <;> first | exact True.intro | (refine if_ ?_ ?_ <;> intro h <;> first | exact h.elim | (exfalso; omega) | skip) | refine vs_ ?_ | refine dv_ ?_ | exact fin_ | (show ∃ _, _ ∧ _; refine ex_ ?_ (by first | with_reducible exact rfl | with_reducible exact hal | exact hC' | exact rd_)) | (show ∃ _ _, _ ∧ _; refine ex2_ ?_ (by first | with_reducible exact rfl | with_reducible exact hal | exact hC' | exact rd_)) | fail)
  · rw [dB_f g] at hC' ⊢
    change Can P _ _ (.val (.int .i64 1)) at hC'
    (repeat' (conv => whnf) <;> first | exact True.intro | (refine if_ ?_ ?_ <;> intro h <;> first | exact h.elim | (exfalso; omega) | skip) | refine vs_ ?_ | refine dv_ ?_ | exact fin_ | (show ∃ _, _ ∧ _; refine ex_ ?_ (by first | with_reducible exact rfl | with_reducible exact hal | exact hC' | exact rd_)) | (show ∃ _ _, _ ∧ _; refine ex2_ ?_ (by first | with_reducible exact rfl | with_reducible exact hal | exact hC' | exact rd_)) | fail)
theorem c_IndexVs (hf : isFn P N.slices_Index_Limpl_Vector_impl_Vector (ir_slices_Index_Limpl_Vector_impl_Vector N) = true) : C_IndexVs P N := by
  intro L v hL
  have hml : (L.map vecL).length = L.length := List.length_map ..
  refine can_of hf rfl rfl ?_
  (repeat' (conv => whnf) <;> first | exact True.intro | (refine if_ ?_ ?_ <;> intro h <;> first | exact h.elim | (exfalso; omega) | skip) | refine vs_ ?_ | refine dv_ ?_ | exact fin_ | (show ∃ _, _ ∧ _; refine ex_ ?_) | (show ∃ _ _, _ ∧ _; refine ex2_ ?_) | fail)
  conv => whnf
  refine vc_loop (α := Nat) 0 (fun i => L.length - i) (fun i => i ≤ L.length ∧ ∀ q, q < i → ¬ VEq v (L.getD q Z)) [] (fun i => [(8, .d (.int .i64 i))]) (fun i => []) lp_ ?_ ?_
  · (repeat' (conv => whnf) <;> first | exact True.intro | (refine if_ ?_ ?_ <;> intro h <;> first | exact h.elim | (exfalso; omega) | skip) | refine vs_ ?_ | refine dv_ ?_ | exact fin_ | (show ∃ _, _ ∧ _; refine ex_ ?_) | (show ∃ _ _, _ ∧ _; refine ex2_ ?_) | fail)
  · rintro i ⟨hi, hall⟩
    by_cases hlt : i < L.length
    · by_cases c : VEq v (L.getD i Z)
      · have e : idxF (fun i => decide (VEq v (L.getD i Z))) L.length = (i : Int) := idxF_some hlt (decide_eq_true c) fun j hj => decide_eq_false (hall j hj)
        rw [e]
        (repeat' (conv => whnf) <;> first | exact True.intro | (refine if_ ?_ ?_ <;> intro h <;> first | exact h.elim | (exfalso; omega) | skip) | refine vs_ ?_ (by first | exact ⟨conf_vec _, conf_vec _⟩ | exact sd_) | refine dv_ ?_ | exact fin_ | (show ∃ _, _ ∧ _; refine ex_ ?_ (by first | with_reducible exact rfl | with_reducible exact sub_vm hlt rfl | exact eq_t c | exact rd_)) | (show ∃ _ _, _ ∧ _; refine ex2_ ?_ (by first | with_reducible exact rfl | with_reducible exact sub_vm hlt rfl | exact eq_t c | exact rd_)) | fail)
      · (repeat' (conv => whnf) <;> first | exact True.intro | (refine if_ ?_ ?_ <;> intro h <;> first | exact h.elim | (exfalso; omega) | skip) | refine vs_ ?_ (by first | exact ⟨conf_vec _, conf_vec _⟩ | exact sd_) | refine dv_ ?_ | exact fin_ | (show ∃ _, _ ∧ _; refine ex_ ?_ (by first | with_reducible exact rfl | with_reducible exact sub_vm hlt rfl | exact eq_f c | exact rd_)) | (show ∃ _ _, _ ∧ _; refine ex2_ ?_ (by first | with_reducible exact rfl | with_reducible exact sub_vm hlt rfl | exact eq_f c | exact rd_)) | fail)
        all_goals (conv => whnf)
        all_goals (refine ⟨i + 1, ⟨by omega, all_succ hall c⟩, by omega, ?_⟩)
        all_goals (repeat' (conv => whnf) <;> first | exact True.intro | (refine if_ ?_ ?_ <;> intro h <;> first | exact h.elim | (exfalso; omega) | skip) | refine vs_ ?_ | refine dv_ ?_ | exact fin_ | (show ∃ _, _ ∧ _; refine ex_ ?_) | (show ∃ _ _, _ ∧ _; refine ex2_ ?_) | fail)
    · have e : idxF (fun i => decide (VEq v (L.getD i Z))) L.length = -1 := idxF_none fun j hj => decide_eq_false (hall j (by omega))
      rw [e]
      (repeat' (conv => whnf) <;> first | exact True.intro | (refine if_ ?_ ?_ <;> intro h <;> first | exact h.elim | (exfalso; omega) | skip) | refine vs_ ?_ | refine dv_ ?_ | exact fin_ | (show ∃ _, _ ∧ _; refine ex_ ?_) | (show ∃ _ _, _ ∧ _; refine ex2_ ?_) | fail)
theorem has_idx {L : List Row} {v : Row} : dB (HasV L v) = Cm.geq.int (idxF (fun i => decide (VEq v (L.getD i Z))) L.length) 0 := by
  rcases idxF_cases (fun i => decide (VEq v (L.getD i Z))) L.length with ⟨e, h⟩ | ⟨q, hq, e, h, _⟩
  · rw [e, dB_f fun ⟨i, hi, hv⟩ => of_decide_eq_false (h i hi) fun j hj => (hv j hj).symm]; rfl
  · rw [e, dB_t ⟨q, hq, fun j hj => ((of_decide_eq_true h) j hj).symm⟩]
    exact (decide_eq_true (show (0 : Int) ≤ (q : Int) by omega)).symm
theorem c_ContainsVs (hI : C_IndexVs P N) (hf : isFn P N.slices_Contains_Limpl_Vector_impl_Vector (ir_slices_Contains_Limpl_Vector_impl_Vector N) = true) : C_ContainsVs P N := by
  intro L v hL
  have hI' := hI (v := v) hL
  refine can_of hf rfl rfl ?_
  rw [has_idx]
  (repeat' (conv => whnf) <;> first | exact True.intro | (refine if_ ?_ ?_ <;> intro h <;> first | exact h.elim | (exfalso; omega) | skip) | refine vs_ ?_ | refine dv_ ?_ | exact fin_ | (show ∃ _, _ ∧ _; refine ex_ ?_ (by first | with_reducible exact rfl | exact hI' | exact rd_)) | (show ∃ _ _, _ ∧ _; refine ex2_ ?_ (by first | with_reducible exact rfl | exact hI' | exact rd_)) | fail)
theorem c_sIs5 (hP : C_sPrims P N) (hf : isFn P N.spec_l05Is (ir_spec_l05Is N) = true) : C_sIs5 P N := by
  intro a v hca
  have hat := algAt_one a
  have hal := hat.all
  have hP' := hP hca
  have hle := prims_le hca
  refine can_of hf rfl rfl ?_
  have hSl : (sortV (primI a)).length ≤ 6 := by rw [sortV_len]; exact hle
  generalize sortV (primI a) = S at *
  have hml : (S.map vecL).length = S.length := List.length_map ..
  (repeat' (conv => whnf) <;> first | exact True.intro | (refine if_ ?_ ?_ <;> intro h <;> first | exact h.elim | (exfalso; omega) | skip) | refine vs_ ?_ | refine dv_ ?_ | exact fin_ | (show ∃ _, _ ∧ _; refine ex_ ?_ (by first | with_reducible exact rfl | with_reducible exact hal | exact hP' | exact rd_)) | (show ∃ _ _, _ ∧ _; refine ex2_ ?_ (by first | with_reducible exact rfl | with_reducible exact hal | exact hP' | exact rd_)) | fail)
  conv => whnf
  refine vc_loop (α := Nat) 0 (fun i => S.length - i) (fun i => i ≤ S.length ∧ ∀ q, q < i → ¬ VEq (S.getD q Z) v) [] (fun i => [(6, .d (.int .i64 i))]) (fun i => []) lp_ ?_ ?_
  · (repeat' (conv => whnf) <;> first | exact True.intro | (refine if_ ?_ ?_ <;> intro h <;> first | exact h.elim | (exfalso; omega) | skip) | refine vs_ ?_ | refine dv_ ?_ | exact fin_ | (show ∃ _, _ ∧ _; refine ex_ ?_) | (show ∃ _ _, _ ∧ _; refine ex2_ ?_) | fail)
  · rintro i ⟨hi, hall⟩
    by_cases hlt : i < S.length
    · by_cases c : VEq (S.getD i Z) v
      · rw [dB_t ⟨i, hlt, c⟩]
        (repeat' (conv => whnf) <;> first | exact True.intro | (refine if_ ?_ ?_ <;> intro h <;> first | exact h.elim | (exfalso; omega) | skip) | refine vs_ ?_ (by first | exact ⟨conf_vec _, conf_vec _⟩ | exact sd_) | refine dv_ ?_ | exact fin_ | (show ∃ _, _ ∧ _; refine ex_ ?_ (by first | with_reducible exact rfl | with_reducible exact sub_vm hlt rfl | exact eq_t c | exact rd_)) | (show ∃ _ _, _ ∧ _; refine ex2_ ?_ (by first | with_reducible exact rfl | with_reducible exact sub_vm hlt rfl | exact eq_t c | exact rd_)) | fail)
      · (repeat' (conv => whnf) <;> first | exact True.intro | (refine if_ ?_ ?_ <;> intro h <;> first | exact h.elim | (exfalso; omega) | skip) | refine vs_ ?_ (by first | exact ⟨conf_vec _, conf_vec _⟩ | exact sd_) | refine dv_ ?_ | exact fin_ | (show ∃ _, _ ∧ _; refine ex_ ?_ (by first | with_reducible exact rfl | with_reducible exact sub_vm hlt rfl | exact eq_f c | exact rd_)) | (show ∃ _ _, _ ∧ _; refine ex2_ ?_ (by first | with_reducible exact rfl | with_reducible exact sub_vm hlt rfl | exact eq_f c | exact rd_)) | fail)
        all_goals (conv => whnf)
        all_goals (refine ⟨i + 1, ⟨by omega, all_succ hall c⟩, by omega, ?_⟩)
        all_goals (repeat' (conv => whnf) <;> first | exact True.intro | (refine if_ ?_ ?_ <;> intro h <;> first | exact h.elim | (exfalso; omega) | skip) | refine vs_ ?_ | refine dv_ ?_ | exact fin_ | (show ∃ _, _ ∧ _; refine ex_ ?_) | (show ∃ _ _, _ ∧ _; refine ex2_ ?_) | fail)
    · rw [dB_f fun ⟨q, hq, hv⟩ => hall q (by omega) hv]
      (repeat' (conv => whnf) <;> first | exact True.intro | (refine if_ ?_ ?_ <;> intro h <;> first | exact h.elim | (exfalso; omega) | skip) | refine vs_ ?_ | refine dv_ ?_ | exact fin_ | (show ∃ _, _ ∧ _; refine ex_ ?_) | (show ∃ _ _, _ ∧ _; refine ex2_ ?_) | fail)
theorem c_IsPrim (hC : C_commutes P N) (hP : C_prims P N) (hH : C_ContainsVs P N) (hf : isFn P N.impl_IsPrimitive (ir_impl_IsPrimitive N) = true) : C_IsPrim P N := by
  intro a v hi hv
  have hat := algAt_one a
  have hal := hat.all
  have hC' : Can P N.impl_commutes [algD a, .lst 6 [vecL v]] _ := hC (q := 1) (s := fun _ => v) hi (by omega) (fun _ => hv)
  refine can_of hf rfl rfl ?_
  unfold isPR
  by_cases g : IsAlgP a ∧ AllSm a 1 fun _ => v
  · have ha := hi.alg g.1
    by_cases c : CommP a
    · have hca := ca_of hi.s ((alg_iff hi).1 g.1) ((comm_iff ha).1 c)
      have hP' := hP (sz := (algL a).length) hat hca
      have hH' := hH (L := sortV (primI a)) (v := v) (by rw [sortV_len]; have := prims_le hca; omega)
      rw [dB_t g, dB_t c] at hC' ⊢
      change Can P _ _ (.val (.int .i64 0)) at hC'
      (repeat' (conv => whnf) <;> first | exact True.intro | (refine if_ ?_ ?_ <;> intro h <;> first | exact h.elim | (exfalso; omega) | skip) | refine vs_ ?_ (by first | exact .inr flat_mv | exact sd_) | refine dv_ ?_ | exact fin_ | (show ∃ _, _ ∧ _; refine ex_ ?_ (by first | with_reducible exact rfl | with_reducible exact hal | exact hC' | exact hP' | exact hH' | exact rd_)) | (show ∃ _ _, _ ∧ _; refine ex2_ ?_ (by first | with_reducible exact rfl | with_reducible exact hal | exact hC' | exact hP' | exact hH' | exact rd_)) | fail)
    · rw [dB_t g, dB_f c] at hC' ⊢
      change Can P _ _ (.val (.int .i64 5)) at hC'
      (repeat' (conv => whnf) <;> first | exact True.intro | (refine if_ ?_ ?_ <;> intro h <;> first | exact h.elim | (exfalso; omega) | skip) | refine vs_ ?_ | refine dv_ ?_ | exact fin_ | (show ∃ _, _ ∧ _; refine ex_ ?_ (by first | with_reducible exact rfl | with_reducible exact hal | exact hC' | exact rd_)) | (show ∃ _ _, _ ∧ _; refine ex2_ ?_ (by first | with_reducible exact rfl | with_reducible exact hal | exact hC' | exact rd_)) | fail)
  · rw [dB_f g] at hC' ⊢
    change Can P _ _ (.val (.int .i64 1)) at hC'
    (repeat' (conv => whnf) <;> first | exact True.intro | (refine if_ ?_ ?_ <;> intro h <;> first | exact h.elim | (exfalso; omega) | skip) | refine vs_ ?_ | refine dv_ ?_ | exact fin_ | (show ∃ _, _ ∧ _; refine ex_ ?_ (by first | with_reducible exact rfl | with_reducible exact hal | exact hC' | exact rd_)) | (show ∃ _ _, _ ∧ _; refine ex2_ ?_ (by first | with_reducible exact rfl | with_reducible exact hal | exact hC' | exact rd_)) | fail)
theorem c_sIsPrim (hC : C_sCode5 P N) (hP : C_sIs5 P N) (hf : isFn P N.spec_IsPrimitive (ir_spec_IsPrimitive N) = true) : C_sIsPrim P N := by
  intro a v hi hv
  have hat := algAt_one a
  have hal := hat.all
  have hC' : Can P N.spec_l05Code [algD a, .lst 6 [vecL v]] _ := hC (q := 1) (s := fun _ => v) hi (by omega) (fun _ => hv)
  refine can_of hf rfl rfl ?_
  unfold isPR
  by_cases g : sAlgP a ∧ AllSm a 1 fun _ => v
  · by_cases c : sCommP a
    · have hca := ca_of hi g.1 c
      have hP' := hP (v := v) hca
      rw [dB_t g, dB_t c] at hC' ⊢
      change Can P _ _ (.val (.int .i64 0)) at hC'
      (repeat' (conv => whnf) <;> first | exact True.intro | (refine if_ ?_ ?_ <;> intro h <;> first | exact h.elim | (exfalso; omega) | skip) | refine vs_ ?_ | refine dv_ ?_ | exact fin_ | (show ∃ _, _ ∧ _; refine ex_ ?_ (by first | with_reducible exact rfl | with_reducible exact hal | exact hC' | exact hP' | exact rd_)) | (show ∃ _ _, _ ∧ _; refine ex2_ ?_ (by first | with_reducible exact rfl | with_reducible exact hal | exact hC' | exact hP' | exact rd_)) | fail)
    · rw [dB_t g, dB_f c] at hC' ⊢
      change Can P _ _ (.val (.int .i64 5)) at hC'
      (repeat' (conv => whnf) <;> first | exact True.intro | (refine if_ ?_ ?_ <;> intro h <;> first | exact h.elim | (exfalso; omega) | skip) | refine vs_ ?_ | refine dv_ ?_ | exact fin_ | (show ∃ _, _ ∧ _; refine ex_ ?_ (by first | with_reducible exact rfl | with_reducible exact hal | exact hC' | exact rd_)) | (show ∃ _ _, _ ∧ _; refine ex2_ ?_ (by first | with_reducible exact rfl | with_reducible exact hal | exact hC' | exact rd_)) | fail)
  · rw [dB_f g] at hC' ⊢
    change Can P _ _ (.val (.int .i64 1)) at hC'
    (repeat' (conv => whnf) <;> first | exact True.intro | (refine if_ ?_ ?_ <;> intro h <;> first | exact h.elim | (exfalso; omega) | skip) | refine vs_ ?_ | refine dv_ ?_ | exact fin_ | (show ∃ _, _ ∧ _; refine ex_ ?_ (by first | with_reducible exact rfl | with_reducible exact hal | exact hC' | exact rd_)) | (show ∃ _ _, _ ∧ _; refine ex2_ ?_ (by first | with_reducible exact rfl | with_reducible exact hal | exact hC' | exact rd_)) | fail)
end Go.X
