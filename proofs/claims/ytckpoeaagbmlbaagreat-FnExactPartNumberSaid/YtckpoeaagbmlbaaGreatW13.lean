import Derived.Test.YtckpoeaagbmlbaaGreatK14
import Derived.Test.YtckpoeaagbmlbaaGreatW11
import Derived.Test.YtckpoeaagbmlbaaGreatK1
import Derived.Test.YtckpoeaagbmlbaaGreatW12
import Derived.Test.YtckpoeaagbmlbaaGreatW9
import Derived.Test.YtckpoeaagbmlbaaGreatK13
import Derived.Test.YtckpoeaagbmlbaaGreatK8
set_option linter.all false
namespace Go.X
open Go Go.RowKit
set_option maxRecDepth 100000
set_option maxHeartbeats 8000000
set_option linter.unusedVariables false
variable {P : Program} {N : FN}
theorem c_sRow (hf : isFn P N.spec_l05Row (ir_spec_l05Row N) = true) : C_sRow P N := by
  intro m v hm hv
  refine can_of hf rfl rfl ?_
  (repeat' (conv => whnf)<;>first|exact True.intro|(refine if_ ?_ ?_<;>intro h<;>first|exact h.elim|(exfalso; omega)|skip)|refine vs_ ?_|refine dv_ ?_|exact fin_|(show ∃ _, _ ∧ _; refine ex_ ?_)|(show ∃ _ _, _ ∧ _; refine ex2_ ?_))
  conv => whnf
  refine vc_loop (α := Nat) 0 (fun i => m - i) (fun i => i ≤ m) [] (fun i => [(5, .row 6 1), (6, .d (.int .i64 i))]) (fun i => [(6, .data 1 (row i v))]) lp_ ?_ ?_
  · (repeat' (conv => whnf)<;>first|exact True.intro|(refine if_ ?_ ?_<;>intro h<;>first|exact h.elim|(exfalso; omega)|skip)|refine vs_ ?_|refine dv_ ?_|exact fin_|(show ∃ _, _ ∧ _; refine ex_ ?_)|(show ∃ _ _, _ ∧ _; refine ex2_ ?_))
  · intro i hi
    have h1 := hv i
    by_cases hlt : i < m
    · (repeat' (conv => whnf)<;>first|exact True.intro|(refine if_ ?_ ?_<;>intro h<;>first|exact h.elim|(exfalso; omega)|skip)|refine vs_ ?_|refine dv_ ?_|exact fin_|(show ∃ _, _ ∧ _; refine ex_ ?_)|(show ∃ _ _, _ ∧ _; refine ex2_ ?_))
      conv => whnf
      refine ⟨i + 1, by omega, by omega, ?_⟩
      (repeat' (conv => whnf)<;>first|exact True.intro|(refine if_ ?_ ?_<;>intro h<;>first|exact h.elim|(exfalso; omega)|skip)|refine vs_ ?_ (by first|exact row_app rfl|exact sd_)|refine dv_ ?_|exact fin_|(show ∃ _, _ ∧ _; refine ex_ ?_)|(show ∃ _ _, _ ∧ _; refine ex2_ ?_))
    · have : i = m := by omega
      subst this
      (repeat' (conv => whnf)<;>first|exact True.intro|(refine if_ ?_ ?_<;>intro h<;>first|exact h.elim|(exfalso; omega)|skip)|refine vs_ ?_|refine dv_ ?_|exact fin_|(show ∃ _, _ ∧ _; refine ex_ ?_)|(show ∃ _ _, _ ∧ _; refine ex2_ ?_))
theorem c_all (hN : C_n P N) (hB : C_basis P N) (hf : isFn P N.impl_Algebra_all (ir_impl_Algebra_all N) = true) : C_all P N := by
  intro sz l e off a hat hn
  have hN' : Can P N.impl_Algebra_n [.pd sz l e off] (.val (.int .i64 a.n)) := hN hat
  refine can_of hf rfl rfl ?_
  (repeat' (conv => whnf)<;>first|exact True.intro|(refine if_ ?_ ?_<;>intro h<;>first|exact h.elim|(exfalso; omega)|skip)|refine vs_ ?_|refine dv_ ?_|exact fin_|(show ∃ _, _ ∧ _; refine ex_ ?_ (by first|with_reducible exact rfl|exact hN'|exact rd_))|(show ∃ _ _, _ ∧ _; refine ex2_ ?_ (by first|with_reducible exact rfl|exact hN'|exact rd_)))
  conv => whnf
  refine vc_loop (α := Nat) 0 (fun i => a.n.toNat - i) (fun i => i ≤ a.n.toNat) [] (fun i => [(3, .row 4 6), (8, .d (.int .i64 i))]) (fun i => [(4, .data 6 ((arr i basV).map vecL))]) lp_ ?_ ?_
  · (repeat' (conv => whnf)<;>first|exact True.intro|(refine if_ ?_ ?_<;>intro h<;>first|exact h.elim|(exfalso; omega)|skip)|refine vs_ ?_|refine dv_ ?_|exact fin_|(show ∃ _, _ ∧ _; refine ex_ ?_)|(show ∃ _ _, _ ∧ _; refine ex2_ ?_))
  · intro i hi
    have hml : ((arr i basV).map vecL).length = i := by rw [List.length_map]; exact arr_len ..
    by_cases hlt : i < a.n.toNat
    · have hB' := hB (i := i) (by omega)
      (repeat' (conv => whnf)<;>first|exact True.intro|(refine if_ ?_ ?_<;>intro h<;>first|exact h.elim|(exfalso; omega)|skip)|refine vs_ ?_ (by first|exact ⟨by (simp only [List.length_cons, List.length_nil, hml, maxRow]; omega), by decide, by decide⟩|exact sd_)|refine dv_ ?_|exact fin_|(show ∃ _, _ ∧ _; refine ex_ ?_ (by first|with_reducible exact rfl|exact hB'|exact rd_))|(show ∃ _ _, _ ∧ _; refine ex2_ ?_ (by first|with_reducible exact rfl|exact hB'|exact rd_)))
      conv => whnf
      refine ⟨i + 1, by omega, by omega, ?_⟩
      rw [arr_succ, ← vcs_app]
      (repeat' (conv => whnf)<;>first|exact True.intro|(refine if_ ?_ ?_<;>intro h<;>first|exact h.elim|(exfalso; omega)|skip)|refine vs_ ?_|refine dv_ ?_|exact fin_|(show ∃ _, _ ∧ _; refine ex_ ?_)|(show ∃ _ _, _ ∧ _; refine ex2_ ?_))
    · have : i = a.n.toNat := by omega
      subst this
      (repeat' (conv => whnf)<;>first|exact True.intro|(refine if_ ?_ ?_<;>intro h<;>first|exact h.elim|(exfalso; omega)|skip)|refine vs_ ?_|refine dv_ ?_|exact fin_|(show ∃ _, _ ∧ _; refine ex_ ?_)|(show ∃ _ _, _ ∧ _; refine ex2_ ?_))
theorem c_sBasisL (hB : C_sBasis P N) (hf : isFn P N.spec_l05Basis (ir_spec_l05Basis N) = true) : C_sBasisL P N := by
  intro a hn
  have hat := algAt_one a
  refine can_of hf rfl rfl ?_
  (repeat' (conv => whnf)<;>first|exact True.intro|(refine if_ ?_ ?_<;>intro h<;>first|exact h.elim|(exfalso; omega)|skip)|refine vs_ ?_|refine dv_ ?_|exact fin_|(show ∃ _, _ ∧ _; refine ex_ ?_)|(show ∃ _ _, _ ∧ _; refine ex2_ ?_))
  conv => whnf
  refine vc_loop (α := Nat) 0 (fun i => a.n.toNat - i) (fun i => i ≤ a.n.toNat) [] (fun i => [(3, .row 4 6), (4, .d (.int .i64 i))]) (fun i => [(4, .data 6 ((arr i basV).map vecL))]) lp_ ?_ ?_
  · (repeat' (conv => whnf)<;>first|exact True.intro|(refine if_ ?_ ?_<;>intro h<;>first|exact h.elim|(exfalso; omega)|skip)|refine vs_ ?_|refine dv_ ?_|exact fin_|(show ∃ _, _ ∧ _; refine ex_ ?_)|(show ∃ _ _, _ ∧ _; refine ex2_ ?_))
  · intro i hi
    have hml : ((arr i basV).map vecL).length = i := by rw [List.length_map]; exact arr_len ..
    by_cases hlt : i < a.n.toNat
    · have hB' := hB (i := i) (by omega)
      (repeat' (conv => whnf)<;>first|exact True.intro|(refine if_ ?_ ?_<;>intro h<;>first|exact h.elim|(exfalso; omega)|skip)|refine vs_ ?_ (by first|exact ⟨by (simp only [List.length_cons, List.length_nil, hml, maxRow]; omega), by decide, by decide⟩|exact sd_)|refine dv_ ?_|exact fin_|(show ∃ _, _ ∧ _; refine ex_ ?_ (by first|with_reducible exact rfl|with_reducible exact hat.n|exact hB'|exact rd_))|(show ∃ _ _, _ ∧ _; refine ex2_ ?_ (by first|with_reducible exact rfl|with_reducible exact hat.n|exact hB'|exact rd_)))
      conv => whnf
      refine ⟨i + 1, by omega, by omega, ?_⟩
      rw [arr_succ, ← vcs_app]
      (repeat' (conv => whnf)<;>first|exact True.intro|(refine if_ ?_ ?_<;>intro h<;>first|exact h.elim|(exfalso; omega)|skip)|refine vs_ ?_|refine dv_ ?_|exact fin_|(show ∃ _, _ ∧ _; refine ex_ ?_)|(show ∃ _ _, _ ∧ _; refine ex2_ ?_))
    · have : i = a.n.toNat := by omega
      subst this
      (repeat' (conv => whnf)<;>first|exact True.intro|(refine if_ ?_ ?_<;>intro h<;>first|exact h.elim|(exfalso; omega)|skip)|refine vs_ ?_|refine dv_ ?_|exact fin_|(show ∃ _, _ ∧ _; refine ex_ ?_ (by first|with_reducible exact rfl|with_reducible exact hat.n|exact rd_))|(show ∃ _ _, _ ∧ _; refine ex2_ ?_ (by first|with_reducible exact rfl|with_reducible exact hat.n|exact rd_)))
end Go.X
namespace Go.X
open Go Go.RowKit
set_option maxRecDepth 100000
set_option maxHeartbeats 8000000
set_option linter.unusedVariables false
variable {P : Program} {N : FN}
theorem take_byt (n : Nat) (hn : n ≤ 6) (v : Row) : ∀ (i : Nat) (r : List D), (arr n fun i => ([.int .u8 (v i)] : List D))[i]? = some r → sub2 [vecL v] 0 (0 + (Int.toNat 0 + i) * 1) 1 = some r := fun i r h => by
  have hi : i < n := by
    have := (List.getElem?_eq_some_iff.1 h).1
    rwa [arr_len] at this
  rw [arr_get hi] at h
  simp only [Option.some.injEq] at h
  subst h
  have h6 : i < 6 := by omega
  match i, h6 with
  | 0, _ => rfl
  | 1, _ => rfl
  | 2, _ => rfl
  | 3, _ => rfl
  | 4, _ => rfl
  | 5, _ => rfl
theorem get2_u8 {n i : Nat} {v : Row} (h : i < n) : get2 (arr n fun i => ([.int .u8 (v i)] : List D)) ((i : Nat) : Int).toNat 0 = some (.int .u8 (v i)) := by
  rw [get2, Int.toNat_natCast, arr_get h]; rfl
theorem c_row (hN : C_n P N) (hf : isFn P N.impl_Algebra_row (ir_impl_Algebra_row N) = true) : C_row P N := by
  intro sz l e off a v hat hn hv
  have hN' : Can P N.impl_Algebra_n [.pd sz l e off] (.val (.int .i64 a.n)) := hN hat
  refine can_of hf rfl rfl ?_
  (repeat' (conv => whnf)<;>first|exact True.intro|(refine if_ ?_ ?_<;>intro h<;>first|exact h.elim|(exfalso; omega)|skip)|refine vs_ ?_|refine dv_ ?_|exact fin_|(show ∃ _, _ ∧ _; refine ex_ ?_ (by first|with_reducible exact rfl|exact hN'|exact rd_))|(show ∃ _ _, _ ∧ _; refine ex2_ ?_ (by first|with_reducible exact rfl|exact hN'|exact rd_)))
  conv => whnf
  refine ⟨arr a.n.toNat fun i => [.int .u8 (v i)], by rw [arr_len, Int.sub_zero], take_byt _ (by omega) v, ?_⟩
  have hl : (arr a.n.toNat fun i => ([.int .u8 (v i)] : List D)).length = a.n.toNat := arr_len ..
  (repeat' (conv => whnf)<;>first|exact True.intro|(refine if_ ?_ ?_<;>intro h<;>first|exact h.elim|(exfalso; omega)|skip)|refine vs_ ?_|refine dv_ ?_|exact fin_|(show ∃ _, _ ∧ _; refine ex_ ?_)|(show ∃ _ _, _ ∧ _; refine ex2_ ?_))
  conv => whnf
  refine vc_loop (α := Nat) 0 (fun i => a.n.toNat - i) (fun i => i ≤ a.n.toNat) [] (fun i => [(5, .row 6 1), (13, .d (.int .i64 i))]) (fun i => [(6, .data 1 (row i v))]) lp_ ?_ ?_
  · (repeat' (conv => whnf)<;>first|exact True.intro|(refine if_ ?_ ?_<;>intro h<;>first|exact h.elim|(exfalso; omega)|skip)|refine vs_ ?_|refine dv_ ?_|exact fin_|(show ∃ _, _ ∧ _; refine ex_ ?_)|(show ∃ _ _, _ ∧ _; refine ex2_ ?_))
  · intro i hi
    have h1 := hv i
    by_cases hlt : i < a.n.toNat
    · (repeat' (conv => whnf)<;>first|exact True.intro|(refine if_ ?_ ?_<;>intro h<;>first|exact h.elim|(exfalso; omega)|skip)|refine vs_ ?_|refine dv_ ?_|exact fin_|(show ∃ _, _ ∧ _; refine ex_ ?_ (by first|with_reducible exact rfl|exact get2_u8 hlt|exact rd_))|(show ∃ _ _, _ ∧ _; refine ex2_ ?_ (by first|with_reducible exact rfl|exact get2_u8 hlt|exact rd_)))
      conv => whnf
      refine ⟨i + 1, by omega, by omega, ?_⟩
      (repeat' (conv => whnf)<;>first|exact True.intro|(refine if_ ?_ ?_<;>intro h<;>first|exact h.elim|(exfalso; omega)|skip)|refine vs_ ?_ (by first|exact row_app rfl|exact sd_)|refine dv_ ?_|exact fin_|(show ∃ _, _ ∧ _; refine ex_ ?_)|(show ∃ _ _, _ ∧ _; refine ex2_ ?_))
    · have : i = a.n.toNat := by omega
      subst this
      (repeat' (conv => whnf)<;>first|exact True.intro|(refine if_ ?_ ?_<;>intro h<;>first|exact h.elim|(exfalso; omega)|skip)|refine vs_ ?_|refine dv_ ?_|exact fin_|(show ∃ _, _ ∧ _; refine ex_ ?_)|(show ∃ _ _, _ ∧ _; refine ex2_ ?_))
theorem rws_app {n : Nat} {L : List Row} {v : Row} : rowsL n L ++ [[rowD n v]] = rowsL n (L ++ [v]) := by simp [rowsL]
theorem c_spanned (hR : C_row P N) (hE : C_reduce P N) (hV : C_vectors P N) (hf : isFn P N.impl_Algebra_spanned (ir_impl_Algebra_spanned N) = true) : C_spanned P N := by
  intro sz l e off a L hat ha hL hrw
  have hn := ha.n
  have hp2 := prime_bd ha.p
  have hml : (L.map vecL).length = L.length := List.length_map ..
  have hE' := hE (m := a.n.toNat) (L := L) (by omega) hL ha.p hrw
  obtain ⟨ld, rr⟩ := redF_rr (m := a.n.toNat) ha.p hrw
  have hkl := rr.len_le
  have hV' := hV (m := a.n.toNat) (L := redF a.p a.n.toNat L) (by omega) (by omega) (fun r hr i => by have := rr.rw r hr i; omega)
  have e0 : ((redF a.p a.n.toNat L).map (vecR a.n.toNat)).map vecL = (redF a.p a.n.toNat L).map fun r => vecL (vecR a.n.toNat r) := by rw [List.map_map]; rfl
  rw [e0]
  refine can_of hf rfl rfl ?_
  (repeat' (conv => whnf)<;>first|exact True.intro|(refine if_ ?_ ?_<;>intro h<;>first|exact h.elim|(exfalso; omega)|skip)|refine vs_ ?_|refine dv_ ?_|exact fin_|(show ∃ _, _ ∧ _; refine ex_ ?_)|(show ∃ _ _, _ ∧ _; refine ex2_ ?_))
  conv => whnf
  refine vc_loop (α := Nat) 0 (fun q => L.length - q) (fun q => q ≤ L.length) [] (fun q => [(5, .row 6 1), (11, .d (.int .i64 q))]) (fun q => [(6, .data 1 (rowsL a.n.toNat (L.take q)))]) lp_ ?_ ?_
  · (repeat' (conv => whnf)<;>first|exact True.intro|(refine if_ ?_ ?_<;>intro h<;>first|exact h.elim|(exfalso; omega)|skip)|refine vs_ ?_|refine dv_ ?_|exact fin_|(show ∃ _, _ ∧ _; refine ex_ ?_)|(show ∃ _ _, _ ∧ _; refine ex2_ ?_))
  · intro q hq
    have htl : (rowsL a.n.toNat (L.take q)).length = q := by rw [rowsL_len, List.length_take]; omega
    by_cases hlt : q < L.length
    · have hR' := hR (sz := sz) (v := L.getD q Z) hat (by omega) ((hrw _ (getD_memE hlt)).byt (by omega))
      (repeat' (conv => whnf)<;>first|exact True.intro|(refine if_ ?_ ?_<;>intro h<;>first|exact h.elim|(exfalso; omega)|skip)|refine vs_ ?_ (by first|exact ⟨by (simp only [List.length_cons, List.length_nil, htl, maxRow]; omega), by decide, by decide⟩|exact sd_)|refine dv_ ?_|exact fin_|(show ∃ _, _ ∧ _; refine ex_ ?_ (by first|with_reducible exact rfl|with_reducible exact sub_vm hlt rfl|with_reducible exact rd_st6|exact hR'|exact rd_))|(show ∃ _ _, _ ∧ _; refine ex2_ ?_ (by first|with_reducible exact rfl|with_reducible exact sub_vm hlt rfl|with_reducible exact rd_st6|exact hR'|exact rd_)))
      conv => whnf
      refine ⟨q + 1, by omega, by omega, ?_⟩
      rw [take_getD hlt, ← rws_app]
      (repeat' (conv => whnf)<;>first|exact True.intro|(refine if_ ?_ ?_<;>intro h<;>first|exact h.elim|(exfalso; omega)|skip)|refine vs_ ?_|refine dv_ ?_|exact fin_|(show ∃ _, _ ∧ _; refine ex_ ?_)|(show ∃ _ _, _ ∧ _; refine ex2_ ?_))
    · have : q = L.length := by omega
      rw [this, List.take_length]
      (repeat' (conv => whnf)<;>first|exact True.intro|(refine if_ ?_ ?_<;>intro h<;>first|exact h.elim|(exfalso; omega)|skip)|refine vs_ ?_|refine dv_ ?_|exact fin_|(show ∃ _, _ ∧ _; refine ex_ ?_ (by first|with_reducible exact rfl|with_reducible exact hat.p|exact hE'|exact hV'|exact rd_))|(show ∃ _ _, _ ∧ _; refine ex2_ ?_ (by first|with_reducible exact rfl|with_reducible exact hat.p|exact hE'|exact hV'|exact rd_)))
theorem c_spread (hT : C_times P N) (hS : C_spanned P N) (hf : isFn P N.impl_Algebra_spread (ir_impl_Algebra_spread N) = true) : C_spread P N := by
  intro sz l e off a v L hat ha hv hL hb
  have hn := ha.n
  have hp2 := prime_bd ha.p
  have hml : (L.map vecL).length = L.length := List.length_map ..
  have hS' := hS (sz := sz) (L := L.map (timesV a v)) hat ha (by rw [List.length_map]; exact hL) (part_rw (by omega) v L)
  rw [part_imp ha] at hS'
  refine can_of hf rfl rfl ?_
  (repeat' (conv => whnf)<;>first|exact True.intro|(refine if_ ?_ ?_<;>intro h<;>first|exact h.elim|(exfalso; omega)|skip)|refine vs_ ?_|refine dv_ ?_|exact fin_|(show ∃ _, _ ∧ _; refine ex_ ?_)|(show ∃ _ _, _ ∧ _; refine ex2_ ?_))
  conv => whnf
  refine vc_loop (α := Nat) 0 (fun q => L.length - q) (fun q => q ≤ L.length) [] (fun q => [(7, .row 8 6), (13, .d (.int .i64 q))]) (fun q => [(8, .data 6 (((L.take q).map (timesV a v)).map vecL))]) lp_ ?_ ?_
  · (repeat' (conv => whnf)<;>first|exact True.intro|(refine if_ ?_ ?_<;>intro h<;>first|exact h.elim|(exfalso; omega)|skip)|refine vs_ ?_|refine dv_ ?_|exact fin_|(show ∃ _, _ ∧ _; refine ex_ ?_)|(show ∃ _ _, _ ∧ _; refine ex2_ ?_))
  · intro q hq
    have htl : (((L.take q).map (timesV a v)).map vecL).length = q := by rw [List.length_map, List.length_map, List.length_take]; omega
    by_cases hlt : q < L.length
    · have hT' := hT (sz := sz) hat ha.b hv (hb _ (getD_memE hlt)) (by omega) (by omega)
      (repeat' (conv => whnf)<;>first|exact True.intro|(refine if_ ?_ ?_<;>intro h<;>first|exact h.elim|(exfalso; omega)|skip)|refine vs_ ?_ (by first|exact ⟨by (simp only [List.length_cons, List.length_nil, htl, maxRow]; omega), by decide, by decide⟩|exact sd_)|refine dv_ ?_|exact fin_|(show ∃ _, _ ∧ _; refine ex_ ?_ (by first|with_reducible exact rfl|with_reducible exact sub_vm hlt rfl|with_reducible exact rd_st6|exact hT'|exact rd_))|(show ∃ _ _, _ ∧ _; refine ex2_ ?_ (by first|with_reducible exact rfl|with_reducible exact sub_vm hlt rfl|with_reducible exact rd_st6|exact hT'|exact rd_)))
      conv => whnf
      refine ⟨q + 1, by omega, by omega, ?_⟩
      rw [take_getD hlt, List.map_append, List.map_singleton, ← vcs_app]
      (repeat' (conv => whnf)<;>first|exact True.intro|(refine if_ ?_ ?_<;>intro h<;>first|exact h.elim|(exfalso; omega)|skip)|refine vs_ ?_|refine dv_ ?_|exact fin_|(show ∃ _, _ ∧ _; refine ex_ ?_)|(show ∃ _ _, _ ∧ _; refine ex2_ ?_))
    · have : q = L.length := by omega
      rw [this, List.take_length]
      (repeat' (conv => whnf)<;>first|exact True.intro|(refine if_ ?_ ?_<;>intro h<;>first|exact h.elim|(exfalso; omega)|skip)|refine vs_ ?_ (by first|exact .inr flat_mv|exact sd_)|refine dv_ ?_|exact fin_|(show ∃ _, _ ∧ _; refine ex_ ?_ (by first|with_reducible exact rfl|exact hS'|exact rd_))|(show ∃ _ _, _ ∧ _; refine ex2_ ?_ (by first|with_reducible exact rfl|exact hS'|exact rd_)))
end Go.X
namespace Go.X
open Go Go.RowKit
set_option maxRecDepth 100000
set_option maxHeartbeats 8000000
set_option linter.unusedVariables false
variable {P : Program} {N : FN}
theorem prims_le {a : Alg} (h : CA a) : (primI a).length ≤ 6 := by
  have := orth_len h (primI_orth h)
  have := h.ok.n
  omega
end Go.X
namespace Go.X
open Go Go.RowKit
set_option maxRecDepth 100000
set_option maxHeartbeats 8000000
set_option linter.unusedVariables false
variable {P : Program} {N : FN}
def stg (a : Alg) (k : Nat) : List Row := primL a ((fixL a).take k)
theorem stg_s {a : Alg} {k : Nat} (h : k < (fixL a).length) : stg a (k + 1) = stageL a ((fixL a).getD k Z) (stg a k) := by
  unfold stg primL
  rw [take_getD h, List.foldl_append]; rfl
theorem stg_orth {a : Alg} (h : CA a) (k : Nat) : Orth a (stg a k) := prim_orth h fun b hb => fix_mem h b (List.mem_of_mem_take hb)
theorem stg_n {a : Alg} : stg a (fixL a).length = primI a := by unfold stg primI; rw [List.take_length]
def nxt (a : Alg) (b : Row) (E : List Row) (q : Nat) : List Row := (E.take q).flatMap (sharesL a b)
theorem nxt_s {a : Alg} {b : Row} {E : List Row} {q : Nat} (h : q < E.length) : nxt a b E (q + 1) = nxt a b E q ++ sharesL a b (E.getD q Z) := by
  unfold nxt
  rw [take_getD h, List.flatMap_append]; simp
theorem nxt_n {a : Alg} {b : Row} {E : List Row} : nxt a b E E.length = stageL a b E := by unfold nxt stageL; rw [List.take_length]
theorem shares_len {a : Alg} {b e : Row} : (sharesL a b e).length ≤ a.p.toNat := by
  have := List.length_filter_le nzB ((List.range a.p.toNat).map (share a b e))
  unfold sharesL
  rw [List.length_map, List.length_range] at this
  exact this
theorem nxt_len {a : Alg} {b : Row} {E : List Row} : ∀ q, (nxt a b E q).length ≤ q * a.p.toNat
  | 0 => by simp [nxt]
  | q + 1 => by
    by_cases h : q < E.length
    · rw [nxt_s h, List.length_append, Nat.add_mul, Nat.one_mul]
      exact Nat.add_le_add (nxt_len q) shares_len
    · have e : nxt a b E (q + 1) = nxt a b E q := by unfold nxt; rw [List.take_of_length_le (by omega), List.take_of_length_le (by omega)]
      rw [e, Nat.add_mul]
      have := nxt_len (a := a) (b := b) (E := E) q
      omega
theorem vcs_apps {L M : List Row} : L.map vecL ++ M.map vecL = (L ++ M).map vecL := by rw [List.map_append]
theorem eqs_map {a : Alg} {n : Nat} {M : Nat → Nat → Nat → Int} {F : (Nat → Int) → Nat → Int} (h : ∀ i r, i < n → r < n → M 0 i r = F (basV i) r) : D.lst 1 (nestD 1 (arr (1 * n) fun r => row n (eqR M n r))) = rowsD n (mapL n F) := by
  refine congrArg (D.lst 1) ?_
  unfold nestD rowsL mapL
  rw [arr_map, arr_map, Nat.one_mul]
  refine arr_ext fun r hr => ?_
  refine congrArg (fun x => [D.lst 1 x]) (row_ext fun c hc => ?_)
  unfold eqR
  rw [Nat.div_eq_of_lt hr, Nat.mod_eq_of_lt hr]
  exact h c r hc hr
theorem c_prims (hU : C_unit P N) (hN : C_n P N) (hE : C_equationsC P N) (h1 : C_prims1 P N) (hK : C_kernel P N) (hV : C_vectors P N) (hH : C_shares P N) (hS : C_SortVec P N) (h2 : C_prims2 P N) (hf : isFn P N.impl_Algebra_primitives (ir_impl_Algebra_primitives N) = true) : C_prims P N := by
  intro sz l e off a hat hca
  have ha := hca.ok
  have hn := ha.n
  have hp2 := prime_bd ha.p
  have hnn : ((a.n.toNat : Nat) : Int) = a.n := by omega
  have hU' : Can P N.impl_Algebra_unit [.pd sz l e off] (.val (vecD (sUnit a))) := by
    rw [← (unit_same ha).2]; exact hU hat ha
  have hN' : Can P N.impl_Algebra_n [.pd sz l e off] (.val (.int .i64 a.n)) := hN hat
  have hF : ∀ i, i < a.n.toNat → addV a.p (a.p - 1) (frobI a (basV i) 1) (basV i) = fixF a (basV i) := fun i hi => by
    have e1 : frobI a (basV i) 1 = pw a (basV i) a.p.toNat := by
      show foldV a (iUnit a) (basV i) a.p.toNat = _
      rw [(unit_same ha).2]
    rw [e1]
    unfold fixF
    rw [addV_eq _ _ _ _ (in_pw hca _ _).1, addV_eq _ _ _ _ (in_pw hca _ _).1, vsc_cg (c := a.p - 1) (d := -1) (by rw [show a.p - 1 = -1 + a.p by omega, Int.add_emod_right])]
  have hE' := hE (sz := sz) (m := 1) (g := fun _ => N.impl_Algebra_primitives_1) (cs := fun _ => .pd 1 [[.pd sz l e off]] 0 0) (M := fun _ i k => addV a.p (a.p - 1) (frobI a (basV i) 1) (basV i) k) hat ha (by omega)
    (fun _ i k => by
      have := mod_bd (frobI a (basV i) 1 k + (a.p - 1) * basV i k) (show 1 ≤ a.p by omega)
      show 0 ≤ (frobI a (basV i) 1 k + (a.p - 1) * basV i k) % a.p ∧ (frobI a (basV i) 1 k + (a.p - 1) * basV i k) % a.p ≤ 255
      omega) (fun q i _ _ => h1 hat ha (basV_byt i))
  have hK' := hK (n := a.n.toNat) (L := mapL a.n.toNat (fixF a)) (by omega) (by rw [show (mapL a.n.toNat (fixF a)).length = a.n.toNat from arr_len ..]; omega) ha.p (fix_rw hca)
  rw [hnn, ← eqs_map (a := a) (M := fun _ i k => addV a.p (a.p - 1) (frobI a (basV i) 1) (basV i) k) (fun i r hi _ => congrFun (hF i hi) r)] at hK'
  obtain ⟨ld, rr⟩ := sKer_rr (n := a.n.toNat) (L := mapL a.n.toNat (fixF a)) ha.p
  have hsame := ker_same (n := a.n.toNat) ha.p (fix_rw hca)
  obtain ⟨ld2, rr2⟩ : ∃ ld, RR a.p a.n.toNat (iKerF a.p a.n.toNat (mapL a.n.toNat (fixF a))) ld := redF_rr ha.p (free_rw hp2.1 _)
  have hkl := rr2.len_le
  have hV' := hV (m := a.n.toNat) (L := iKerF a.p a.n.toNat (mapL a.n.toNat (fixF a))) (by omega) (by omega) (fun r hr i => by have := rr2.rw r hr i; omega)
  have eV : ((iKerF a.p a.n.toNat (mapL a.n.toNat (fixF a))).map fun r => vecL (vecR a.n.toNat r)) = (fixL a).map vecL := by
    have := congrArg (List.map vecL) (space_imp (n := a.n.toNat) ha.p (fix_rw hca))
    rw [List.map_map] at this
    exact this
  rw [eV] at hV'
  have hfl := fix_len hca
  have hfm : ((fixL a).map vecL).length = (fixL a).length := List.length_map ..
  have hPo := primI_orth hca
  have hPl := orth_len hca hPo
  have hS' := hS (L := primI a) (g := N.impl_Algebra_primitives_2) (by omega) (orth_dist hca hPo) (fun v hv => (hPo.inn v hv).1.byt (by omega)) h2
  have hflat : ∀ r ∈ arr (1 * a.n.toNat) (fun r => row a.n.toNat (eqR (fun _ i k => addV a.p (a.p - 1) (frobI a (basV i) 1) (basV i) k) a.n.toNat r)), ∀ e ∈ r, ∀ x ∈ e, Flat x := fun r hr => by
    obtain ⟨i, _, rfl⟩ := List.mem_map.1 hr
    exact flat_row
  refine can_of hf rfl rfl ?_
  (repeat' (conv => whnf)<;>first|exact True.intro|(refine if_ ?_ ?_<;>intro h<;>first|exact h.elim|(exfalso; omega)|skip)|refine vs_ ?_ (by first|exact .inr hflat|exact sd_)|refine dv_ ?_|exact fin_|(show ∃ _, _ ∧ _; refine ex_ ?_ (by first|with_reducible exact rfl|exact hU'|exact hE'|exact hK'|exact hV'|exact hN'|with_reducible exact hat.p|exact rd_))|(show ∃ _ _, _ ∧ _; refine ex2_ ?_ (by first|with_reducible exact rfl|exact hU'|exact hE'|exact hK'|exact hV'|exact hN'|with_reducible exact hat.p|exact rd_)))
  conv => whnf
  refine vc_loop (α := Nat) 0 (fun k => (fixL a).length - k) (fun k => k ≤ (fixL a).length) [] (fun k => [(3, .row 4 6), (27, .d (.int .i64 k))]) (fun k => [(4, .data 6 ((stg a k).map vecL))]) lp_ ?_ ?_
  · (repeat' (conv => whnf)<;>first|exact True.intro|(refine if_ ?_ ?_<;>intro h<;>first|exact h.elim|(exfalso; omega)|skip)|refine vs_ ?_|refine dv_ ?_|exact fin_|(show ∃ _, _ ∧ _; refine ex_ ?_)|(show ∃ _ _, _ ∧ _; refine ex2_ ?_))
  · intro k hk
    have ho := stg_orth hca k
    have hol := orth_len hca ho
    have hml : ((stg a k).map vecL).length = (stg a k).length := List.length_map ..
    by_cases hlt : k < (fixL a).length
    · obtain ⟨hbi, hbf⟩ := fix_mem hca _ (getD_memE hlt)
      have hs1 := stg_s hlt
      generalize hb : (fixL a).getD k Z = b at *
      (repeat' (conv => whnf)<;>first|exact True.intro|(refine if_ ?_ ?_<;>intro h<;>first|exact h.elim|(exfalso; omega)|skip)|refine vs_ ?_|refine dv_ ?_|exact fin_|(show ∃ _, _ ∧ _; refine ex_ ?_ (by first|with_reducible exact rfl|with_reducible exact sub_vm hlt hb|exact rd_))|(show ∃ _ _, _ ∧ _; refine ex2_ ?_ (by first|with_reducible exact rfl|with_reducible exact sub_vm hlt hb|exact rd_)))
      conv => whnf
      refine vc_loop (α := Nat) 0 (fun q => (stg a k).length - q) (fun q => q ≤ (stg a k).length) [] (fun q => [(6, .ptr 7 6 0 0), (7, .row 8 6), (34, .d (.int .i64 q))]) (fun q => [(7, .data 6 [vecL b]), (8, .data 6 ((nxt a b (stg a k) q).map vecL))]) lp_ ?_ ?_
      · (repeat' (conv => whnf)<;>first|exact True.intro|(refine if_ ?_ ?_<;>intro h<;>first|exact h.elim|(exfalso; omega)|skip)|refine vs_ ?_ (by first|exact st_all (f := Z)|exact sd_)|refine dv_ ?_|exact fin_|(show ∃ _, _ ∧ _; refine ex_ ?_)|(show ∃ _ _, _ ∧ _; refine ex2_ ?_))
      · intro q hq
        by_cases hlt2 : q < (stg a k).length
        · have hei := ho.inn _ (getD_memE hlt2)
          have hn1 := nxt_s (a := a) (b := b) hlt2
          generalize he : (stg a k).getD q Z = e at *
          have hH' := hH (sz := sz) hat hca hbi hei
          have hnl := nxt_len (a := a) (b := b) (E := stg a k) q
          have hsl := shares_len (a := a) (b := b) (e := e)
          have hqp : q * a.p.toNat ≤ 6 * 13 := Nat.mul_le_mul (by omega) (by omega)
          have hnm : ((nxt a b (stg a k) q).map vecL).length = (nxt a b (stg a k) q).length := List.length_map ..
          have hsm : ((sharesL a b e).map vecL).length = (sharesL a b e).length := List.length_map ..
          (repeat' (conv => whnf)<;>first|exact True.intro|(refine if_ ?_ ?_<;>intro h<;>first|exact h.elim|(exfalso; omega)|skip)|refine vs_ ?_ (by first|exact ⟨by (simp only [hnm, hsm, maxRow]; omega), by decide, by decide⟩|exact sd_)|refine dv_ ?_|exact fin_|(show ∃ _, _ ∧ _; refine ex_ ?_ (by first|with_reducible exact rfl|with_reducible exact sub_vm hlt2 he|exact hH'|with_reducible exact rd_st6|exact rd_))|(show ∃ _ _, _ ∧ _; refine ex2_ ?_ (by first|with_reducible exact rfl|with_reducible exact sub_vm hlt2 he|exact hH'|with_reducible exact rd_st6|exact rd_)))
          conv => whnf
          refine ⟨q + 1, by omega, by omega, ?_⟩
          rw [hn1, ← vcs_apps]
          (repeat' (conv => whnf)<;>first|exact True.intro|(refine if_ ?_ ?_<;>intro h<;>first|exact h.elim|(exfalso; omega)|skip)|refine vs_ ?_|refine dv_ ?_|exact fin_|(show ∃ _, _ ∧ _; refine ex_ ?_)|(show ∃ _ _, _ ∧ _; refine ex2_ ?_))
        · have : q = (stg a k).length := by omega
          rw [this, nxt_n, ← hs1]
          (repeat' (conv => whnf)<;>first|exact True.intro|(refine if_ ?_ ?_<;>intro h<;>first|exact h.elim|(exfalso; omega)|skip)|refine vs_ ?_|refine dv_ ?_|exact fin_|(show ∃ _, _ ∧ _; refine ex_ ?_)|(show ∃ _ _, _ ∧ _; refine ex2_ ?_))
          conv => whnf
          refine ⟨k + 1, by omega, by omega, ?_⟩
          (repeat' (conv => whnf)<;>first|exact True.intro|(refine if_ ?_ ?_<;>intro h<;>first|exact h.elim|(exfalso; omega)|skip)|refine vs_ ?_|refine dv_ ?_|exact fin_|(show ∃ _, _ ∧ _; refine ex_ ?_)|(show ∃ _ _, _ ∧ _; refine ex2_ ?_))
    · have : k = (fixL a).length := by omega
      rw [this, stg_n]
      (repeat' (conv => whnf)<;>first|exact True.intro|(refine if_ ?_ ?_<;>intro h<;>first|exact h.elim|(exfalso; omega)|skip)|refine vs_ ?_|refine dv_ ?_|exact fin_|(show ∃ _, _ ∧ _; refine ex_ ?_ (by first|with_reducible exact rfl|exact hS'|exact rd_))|(show ∃ _ _, _ ∧ _; refine ex2_ ?_ (by first|with_reducible exact rfl|exact hS'|exact rd_)))
end Go.X
