import Derived.Test.YtehopmcogekcoaaK4
import Derived.Test.YtehopmcogekcoaaK1
set_option linter.all false
namespace Go.X
open Go Go.RowKit
set_option maxRecDepth 100000
set_option maxHeartbeats 8000000
variable {P : Program} {N : FN}
theorem c_sHandle (hC : C_sCop P N) (hA : C_sAdd P N) (hB : C_sBasis P N) (hT : C_sTimes P N) (hf : isFn P N.spec_l02Handle (ir_spec_l02Handle N) = true) : C_sHandle P N := by
  intro a ha hs
  have hn := ha.n
  have hp2 := prime_bd ha.p
  have hC' := hC ha hs
  have hrw := sCop_rw ha
  have hl : (arr a.n.toNat (sCop a)).length = a.n.toNat := arr_len ..
  have hg : ∀ k, k < a.n.toNat → get2 (rowsL a.n.toNat (arr a.n.toNat (sCop a))) ((k : Nat) : Int).toNat 0 = some (rowD a.n.toNat (sCop a k)) := fun k hk => by
    rw [rd_rows (by omega), List.getD_eq_getElem?_getD, arr_get hk]; rfl
  let of : Nat → Nat → Nat → Int := fun k l => timesV a (basV k) (basV l)
  have hof : ∀ k l, Byts (of k l) := fun k l => (times_rw (a := a) (by omega) _ _).byt (by omega)
  have hT' : ∀ k j, Can P N.spec_l01Times [algD a, vecD (basV k), vecD (basV j)] (.val (vecD (of k j))) := fun k j => hT ha.b (basV_byt k) (basV_byt j) (by omega) (by omega)
  show Can P N.spec_l02Handle [algD a] (.val (vecD (pairR a.p (sCop a) of a.n.toNat a.n.toNat)))
  clear_value of
  refine can_of hf rfl rfl ?_
  (repeat' (conv => whnf) <;> first | exact True.intro | (refine if_ ?_ ?_ <;> intro h <;> first | exact h.elim | (exfalso; omega) | skip) | refine vs_ ?_ | refine dv_ ?_ | exact fin_ | (show ∃ _, _ ∧ _; refine ex_ ?_ (by first | with_reducible exact rfl | exact hC' | exact rd_)) | refine ex2_ ?_ (by first | with_reducible exact rfl | exact hC' | exact rd_) | fail)
  conv => whnf
  refine vc_loop (α := Nat) 0 (fun k => a.n.toNat - k) (fun k => k ≤ a.n.toNat) [] (fun k => [(3, .d (rowsD a.n.toNat (arr a.n.toNat (sCop a)))), (4, .ptr 5 6 0 0), (5, .d (.int .i64 k))]) (fun k => [(5, .data 6 [vecL (pairR a.p (sCop a) of a.n.toNat k)])]) lp_ ?_ ?_
  · (repeat' (conv => whnf) <;> first | exact True.intro | (refine if_ ?_ ?_ <;> intro h <;> first | exact h.elim | (exfalso; omega) | skip) | refine vs_ ?_ (by first | exact zeros6 (fun i _ => rfl) | exact sd_) | refine dv_ ?_ | exact fin_ | (show ∃ _, _ ∧ _; refine ex_ ?_) | refine ex2_ ?_ | fail)
  · intro k hk
    by_cases hlt : k < a.n.toNat
    · (repeat' (conv => whnf) <;> first | exact True.intro | (refine if_ ?_ ?_ <;> intro h <;> first | exact h.elim | (exfalso; omega) | skip) | refine vs_ ?_ | refine dv_ ?_ | exact fin_ | (show ∃ _, _ ∧ _; refine ex_ ?_) | refine ex2_ ?_ | fail)
      conv => whnf
      refine vc_loop (α := Nat) 0 (fun j => a.n.toNat - j) (fun j => j ≤ a.n.toNat) [] (fun j => [(3, .d (rowsD a.n.toNat (arr a.n.toNat (sCop a)))), (4, .ptr 5 6 0 0), (5, .d (.int .i64 k)), (6, .d (.int .i64 j))]) (fun j => [(5, .data 6 [vecL (pairC a.p (sCop a) of (pairR a.p (sCop a) of a.n.toNat k) k j)])]) lp_ ?_ ?_
      · (repeat' (conv => whnf) <;> first | exact True.intro | (refine if_ ?_ ?_ <;> intro h <;> first | exact h.elim | (exfalso; omega) | skip) | refine vs_ ?_ | refine dv_ ?_ | exact fin_ | (show ∃ _, _ ∧ _; refine ex_ ?_) | refine ex2_ ?_ | fail)
      · intro j hj
        have h1 := hrw k j
        have h2 := (pairC_rw (p := a.p) (B := sCop a) (of := of) (k := k) (by omega) (pairR_rw (p := a.p) (B := sCop a) (of := of) (n := a.n.toNat) (by omega) k) j).byt (by omega)
        by_cases hlt2 : j < a.n.toNat
        · (repeat' (conv => whnf) <;> first | exact True.intro | (refine if_ ?_ ?_ <;> intro h <;> first | exact h.elim | (exfalso; omega) | skip) | refine vs_ ?_ | refine dv_ ?_ | exact fin_ | (show ∃ _, _ ∧ _; refine ex_ ?_ (by first | with_reducible exact rfl | exact hB (by omega) | with_reducible exact hT' k j | with_reducible exact hg k hlt | exact hA h2 (hof k j) (by omega) (by omega) | exact rd_)) | refine ex2_ ?_ (by first | with_reducible exact rfl | exact hB (by omega) | with_reducible exact hT' k j | with_reducible exact hg k hlt | exact hA h2 (hof k j) (by omega) (by omega) | exact rd_) | fail)
          conv => whnf
          refine ⟨j + 1, by omega, by omega, ?_⟩
          (repeat' (conv => whnf) <;> first | exact True.intro | (refine if_ ?_ ?_ <;> intro h <;> first | exact h.elim | (exfalso; omega) | skip) | refine vs_ ?_ (by first | exact st_all | exact sd_) | refine dv_ ?_ | exact fin_ | (show ∃ _, _ ∧ _; refine ex_ ?_) | refine ex2_ ?_ | fail)
        · have : j = a.n.toNat := by omega
          rw [this]
          (repeat' (conv => whnf) <;> first | exact True.intro | (refine if_ ?_ ?_ <;> intro h <;> first | exact h.elim | (exfalso; omega) | skip) | refine vs_ ?_ | refine dv_ ?_ | exact fin_ | (show ∃ _, _ ∧ _; refine ex_ ?_) | refine ex2_ ?_ | fail)
          conv => whnf
          refine ⟨k + 1, by omega, by omega, ?_⟩
          (repeat' (conv => whnf) <;> first | exact True.intro | (refine if_ ?_ ?_ <;> intro h <;> first | exact h.elim | (exfalso; omega) | skip) | refine vs_ ?_ | refine dv_ ?_ | exact fin_ | (show ∃ _, _ ∧ _; refine ex_ ?_) | refine ex2_ ?_ | fail)
    · have : k = a.n.toNat := by omega
      rw [this]
      (repeat' (conv => whnf) <;> first | exact True.intro | (refine if_ ?_ ?_ <;> intro h <;> first | exact h.elim | (exfalso; omega) | skip) | refine vs_ ?_ | refine dv_ ?_ | exact fin_ | (show ∃ _, _ ∧ _; refine ex_ ?_) | refine ex2_ ?_ | fail)
theorem c_sHPower (hU : C_sUnit P N) (hH : C_sHandle P N) (hT : C_sTimes P N) (hf : isFn P N.spec_l02Power (ir_spec_l02Power N) = true) : C_sHPower P N := by
  intro a g ha hs hg
  have hn := ha.n
  have hp2 := prime_bd ha.p
  have hU' : Can P N.spec_l01Unit [algD a] (.val (vecD (sUnit a))) := hU ha
  have hH' := hH ha hs
  have hal := (algAt_one a).all
  refine can_of hf rfl rfl ?_
  (repeat' (conv => whnf) <;> first | exact True.intro | (refine if_ ?_ ?_ <;> intro h <;> first | exact h.elim | (exfalso; omega) | skip) | refine vs_ ?_ | refine dv_ ?_ | exact fin_ | (show ∃ _, _ ∧ _; refine ex_ ?_ (by first | with_reducible exact rfl | with_reducible exact hal | exact hU' | exact hH' | exact rd_)) | refine ex2_ ?_ (by first | with_reducible exact rfl | with_reducible exact hal | exact hU' | exact hH' | exact rd_) | fail)
  conv => whnf
  refine vc_loop (α := Nat) 0 (fun i => g - i) (fun i => i ≤ g) [] (fun i => [(1, .d (.int .i64 ((g - i : Nat) : Int)))]) (fun i => [(6, .data 6 [vecL (foldV a (sUnit a) (sHandle a) i)])]) lp_ ?_ ?_
  · (repeat' (conv => whnf) <;> first | exact True.intro | (refine if_ ?_ ?_ <;> intro h <;> first | exact h.elim | (exfalso; omega) | skip) | refine vs_ ?_ (by first | exact st_all (f := Z) | exact sd_) | refine dv_ ?_ | exact fin_ | (show ∃ _, _ ∧ _; refine ex_ ?_) | refine ex2_ ?_ | fail)
  · intro i hi
    by_cases hlt : i < g
    · have hT' := hT ha.b ((foldV_rw (b := sHandle a) (by omega) (sUnit_rw ha) i).byt (by omega)) ((sHandle_rw (a := a) (by omega)).byt (by omega)) (by omega) (by omega)
      (repeat' (conv => whnf) <;> first | exact True.intro | (refine if_ ?_ ?_ <;> intro h <;> first | exact h.elim | (exfalso; omega) | skip) | refine vs_ ?_ | refine dv_ ?_ | exact fin_ | (show ∃ _, _ ∧ _; refine ex_ ?_ (by first | with_reducible exact rfl | with_reducible exact hal | with_reducible exact rd_st6 | exact hT' | exact rd_)) | refine ex2_ ?_ (by first | with_reducible exact rfl | with_reducible exact hal | with_reducible exact rd_st6 | exact hT' | exact rd_) | fail)
      conv => whnf
      refine ⟨i + 1, by omega, by omega, ?_⟩
      (repeat' (conv => whnf) <;> first | exact True.intro | (refine if_ ?_ ?_ <;> intro h <;> first | exact h.elim | (exfalso; omega) | skip) | refine vs_ ?_ (by first | exact st_all | exact sd_) | refine dv_ ?_ | exact fin_ | (show ∃ _, _ ∧ _; refine ex_ ?_) | refine ex2_ ?_ | fail)
    · have : i = g := by omega
      subst this
      (repeat' (conv => whnf) <;> first | exact True.intro | (refine if_ ?_ ?_ <;> intro h <;> first | exact h.elim | (exfalso; omega) | skip) | refine vs_ ?_ | refine dv_ ?_ | exact fin_ | (show ∃ _, _ ∧ _; refine ex_ ?_) | refine ex2_ ?_ | fail)
theorem c_sBoundaryNumber (hO : C_sIs P N) (hG : C_sIn P N) (hW : C_sHPower P N) (hU : C_sUnit P N) (hZ : C_sUnzip P N) (hT : C_sTimes P N) (hF : C_sForm P N) (hf : isFn P N.spec_BoundaryNumber (ir_spec_BoundaryNumber N) = true) : C_sBoundaryNumber P N := by
  intro x g k hi hcol
  have hx := pairAt_one x
  have hO' := hO hi
  have hxa := hx.all
  have hxc := hx.c.all
  have hxo := hx.o.all
  by_cases is : sIsP x
  · rw [dB_t is] at hO' ⊢
    have ho := hi.o.ok is.1.2.1.1
    have hc := hi.c.ok is.1.1.1
    have hp2 := prime_bd hc.p
    have hq2 := prime_bd ho.p
    have hn := hc.n
    by_cases hg : 0 ≤ g ∧ g ≤ 30
    · have hG1 := can_dt (hG (n := g) (lo := 0) (hi := 30)) hg
      by_cases hk : 0 ≤ k ∧ k ≤ 30
      · have hG2 := can_dt (hG (n := k) (lo := 0) (hi := 30)) hk
        have e : bdR true g k (sBd x g.toNat k.toNat) = .tup [.int .i64 (sBd x g.toNat k.toNat), .int .i64 0] := by unfold bdR; rw [if_pos rfl, if_pos ⟨hg, hk⟩]
        rw [e]
        unfold sBd
        obtain ⟨g, rfl⟩ : ∃ q : Nat, g = q := ⟨g.toNat, by omega⟩
        obtain ⟨k, rfl⟩ : ∃ q : Nat, k = q := ⟨k.toNat, by omega⟩
        rw [Int.toNat_natCast, Int.toNat_natCast]
        have ru := sUnit_rw ho
        have h2 := hW (g := g) hc (hcol is) (by omega)
        have h3 : Can P N.spec_l01Unit [algD x.o] (.val (vecD (sUnit x.o))) := hU ho
        have h4 := hZ hc ho (hcol is) hi.z (ru.byt (by omega))
        have rU : Rw x.c.p (sUnzip x (sUnit x.o)) := uzT_rw (by omega) _
        have r0 : Rw x.c.p (foldV x.c (sUnit x.c) (sHandle x.c) g) := foldV_rw (by omega) (sUnit_rw hc) g
        have r1 : ∀ i, Rw x.c.p (foldV x.c (foldV x.c (sUnit x.c) (sHandle x.c) g) (sUnzip x (sUnit x.o)) i) := fun i => foldV_rw (by omega) r0 i
        generalize sUnzip x (sUnit x.o) = b at *
        generalize foldV x.c (sUnit x.c) (sHandle x.c) g = y at *
        generalize sUnit x.o = u at *
        refine can_of hf rfl rfl ?_
        (repeat' (conv => whnf) <;> first | exact True.intro | (refine if_ ?_ ?_ <;> intro h <;> first | exact h.elim | (exfalso; omega) | skip) | refine vs_ ?_ | refine dv_ ?_ | exact fin_ | (show ∃ _, _ ∧ _; refine ex_ ?_ (by first | with_reducible exact rfl | with_reducible exact hxa | with_reducible exact hxc | with_reducible exact hxo | exact hO' | exact hG1 | exact hG2 | exact h2 | exact h3 | exact h4 | exact rd_)) | refine ex2_ ?_ (by first | with_reducible exact rfl | with_reducible exact hxa | with_reducible exact hxc | with_reducible exact hxo | exact hO' | exact hG1 | exact hG2 | exact h2 | exact h3 | exact h4 | exact rd_) | fail)
        conv => whnf
        refine vc_loop (α := Nat) 0 (fun i => k - i) (fun i => i ≤ k) [] (fun i => [(2, .d (.int .i64 ((k - i : Nat) : Int)))]) (fun i => [(9, .data 6 [vecL (foldV x.c y b i)])]) lp_ ?_ ?_
        · (repeat' (conv => whnf) <;> first | exact True.intro | (refine if_ ?_ ?_ <;> intro h <;> first | exact h.elim | (exfalso; omega) | skip) | refine vs_ ?_ (by first | exact st_all (f := Z) | exact sd_) | refine dv_ ?_ | exact fin_ | (show ∃ _, _ ∧ _; refine ex_ ?_) | refine ex2_ ?_ | fail)
        · intro i hi
          by_cases hlt : i < k
          · have hT' := hT hc.b ((r1 i).byt (by omega)) (rU.byt (by omega)) (by omega) (by omega)
            (repeat' (conv => whnf) <;> first | exact True.intro | (refine if_ ?_ ?_ <;> intro h <;> first | exact h.elim | (exfalso; omega) | skip) | refine vs_ ?_ | refine dv_ ?_ | exact fin_ | (show ∃ _, _ ∧ _; refine ex_ ?_ (by first | with_reducible exact rfl | with_reducible exact hxc | with_reducible exact rd_st6 | exact hT' | exact rd_)) | refine ex2_ ?_ (by first | with_reducible exact rfl | with_reducible exact hxc | with_reducible exact rd_st6 | exact hT' | exact rd_) | fail)
            conv => whnf
            refine ⟨i + 1, by omega, by omega, ?_⟩
            (repeat' (conv => whnf) <;> first | exact True.intro | (refine if_ ?_ ?_ <;> intro h <;> first | exact h.elim | (exfalso; omega) | skip) | refine vs_ ?_ (by first | exact st_all | exact sd_) | refine dv_ ?_ | exact fin_ | (show ∃ _, _ ∧ _; refine ex_ ?_) | refine ex2_ ?_ | fail)
          · have : i = k := by omega
            subst this
            have h7 := hF hc.b ((r1 i).byt (by omega)) (by omega)
            (repeat' (conv => whnf) <;> first | exact True.intro | (refine if_ ?_ ?_ <;> intro h <;> first | exact h.elim | (exfalso; omega) | skip) | refine vs_ ?_ | refine dv_ ?_ | exact fin_ | (show ∃ _, _ ∧ _; refine ex_ ?_ (by first | with_reducible exact rfl | with_reducible exact hxc | exact h7 | exact rd_)) | refine ex2_ ?_ (by first | with_reducible exact rfl | with_reducible exact hxc | exact h7 | exact rd_) | fail)
      · have hG2 := can_df (hG (n := k) (lo := 0) (hi := 30)) hk
        have e : ∀ v, bdR true g k v = .tup [.int .i64 0, .int .i64 2] := fun v => by unfold bdR; rw [if_pos rfl, if_neg (fun h => hk h.2)]
        rw [e]
        refine can_of hf rfl rfl ?_
        (repeat' (conv => whnf) <;> first | exact True.intro | (refine if_ ?_ ?_ <;> intro h <;> first | exact h.elim | (exfalso; omega) | skip) | refine vs_ ?_ | refine dv_ ?_ | exact fin_ | (show ∃ _, _ ∧ _; refine ex_ ?_ (by first | with_reducible exact rfl | with_reducible exact hxa | exact hO' | exact hG1 | exact hG2 | exact rd_)) | refine ex2_ ?_ (by first | with_reducible exact rfl | with_reducible exact hxa | exact hO' | exact hG1 | exact hG2 | exact rd_) | fail)
    · have hG1 := can_df (hG (n := g) (lo := 0) (hi := 30)) hg
      have e : ∀ v, bdR true g k v = .tup [.int .i64 0, .int .i64 2] := fun v => by unfold bdR; rw [if_pos rfl, if_neg (fun h => hg h.1)]
      rw [e]
      refine can_of hf rfl rfl ?_
      (repeat' (conv => whnf) <;> first | exact True.intro | (refine if_ ?_ ?_ <;> intro h <;> first | exact h.elim | (exfalso; omega) | skip) | refine vs_ ?_ | refine dv_ ?_ | exact fin_ | (show ∃ _, _ ∧ _; refine ex_ ?_ (by first | with_reducible exact rfl | with_reducible exact hxa | exact hO' | exact hG1 | exact rd_)) | refine ex2_ ?_ (by first | with_reducible exact rfl | with_reducible exact hxa | exact hO' | exact hG1 | exact rd_) | fail)
  · rw [dB_f is] at hO' ⊢
    have e : ∀ v, bdR false g k v = .tup [.int .i64 0, .int .i64 1] := fun v => rfl
    rw [e]
    refine can_of hf rfl rfl ?_
    (repeat' (conv => whnf) <;> first | exact True.intro | (refine if_ ?_ ?_ <;> intro h <;> first | exact h.elim | (exfalso; omega) | skip) | refine vs_ ?_ | refine dv_ ?_ | exact fin_ | (show ∃ _, _ ∧ _; refine ex_ ?_ (by first | with_reducible exact rfl | with_reducible exact hxa | exact hO' | exact rd_)) | refine ex2_ ?_ (by first | with_reducible exact rfl | with_reducible exact hxa | exact hO' | exact rd_) | fail)
end Go.X
namespace Go.X
open Go Go.RowKit
set_option maxRecDepth 100000
set_option maxHeartbeats 8000000
variable {P : Program} {N : FN}
theorem c_paired1 (hC : C_copairing P N) (hA : C_add P N) (hf : isFn P N.impl_Algebra_paired (ir_impl_Algebra_paired N) = true) : C_paired1 P N := by
  intro sz l e off a g c of hat ha hb hof
  have hn := ha.n
  have hp2 := prime_bd ha.p
  have hC' := hC (sz := sz) hat ha
  have hlen := iCop_len ha
  have hrw := iCop_rw ha
  refine can_of hf rfl rfl ?_
  generalize iCop a = B at *
  (repeat' (conv => whnf) <;> first | exact True.intro | (refine if_ ?_ ?_ <;> intro h <;> first | exact h.elim | (exfalso; omega) | skip) | refine vs_ ?_ | refine dv_ ?_ | exact fin_ | (show ∃ _, _ ∧ _; refine ex_ ?_ (by first | with_reducible exact rfl | exact hC' | exact rd_)) | refine ex2_ ?_ (by first | with_reducible exact rfl | exact hC' | exact rd_) | fail)
  conv => whnf
  refine vc_loop (α := Nat) 0 (fun k => B.length - k) (fun k => k ≤ B.length) [] (fun k => [(5, .ptr 6 6 0 0), (12, .d (rowsD a.n.toNat B)), (13, .d (.int .i64 B.length)), (14, .d (.int .i64 k))]) (fun k => [(6, .data 6 [vecL (pairR a.p (fun k => B.getD k Z) of a.n.toNat k)])]) lp_ ?_ ?_
  · (repeat' (conv => whnf) <;> first | exact True.intro | (refine if_ ?_ ?_ <;> intro h <;> first | exact h.elim | (exfalso; omega) | skip) | refine vs_ ?_ (by first | exact zeros6 (fun i _ => rfl) | exact sd_) | refine dv_ ?_ | exact fin_ | (show ∃ _, _ ∧ _; refine ex_ ?_) | refine ex2_ ?_ | fail)
  · intro k hk
    by_cases hlt : k < B.length
    · (repeat' (conv => whnf) <;> first | exact True.intro | (refine if_ ?_ ?_ <;> intro h <;> first | exact h.elim | (exfalso; omega) | skip) | refine vs_ ?_ | refine dv_ ?_ | exact fin_ | (show ∃ _, _ ∧ _; refine ex_ ?_) | refine ex2_ ?_ | fail)
      conv => whnf
      refine vc_loop (α := Nat) 0 (fun j => a.n.toNat - j) (fun j => j ≤ a.n.toNat) [] (fun j => [(5, .ptr 6 6 0 0), (6, .d (.int .i64 k)), (12, .d (rowsD a.n.toNat B)), (13, .d (.int .i64 B.length)), (14, .d (.int .i64 k)), (19, .d (rowD a.n.toNat (B.getD k Z))), (20, .d (.int .i64 a.n.toNat)), (21, .d (.int .i64 j))]) (fun j => [(6, .data 6 [vecL (pairC a.p (fun k => B.getD k Z) of (pairR a.p (fun k => B.getD k Z) of a.n.toNat k) k j)])]) lp_ ?_ ?_
      · (repeat' (conv => whnf) <;> first | exact True.intro | (refine if_ ?_ ?_ <;> intro h <;> first | exact h.elim | (exfalso; omega) | skip) | refine vs_ ?_ | refine dv_ ?_ | exact fin_ | (show ∃ _, _ ∧ _; refine ex_ ?_) | refine ex2_ ?_ | fail)
      · intro j hj
        have h1 := hrw k j
        have h2 := (pairC_rw (p := a.p) (B := fun k => B.getD k Z) (of := of) (k := k) (by omega) (pairR_rw (p := a.p) (B := fun k => B.getD k Z) (of := of) (n := a.n.toNat) (by omega) k) j).byt (by omega)
        by_cases hlt2 : j < a.n.toNat
        · (repeat' (conv => whnf) <;> first | exact True.intro | (refine if_ ?_ ?_ <;> intro h <;> first | exact h.elim | (exfalso; omega) | skip) | refine vs_ ?_ | refine dv_ ?_ | exact fin_ | (show ∃ _, _ ∧ _; refine ex_ ?_ (by first | with_reducible exact rfl | exact hof k j hlt hlt2 | exact hA hat h2 (hb k j) (by omega) (by omega) | exact rd_)) | refine ex2_ ?_ (by first | with_reducible exact rfl | exact hof k j hlt hlt2 | exact hA hat h2 (hb k j) (by omega) (by omega) | exact rd_) | fail)
          conv => whnf
          refine ⟨j + 1, by omega, by omega, ?_⟩
          (repeat' (conv => whnf) <;> first | exact True.intro | (refine if_ ?_ ?_ <;> intro h <;> first | exact h.elim | (exfalso; omega) | skip) | refine vs_ ?_ (by first | exact st_all | exact sd_) | refine dv_ ?_ | exact fin_ | (show ∃ _, _ ∧ _; refine ex_ ?_) | refine ex2_ ?_ | fail)
        · have : j = a.n.toNat := by omega
          rw [this]
          (repeat' (conv => whnf) <;> first | exact True.intro | (refine if_ ?_ ?_ <;> intro h <;> first | exact h.elim | (exfalso; omega) | skip) | refine vs_ ?_ | refine dv_ ?_ | exact fin_ | (show ∃ _, _ ∧ _; refine ex_ ?_) | refine ex2_ ?_ | fail)
          conv => whnf
          refine ⟨k + 1, by omega, by omega, ?_⟩
          (repeat' (conv => whnf) <;> first | exact True.intro | (refine if_ ?_ ?_ <;> intro h <;> first | exact h.elim | (exfalso; omega) | skip) | refine vs_ ?_ | refine dv_ ?_ | exact fin_ | (show ∃ _, _ ∧ _; refine ex_ ?_) | refine ex2_ ?_ | fail)
    · have : k = B.length := by omega
      rw [← this]
      (repeat' (conv => whnf) <;> first | exact True.intro | (refine if_ ?_ ?_ <;> intro h <;> first | exact h.elim | (exfalso; omega) | skip) | refine vs_ ?_ | refine dv_ ?_ | exact fin_ | (show ∃ _, _ ∧ _; refine ex_ ?_) | refine ex2_ ?_ | fail)
theorem c_handle1 (hf : isFn P N.impl_Algebra_handle_1 (ir_impl_Algebra_handle_1 N) = true) : C_handle1 P N := by
  intro sz l e off a k j ha hk hj
  refine can_of hf rfl rfl ?_
  (repeat' (conv => whnf) <;> first | exact True.intro | (refine if_ ?_ ?_ <;> intro h <;> first | exact h.elim | (exfalso; omega) | skip) | refine vs_ ?_ | refine dv_ ?_ | exact fin_ | (show ∃ _, _ ∧ _; refine ex_ ?_) | refine ex2_ ?_ | fail)
theorem c_handle (hP : C_paired1 P N) (h1 : C_handle1 P N) (hf : isFn P N.impl_Algebra_handle (ir_impl_Algebra_handle N) = true) : C_handle P N := by
  intro sz l e off a hat ha
  have hp2 := prime_bd ha.p
  have hn := ha.n
  have hlen := iCop_len ha
  have hP' := hP (sz := sz) (g := N.impl_Algebra_handle_1) (c := .pd 1 [[.pd sz l e off]] 0 0) (of := a.T) hat ha (fun k l => ha.b.1 k l) (fun k j hk hj => h1 hat (by omega) (by omega))
  refine can_of hf rfl rfl ?_
  (repeat' (conv => whnf) <;> first | exact True.intro | (refine if_ ?_ ?_ <;> intro h <;> first | exact h.elim | (exfalso; omega) | skip) | refine vs_ ?_ | refine dv_ ?_ | exact fin_ | (show ∃ _, _ ∧ _; refine ex_ ?_ (by first | with_reducible exact rfl | exact hP' | exact rd_)) | refine ex2_ ?_ (by first | with_reducible exact rfl | exact hP' | exact rd_) | fail)
theorem c_isGenus (hI : C_in P N) (hf : isFn P N.impl_isGenus (ir_impl_isGenus N) = true) : C_isGenus P N := by
  intro g
  refine can_of hf rfl rfl ?_
  (repeat' (conv => whnf) <;> first | exact True.intro | (refine if_ ?_ ?_ <;> intro h <;> first | exact h.elim | (exfalso; omega) | skip) | refine vs_ ?_ | refine dv_ ?_ | exact fin_ | (show ∃ _, _ ∧ _; refine ex_ ?_ (by first | with_reducible exact rfl | exact hI | exact rd_)) | refine ex2_ ?_ (by first | with_reducible exact rfl | exact hI | exact rd_) | fail)
theorem c_vpower (hU : C_unit P N) (hT : C_times P N) (hf : isFn P N.impl_Algebra_power (ir_impl_Algebra_power N) = true) : C_vpower P N := by
  intro sz l e off a v k hat ha hv hk
  have hp2 := prime_bd ha.p
  have hn := ha.n
  have hU' : Can P N.impl_Algebra_unit [.pd sz l e off] (.val (vecD (iUnit a))) := hU hat ha
  have ru := iUnit_rw ha
  refine can_of hf rfl rfl ?_
  (repeat' (conv => whnf) <;> first | exact True.intro | (refine if_ ?_ ?_ <;> intro h <;> first | exact h.elim | (exfalso; omega) | skip) | refine vs_ ?_ | refine dv_ ?_ | exact fin_ | (show ∃ _, _ ∧ _; refine ex_ ?_ (by first | with_reducible exact rfl | exact hU' | exact rd_)) | refine ex2_ ?_ (by first | with_reducible exact rfl | exact hU' | exact rd_) | fail)
  conv => whnf
  refine vc_loop (α := Nat) 0 (fun i => k - i) (fun i => i ≤ k) [] (fun i => [(10, .d (.int .i64 k)), (11, .d (.int .i64 i))]) (fun i => [(8, .data 6 [vecL (foldV a (iUnit a) v i)])]) lp_ ?_ ?_
  · (repeat' (conv => whnf) <;> first | exact True.intro | (refine if_ ?_ ?_ <;> intro h <;> first | exact h.elim | (exfalso; omega) | skip) | refine vs_ ?_ (by first | exact st_all (f := Z) | exact sd_) | refine dv_ ?_ | exact fin_ | (show ∃ _, _ ∧ _; refine ex_ ?_) | refine ex2_ ?_ | fail)
  · intro i hi
    by_cases hlt : i < k
    · have hT' := hT (sz := sz) hat ha.b ((foldV_rw (b := v) (by omega) ru i).byt (by omega)) hv (by omega) (by omega)
      (repeat' (conv => whnf) <;> first | exact True.intro | (refine if_ ?_ ?_ <;> intro h <;> first | exact h.elim | (exfalso; omega) | skip) | refine vs_ ?_ | refine dv_ ?_ | exact fin_ | (show ∃ _, _ ∧ _; refine ex_ ?_ (by first | with_reducible exact rfl | exact hT' | exact rd_)) | refine ex2_ ?_ (by first | with_reducible exact rfl | exact hT' | exact rd_) | fail)
      conv => whnf
      refine ⟨i + 1, by omega, by omega, ?_⟩
      (repeat' (conv => whnf) <;> first | exact True.intro | (refine if_ ?_ ?_ <;> intro h <;> first | exact h.elim | (exfalso; omega) | skip) | refine vs_ ?_ (by first | exact st_all | exact sd_) | refine dv_ ?_ | exact fin_ | (show ∃ _, _ ∧ _; refine ex_ ?_) | refine ex2_ ?_ | fail)
    · have : i = k := by omega
      subst this
      (repeat' (conv => whnf) <;> first | exact True.intro | (refine if_ ?_ ?_ <;> intro h <;> first | exact h.elim | (exfalso; omega) | skip) | refine vs_ ?_ | refine dv_ ?_ | exact fin_ | (show ∃ _, _ ∧ _; refine ex_ ?_) | refine ex2_ ?_ | fail)
theorem c_BoundaryNumber (hO : C_openedE P N) (hG : C_isGenus P N) (hH : C_handle P N) (hW : C_vpower P N) (hU : C_unit P N) (hZ : C_unzip P N) (hT : C_times P N) (hF : C_form P N) (hf : isFn P N.impl_BoundaryNumber (ir_impl_BoundaryNumber N) = true) : C_BoundaryNumber P N := by
  intro x g k hi
  have hx := pairAt_one x
  have hO' := hO hi
  have hxa := hx.all
  have hxc := hx.c
  have hxo := hx.o
  by_cases is : IsPairP x
  · rw [dB_t is] at hO' ⊢
    rw [if_pos rfl] at hO'
    have ho := hi.o.alg is.1.2.1
    have hc := hi.c.alg is.1.1
    have hp2 := prime_bd hc.p
    have hq2 := prime_bd ho.p
    have hn := hc.n
    by_cases hg : 0 ≤ g ∧ g ≤ 30
    · have hG1 := can_dt (hG (g := g)) hg
      by_cases hk : 0 ≤ k ∧ k ≤ 30
      · have hG2 := can_dt (hG (g := k)) hk
        have e : bdR true g k (iBd x g.toNat k.toNat) = .tup [.int .i64 (iBd x g.toNat k.toNat), .int .i64 0] := by unfold bdR; rw [if_pos rfl, if_pos ⟨hg, hk⟩]
        rw [e]
        unfold iBd
        obtain ⟨g, rfl⟩ : ∃ q : Nat, g = q := ⟨g.toNat, by omega⟩
        obtain ⟨k, rfl⟩ : ∃ q : Nat, k = q := ⟨k.toNat, by omega⟩
        rw [Int.toNat_natCast, Int.toNat_natCast]
        have h1 := hH (sz := (pairL x).length) hxc hc
        have h2 := hW (sz := (pairL x).length) (k := g) hxc hc ((iHandle_rw (a := x.c) (by omega)).byt (by omega)) (by omega)
        have h3 : Can P N.impl_Algebra_unit [.pd (pairL x).length [pairL x] 0 (0 + 224)] (.val (vecD (iUnit x.o))) := hU hxo ho
        have h4 := hZ (sz := (pairL x).length) hx hc ho hi.z ((iUnit_rw ho).byt (by omega))
        have rU : Rw x.c.p (iUnzip x (iUnit x.o)) := uzR_rw (by omega) _
        have h5 := hW (sz := (pairL x).length) (k := k) hxc hc (rU.byt (by omega)) (by omega)
        have r1 : Rw x.c.p (foldV x.c (iUnit x.c) (iHandle x.c) g) := foldV_rw (by omega) (iUnit_rw hc) g
        have r2 : Rw x.c.p (foldV x.c (iUnit x.c) (iUnzip x (iUnit x.o)) k) := foldV_rw (by omega) (iUnit_rw hc) k
        have h6 := hT (sz := (pairL x).length) hxc hc.b (r1.byt (by omega)) (r2.byt (by omega)) (by omega) (by omega)
        have h7 := hF (sz := (pairL x).length) hxc hc.b ((times_rw (a := x.c) (by omega) (foldV x.c (iUnit x.c) (iHandle x.c) g) (foldV x.c (iUnit x.c) (iUnzip x (iUnit x.o)) k)).byt (by omega)) (by omega)
        refine can_of hf rfl rfl ?_
        (repeat' (conv => whnf) <;> first | exact True.intro | (refine if_ ?_ ?_ <;> intro h <;> first | exact h.elim | (exfalso; omega) | skip) | refine vs_ ?_ | refine dv_ ?_ | exact fin_ | (show ∃ _, _ ∧ _; refine ex_ ?_ (by first | with_reducible exact rfl | with_reducible exact hxa | exact hO' | exact hG1 | exact hG2 | exact h1 | exact h2 | exact h3 | exact h4 | exact h5 | exact h6 | exact h7 | exact rd_)) | refine ex2_ ?_ (by first | with_reducible exact rfl | with_reducible exact hxa | exact hO' | exact hG1 | exact hG2 | exact h1 | exact h2 | exact h3 | exact h4 | exact h5 | exact h6 | exact h7 | exact rd_) | fail)
      · have hG2 := can_df (hG (g := k)) hk
        have e : ∀ v, bdR true g k v = .tup [.int .i64 0, .int .i64 2] := fun v => by unfold bdR; rw [if_pos rfl, if_neg (fun h => hk h.2)]
        rw [e]
        refine can_of hf rfl rfl ?_
        (repeat' (conv => whnf) <;> first | exact True.intro | (refine if_ ?_ ?_ <;> intro h <;> first | exact h.elim | (exfalso; omega) | skip) | refine vs_ ?_ | refine dv_ ?_ | exact fin_ | (show ∃ _, _ ∧ _; refine ex_ ?_ (by first | with_reducible exact rfl | with_reducible exact hxa | exact hO' | exact hG1 | exact hG2 | exact rd_)) | refine ex2_ ?_ (by first | with_reducible exact rfl | with_reducible exact hxa | exact hO' | exact hG1 | exact hG2 | exact rd_) | fail)
    · have hG1 := can_df (hG (g := g)) hg
      have e : ∀ v, bdR true g k v = .tup [.int .i64 0, .int .i64 2] := fun v => by unfold bdR; rw [if_pos rfl, if_neg (fun h => hg h.1)]
      rw [e]
      refine can_of hf rfl rfl ?_
      (repeat' (conv => whnf) <;> first | exact True.intro | (refine if_ ?_ ?_ <;> intro h <;> first | exact h.elim | (exfalso; omega) | skip) | refine vs_ ?_ | refine dv_ ?_ | exact fin_ | (show ∃ _, _ ∧ _; refine ex_ ?_ (by first | with_reducible exact rfl | with_reducible exact hxa | exact hO' | exact hG1 | exact rd_)) | refine ex2_ ?_ (by first | with_reducible exact rfl | with_reducible exact hxa | exact hO' | exact hG1 | exact rd_) | fail)
  · rw [dB_f is] at hO' ⊢
    rw [if_neg (by simp)] at hO'
    have e : ∀ v, bdR false g k v = .tup [.int .i64 0, .int .i64 1] := fun v => rfl
    rw [e]
    refine can_of hf rfl rfl ?_
    (repeat' (conv => whnf) <;> first | exact True.intro | (refine if_ ?_ ?_ <;> intro h <;> first | exact h.elim | (exfalso; omega) | skip) | refine vs_ ?_ | refine dv_ ?_ | exact fin_ | (show ∃ _, _ ∧ _; refine ex_ ?_ (by first | with_reducible exact rfl | with_reducible exact hxa | exact hO' | exact rd_)) | refine ex2_ ?_ (by first | with_reducible exact rfl | with_reducible exact hxa | exact hO' | exact rd_) | fail)
end Go.X
