import Derived.Test.YtphelkciklpakaaW15
import Derived.Test.YtphelkciklpakaaW2
import Derived.Test.YtphelkciklpakaaK1
set_option linter.all false
namespace Go.X
open Go Go.RowKit
set_option maxRecDepth 100000
set_option maxHeartbeats 8000000
set_option linter.unusedVariables false
set_option linter.unusedSimpArgs false
variable {P : Program} {N : FN}
def backR (a : Alg) (v : Row) (k : Nat) : Row := fun j => if j < a.n.toNat then timesV a (basV j) v k else sUnit a k
def backL (a : Alg) (v : Row) (k : Nat) : List Row := arr k (backR a v)
noncomputable def backV (a : Alg) (v : Row) : Row × Bool := match sSolveF a.p a.n.toNat (backL a v a.n.toNat) with
  | none => (Z, false)
  | some r => (vecR a.n.toNat r, dB (VEq (timesV a v (vecR a.n.toNat r)) (sUnit a)))
def C_sBack (P : Program) (N : FN) : Prop := ∀ {a : Alg} {v : Row}, AlgOk a → Byts v → Can P N.spec_l01Back [algD a, vecD v] (.tup [vecD (backV a v).1, .bool (backV a v).2])
theorem backR_rw {a : Alg} (h : AlgOk a) (v : Row) (k : Nat) : Rw a.p (backR a v k) := fun j => by
  have hp := prime_bd h.p
  have hu := sUnit_rw h
  unfold backR
  split
  · exact times_rw (by omega) _ _ k
  · exact hu k
theorem backL_rw {a : Alg} (h : AlgOk a) (v : Row) (k : Nat) : RwL a.p (backL a v k) := fun r hr => by
  unfold backL at hr
  obtain ⟨i, _, rfl⟩ := List.mem_map.1 hr
  exact backR_rw h v i
theorem c_sBack (hS : C_sSolve P N) (hU : C_sUnit P N) (hB : C_sBasis P N) (hT : C_sTimes P N) (hf : isFn P N.spec_l01Back (ir_spec_l01Back N) = true) : C_sBack P N := by
  intro a v ha hv
  have hp := prime_bd ha.p
  have hn := ha.n
  have hb := ha.b
  have f1 := (algAt_one a).n
  have f0 := (algAt_one a).p
  have fa := (algAt_one a).all
  have ru := sUnit_rw ha
  have hU' : Can P N.spec_l01Unit [algD a] (.val (vecD (sUnit a))) := hU ha
  obtain ⟨n, en⟩ : ∃ n : Nat, a.n = n := ⟨a.n.toNat, by omega⟩
  have en' : a.n.toNat = n := by omega
  have hll : (backL a v n).length = n := arr_len ..
  have hS' := hS (n := n) (L := backL a v n) (by omega) (by omega) ha.p (backL_rw ha v n)
  have hsv : ∀ r, sSolveF a.p n (backL a v n) = some r → Rw a.p r := fun r h => sol_rw ha.p (backL_rw ha v n) h
  unfold backV
  rw [en']
  generalize hsol : sSolveF a.p n (backL a v n) = sol at *
  refine can_of hf rfl (by cases sol <;> rfl) ?_
  (repeat' (conv => whnf)<;>first|exact True.intro|(refine if_ ?_ ?_<;>intro h<;>first|exact h.elim|(exfalso; omega)|skip)|refine vs_ ?_|refine dv_ ?_|exact fin_|(show ∃ _, _ ∧ _; refine ex_ ?_ (by first|with_reducible exact rfl|with_reducible exact fa|exact hU'|exact rd_))|(show ∃ _ _, _ ∧ _; refine ex2_ ?_ (by first|with_reducible exact rfl|with_reducible exact fa|exact hU'|exact rd_)))
  conv => whnf
  refine vc_loop (α := Nat) 0 (fun k => n - k) (fun k => k ≤ n) [] (fun k => [(7, .row 8 1), (8, .d (.int .i64 k))]) (fun k => [(8, nestC (fun k => row (n + 1) (backR a v k)) k)]) lp_ ?_ ?_
  · (repeat' (conv => whnf)<;>first|exact True.intro|(refine if_ ?_ ?_<;>intro h<;>first|exact h.elim|(exfalso; omega)|skip)|refine vs_ ?_|refine dv_ ?_|exact fin_|(show ∃ _, _ ∧ _; refine ex_ ?_)|(show ∃ _ _, _ ∧ _; refine ex2_ ?_))
  · rintro (_ | k) hk
    · (repeat' (conv => whnf)<;>first|exact True.intro|(refine if_ ?_ ?_<;>intro h<;>first|exact h.elim|(exfalso; omega)|skip)|refine vs_ ?_|refine dv_ ?_|exact fin_|(show ∃ _, _ ∧ _; refine ex_ ?_ (by first|with_reducible exact rfl|with_reducible exact f1|exact rd_))|(show ∃ _ _, _ ∧ _; refine ex2_ ?_ (by first|with_reducible exact rfl|with_reducible exact f1|exact rd_)))
      conv => whnf
      refine vc_loop (α := Nat) 0 (fun j => n - j) (fun j => j ≤ n) [] (fun j => [(7, .row 8 1), (8, .d (.int .i64 (0 : Nat))), (9, .row 10 1), (10, .d (.int .i64 j))]) (fun j => [(8, .data 1 []), (10, .data 1 (row j (backR a v 0)))]) lp_ ?_ ?_
      · (repeat' (conv => whnf)<;>first|exact True.intro|(refine if_ ?_ ?_<;>intro h<;>first|exact h.elim|(exfalso; omega)|skip)|refine vs_ ?_|refine dv_ ?_|exact fin_|(show ∃ _, _ ∧ _; refine ex_ ?_)|(show ∃ _ _, _ ∧ _; refine ex2_ ?_))
      · intro j hj
        by_cases hlt2 : j < n
        · have B1 := hB (i := j) (by omega)
          have T1 := hT (a := a) hb (basV_byt j) hv (by omega) (by omega)
          have w1 := times_rw (a := a) (by omega) (basV j) v 0
          (repeat' (conv => whnf)<;>first|exact True.intro|(refine if_ ?_ ?_<;>intro h<;>first|exact h.elim|(exfalso; omega)|skip)|refine vs_ ?_|refine dv_ ?_|exact fin_|(show ∃ _, _ ∧ _; refine ex_ ?_ (by first|with_reducible exact rfl|with_reducible exact f1|with_reducible exact fa|exact B1|exact T1|exact rd_))|(show ∃ _ _, _ ∧ _; refine ex2_ ?_ (by first|with_reducible exact rfl|with_reducible exact f1|with_reducible exact fa|exact B1|exact T1|exact rd_)))
          conv => whnf
          refine ⟨j + 1, by omega, by omega, ?_⟩
          (repeat' (conv => whnf)<;>first|exact True.intro|(refine if_ ?_ ?_<;>intro h<;>first|exact h.elim|(exfalso; omega)|skip)|refine vs_ ?_ (by first|exact row_app (by unfold backR; rw [if_pos (by omega)])|exact sd_)|refine dv_ ?_|exact fin_|(show ∃ _, _ ∧ _; refine ex_ ?_)|(show ∃ _ _, _ ∧ _; refine ex2_ ?_))
        · have : j = n := by omega
          subst this
          have u1 := ru 0
          (repeat' (conv => whnf)<;>first|exact True.intro|(refine if_ ?_ ?_<;>intro h<;>first|exact h.elim|(exfalso; omega)|skip)|refine vs_ ?_|refine dv_ ?_|exact fin_|(show ∃ _, _ ∧ _; refine ex_ ?_ (by first|with_reducible exact rfl|with_reducible exact f1|exact rd_vi (i := 0) (by omega)|exact rd_))|(show ∃ _ _, _ ∧ _; refine ex2_ ?_ (by first|with_reducible exact rfl|with_reducible exact f1|exact rd_vi (i := 0) (by omega)|exact rd_)))
          conv => whnf
          refine ⟨1, by omega, by omega, ?_⟩
          (repeat' (conv => whnf)<;>first|exact True.intro|(refine if_ ?_ ?_<;>intro h<;>first|exact h.elim|(exfalso; omega)|skip)|refine vs_ ?_ (by first|exact nest_put0 (row_app' (by unfold backR; rw [if_neg (by omega)]))|exact sd_)|refine dv_ ?_|exact fin_|(show ∃ _, _ ∧ _; refine ex_ ?_)|(show ∃ _ _, _ ∧ _; refine ex2_ ?_))
    · by_cases hlt : k + 1 < n
      · (repeat' (conv => whnf)<;>first|exact True.intro|(refine if_ ?_ ?_<;>intro h<;>first|exact h.elim|(exfalso; omega)|skip)|refine vs_ ?_|refine dv_ ?_|exact fin_|(show ∃ _, _ ∧ _; refine ex_ ?_ (by first|with_reducible exact rfl|with_reducible exact f1|exact rd_))|(show ∃ _ _, _ ∧ _; refine ex2_ ?_ (by first|with_reducible exact rfl|with_reducible exact f1|exact rd_)))
        conv => whnf
        refine vc_loop (α := Nat) 0 (fun j => n - j) (fun j => j ≤ n) [] (fun j => [(7, .row 8 1), (8, .d (.int .i64 (k + 1 : Nat))), (9, .row 10 1), (10, .d (.int .i64 j))]) (fun j => [(8, .nest 1 (arr (k + 1) fun k => row (n + 1) (backR a v k)) none), (10, .data 1 (row j (backR a v (k + 1))))]) lp_ ?_ ?_
        · (repeat' (conv => whnf)<;>first|exact True.intro|(refine if_ ?_ ?_<;>intro h<;>first|exact h.elim|(exfalso; omega)|skip)|refine vs_ ?_|refine dv_ ?_|exact fin_|(show ∃ _, _ ∧ _; refine ex_ ?_)|(show ∃ _ _, _ ∧ _; refine ex2_ ?_))
        · intro j hj
          by_cases hlt2 : j < n
          · have B1 := hB (i := j) (by omega)
            have T1 := hT (a := a) hb (basV_byt j) hv (by omega) (by omega)
            have w1 := times_rw (a := a) (by omega) (basV j) v (k + 1)
            (repeat' (conv => whnf)<;>first|exact True.intro|(refine if_ ?_ ?_<;>intro h<;>first|exact h.elim|(exfalso; omega)|skip)|refine vs_ ?_|refine dv_ ?_|exact fin_|(show ∃ _, _ ∧ _; refine ex_ ?_ (by first|with_reducible exact rfl|with_reducible exact f1|with_reducible exact fa|exact B1|exact T1|exact rd_))|(show ∃ _ _, _ ∧ _; refine ex2_ ?_ (by first|with_reducible exact rfl|with_reducible exact f1|with_reducible exact fa|exact B1|exact T1|exact rd_)))
            conv => whnf
            refine ⟨j + 1, by omega, by omega, ?_⟩
            (repeat' (conv => whnf)<;>first|exact True.intro|(refine if_ ?_ ?_<;>intro h<;>first|exact h.elim|(exfalso; omega)|skip)|refine vs_ ?_ (by first|exact row_app (by unfold backR; rw [if_pos (by omega)])|exact sd_)|refine dv_ ?_|exact fin_|(show ∃ _, _ ∧ _; refine ex_ ?_)|(show ∃ _ _, _ ∧ _; refine ex2_ ?_))
          · have : j = n := by omega
            subst this
            have u1 := ru (k + 1)
            (repeat' (conv => whnf)<;>first|exact True.intro|(refine if_ ?_ ?_<;>intro h<;>first|exact h.elim|(exfalso; omega)|skip)|refine vs_ ?_|refine dv_ ?_|exact fin_|(show ∃ _, _ ∧ _; refine ex_ ?_ (by first|with_reducible exact rfl|with_reducible exact f1|exact rd_vi (by omega)|exact rd_))|(show ∃ _ _, _ ∧ _; refine ex2_ ?_ (by first|with_reducible exact rfl|with_reducible exact f1|exact rd_vi (by omega)|exact rd_)))
            conv => whnf
            refine ⟨k + 2, by omega, by omega, ?_⟩
            (repeat' (conv => whnf)<;>first|exact True.intro|(refine if_ ?_ ?_<;>intro h<;>first|exact h.elim|(exfalso; omega)|skip)|refine vs_ ?_ (by first|exact nest_put (row_app' (by unfold backR; rw [if_neg (by omega)]))|exact sd_)|refine dv_ ?_|exact fin_|(show ∃ _, _ ∧ _; refine ex_ ?_)|(show ∃ _ _, _ ∧ _; refine ex2_ ?_))
      · have : n = k + 1 := by omega
        subst this
        have e2 : nestD 1 (arr (k + 1) fun q => row (k + 1 + 1) (backR a v q)) = rowsL (k + 1 + 1) (backL a v (k + 1)) := nestD_rows
        rw [show rowsD (k + 1 + 1) (backL a v (k + 1)) = .lst 1 (nestD 1 (arr (k + 1) fun q => row (k + 1 + 1) (backR a v q))) from by rw [e2]] at hS'
        cases sol with
        | none =>
          (repeat' (conv => whnf)<;>first|exact True.intro|(refine if_ ?_ ?_<;>intro h<;>first|exact h.elim|(exfalso; omega)|skip)|refine vs_ ?_|refine dv_ ?_|exact fin_|(show ∃ _, _ ∧ _; refine ex_ ?_ (by first|with_reducible exact rfl|with_reducible exact f1|with_reducible exact f0|exact hS'|exact rd_))|(show ∃ _ _, _ ∧ _; refine ex2_ ?_ (by first|with_reducible exact rfl|with_reducible exact f1|with_reducible exact f0|exact hS'|exact rd_)))
        | some r =>
          have hr := hsv r rfl
          have hvb : Byts (vecR (k + 1) r) := fun q => by
            have := hr q
            unfold vecR; split <;> omega
          have T1 := hT (a := a) hb hv hvb (by omega) (by omega)
          have q1 : (dB (VEq (timesV a v (vecR (k + 1) r)) (sUnit a)) = true ↔ vecL (timesV a v (vecR (k + 1) r)) = vecL (sUnit a)) := by
            by_cases c : VEq (timesV a v (vecR (k + 1) r)) (sUnit a)
            · rw [dB_t c]; exact eq_t c
            · rw [dB_f c]; exact eq_f c
          (repeat' (conv => whnf)<;>first|exact True.intro|(refine if_ ?_ ?_<;>intro h<;>first|exact h.elim|(exfalso; omega)|skip)|refine vs_ ?_|refine dv_ ?_|exact fin_|(show ∃ _, _ ∧ _; refine ex_ ?_ (by first|with_reducible exact rfl|with_reducible exact f1|with_reducible exact f0|exact hS'|exact rd_))|(show ∃ _ _, _ ∧ _; refine ex2_ ?_ (by first|with_reducible exact rfl|with_reducible exact f1|with_reducible exact f0|exact hS'|exact rd_)))
          conv => whnf
          refine vc_loop (α := Nat) 0 (fun i => k + 1 - i) (fun i => i ≤ k + 1) [] (fun i => [(14, .d (.int .i64 i))]) (fun i => [(14, .data 6 [vecL (prog i (vecR (k + 1) r) Z)])]) lp_ ?_ ?_
          · (repeat' (conv => whnf)<;>first|exact True.intro|(refine if_ ?_ ?_<;>intro h<;>first|exact h.elim|(exfalso; omega)|skip)|refine vs_ ?_ (by first|exact zeros6 (fun i _ => by simp [prog, Z])|exact sd_)|refine dv_ ?_|exact fin_|(show ∃ _, _ ∧ _; refine ex_ ?_)|(show ∃ _ _, _ ∧ _; refine ex2_ ?_))
          · intro i hi
            have h1 := hr i
            by_cases hlt2 : i < k + 1
            · (repeat' (conv => whnf)<;>first|exact True.intro|(refine if_ ?_ ?_<;>intro h<;>first|exact h.elim|(exfalso; omega)|skip)|refine vs_ ?_|refine dv_ ?_|exact fin_|(show ∃ _, _ ∧ _; refine ex_ ?_)|(show ∃ _ _, _ ∧ _; refine ex2_ ?_))
              conv => whnf
              refine ⟨i + 1, by omega, by omega, ?_⟩
              (repeat' (conv => whnf)<;>first|exact True.intro|(refine if_ ?_ ?_<;>intro h<;>first|exact h.elim|(exfalso; omega)|skip)|refine vs_ ?_ (by first|exact st_prog (by unfold vecR; rw [if_pos hlt2])|exact sd_)|refine dv_ ?_|exact fin_|(show ∃ _, _ ∧ _; refine ex_ ?_)|(show ∃ _ _, _ ∧ _; refine ex2_ ?_))
            · have : i = k + 1 := by omega
              rw [this, vec_prog]
              (repeat' (conv => whnf)<;>first|exact True.intro|(refine if_ ?_ ?_<;>intro h<;>first|exact h.elim|(exfalso; omega)|skip)|refine vs_ ?_ (by first|exact ⟨conf_vec _, conf_vec _⟩|exact sd_)|refine dv_ ?_|exact fin_|(show ∃ _, _ ∧ _; refine ex_ ?_ (by first|with_reducible exact rfl|with_reducible exact fa|exact T1|exact rd_v1|exact q1|exact rd_))|(show ∃ _ _, _ ∧ _; refine ex2_ ?_ (by first|with_reducible exact rfl|with_reducible exact fa|exact T1|exact rd_v1|exact q1|exact rd_)))
end Go.X
