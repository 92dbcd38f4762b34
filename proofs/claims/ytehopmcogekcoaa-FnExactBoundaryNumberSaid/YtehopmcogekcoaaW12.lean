import Derived.Test.YtehopmcogekcoaaK6
import Derived.Test.YtehopmcogekcoaaW8
import Derived.Test.YtehopmcogekcoaaW11
import Derived.Test.YtehopmcogekcoaaW10
set_option linter.all false
namespace Go.X
open Go Go.RowKit
set_option maxRecDepth 100000
set_option maxHeartbeats 8000000
variable {P : Program} {N : FN}
def L_BoundaryNumber (P : Program) (N : FN) : Prop := ∀ args, argsHave [tyPair, .int .i64, .int .i64] args → Can P N.laws_FnExactBoundaryNumber args (.val (.bool true))
theorem l_BoundaryNumber (hP : C_toPair P N) (hS : C_sBoundaryNumber P N) (hI : C_BoundaryNumber P N)
    (hf : isFn P N.laws_FnExactBoundaryNumber (ir_laws_FnExactBoundaryNumber N) = true) : L_BoundaryNumber P N := fun args h => by
  obtain ⟨d1, d2, d3, rfl, h1, h2, h3⟩ := args3 h
  obtain ⟨x, rfl, hx, _⟩ := arg_pair h1
  obtain ⟨g, rfl, _⟩ := arg_i64 h2
  obtain ⟨k, rfl, _⟩ := arg_i64 h3
  have a1 := (pairAt_one x).all
  have hP' := hP (x := x)
  have hS' := hS (g := g) (k := k) hx.s (fun h => sCol_some (sIs_ok hx h).1.1 (sIs_ok hx h).1.2.1)
  have hI' := hI (g := g) (k := k) hx
  rw [dB_congr (pair_iff hx)] at hI'
  have ev : ∀ p q, ∃ v e : Int, bdR (dB (sIsP x)) g k (iBd x p q) = .tup [.int .i64 v, .int .i64 e] ∧ bdR (dB (sIsP x)) g k (sBd x p q) = .tup [.int .i64 v, .int .i64 e] := fun p q => by
    by_cases g1 : sIsP x
    · rw [bd_same hx g1, dB_t g1]
      by_cases g2 : (0 ≤ g ∧ g ≤ 30) ∧ 0 ≤ k ∧ k ≤ 30
      · exact ⟨_, _, by unfold bdR; rw [if_pos rfl, if_pos g2], by unfold bdR; rw [if_pos rfl, if_pos g2]⟩
      · exact ⟨_, _, by unfold bdR; rw [if_pos rfl, if_neg g2], by unfold bdR; rw [if_pos rfl, if_neg g2]⟩
    · rw [dB_f g1]
      exact ⟨0, 1, rfl, rfl⟩
  obtain ⟨v, e, e1, e2⟩ := ev g.toNat k.toNat
  rw [e1] at hI'
  rw [e2] at hS'
  refine can_of hf rfl rfl ?_
  (repeat' (conv => whnf) <;> first | exact True.intro | (refine if_ ?_ ?_ <;> intro h <;> first | exact h.elim | (exfalso; omega) | skip) | refine vs_ ?_ | refine dv_ ?_ | exact fin_ | (show ∃ _, _ ∧ _; refine ex_ ?_ (by first | with_reducible exact rfl | exact a1 | exact hP' | exact hS' | exact hI' | exact rd_)) | refine ex2_ ?_ (by first | with_reducible exact rfl | exact a1 | exact hP' | exact hS' | exact hI' | exact rd_) | fail)
end Go.X
