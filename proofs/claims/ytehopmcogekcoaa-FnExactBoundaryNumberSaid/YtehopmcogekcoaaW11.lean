import Derived.Test.YtehopmcogekcoaaK5
import Derived.Test.YtehopmcogekcoaaW8
import Derived.Test.YtehopmcogekcoaaW9
set_option linter.all false
namespace Go.X
open Go Go.RowKit
set_option maxRecDepth 100000
set_option maxHeartbeats 8000000
variable {P : Program} {N : FN}
theorem sIs_ok {x : Pr} (hx : PrIn x) (h : sIsP x) : (AlgOk x.c ∧ sFrobP x.c ∧ sCommP x.c) ∧ AlgOk x.o ∧ sFrobP x.o ∧ ∀ i : Nat, i < 6 → x.c.n.toNat ≤ i → VEq (x.z i) Z :=
  ⟨⟨hx.s.c.ok h.1.1.1, h.1.2.2.2.2.1, h.1.2.2.2.1⟩, hx.s.o.ok h.1.2.1.1, h.1.2.2.2.2.2.1, fun i hi hn => (h.2.1 i hi).2 (by have := (hx.s.c.ok h.1.1.1).n; omega)⟩
theorem cardy_iff {x : Pr} (hx : PrIn x) (h : sIsP x) : iCardyP x ↔ sCardyP x := by
  obtain ⟨⟨hc, hfc, hcc⟩, ho, hfo, hz⟩ := sIs_ok hx h
  have hp2 := prime_bd ho.p
  have hn := hc.n
  unfold iCardyP sCardyP
  refine forall_congr' fun i => forall_congr' fun hi => ?_
  rw [unzip_same hc hfc hcc, sand_same ho hfo]
  have e := zip6 (p := x.o.p) (by omega) (z := x.z) (v := sUnzip x (basV i)) (n := x.c.n.toNat) (by omega) hz
  exact ⟨fun g => e.symm'.trans' g, fun g => e.trans' g⟩
def L_IsCardyPair (P : Program) (N : FN) : Prop := ∀ args, argsHave [tyPair] args → Can P N.laws_FnExactIsCardyPair args (.val (.bool true))
theorem l_IsCardyPair (hP : C_toPair P N) (hS : C_sIsCardyPair P N) (hI : C_IsCardyPair P N)
    (hf : isFn P N.laws_FnExactIsCardyPair (ir_laws_FnExactIsCardyPair N) = true) : L_IsCardyPair P N := fun args h => by
  obtain ⟨d1, rfl, h1⟩ := args1 h
  obtain ⟨x, rfl, hx, _⟩ := arg_pair h1
  have a1 := (pairAt_one x).all
  have hP' := hP (x := x)
  have hS' := hS hx.s (fun h => ⟨sCol_some (sIs_ok hx h).1.1 (sIs_ok hx h).1.2.1, sCol_some (sIs_ok hx h).2.1 (sIs_ok hx h).2.2.1⟩)
  have hI' := hI hx
  have e1 : dB (IsPairP x ∧ iCardyP x) = dB (sIsP x ∧ sCardyP x) := dB_congr ⟨fun g => ⟨(pair_iff hx).1 g.1, (cardy_iff hx ((pair_iff hx).1 g.1)).1 g.2⟩, fun g => ⟨(pair_iff hx).2 g.1, (cardy_iff hx g.1).2 g.2⟩⟩
  have e2 : dB (IsPairP x) = dB (sIsP x) := dB_congr (pair_iff hx)
  rw [e1, e2] at hI'
  refine can_of hf rfl rfl ?_
  generalize dB (sIsP x ∧ sCardyP x) = b at *
  generalize dB (sIsP x) = c at *
  cases b <;> cases c <;> (repeat' (conv => whnf) <;> first | exact True.intro | (refine if_ ?_ ?_ <;> intro h <;> first | exact h.elim | (exfalso; omega) | skip) | refine vs_ ?_ | refine dv_ ?_ | exact fin_ | (show ∃ _, _ ∧ _; refine ex_ ?_ (by first | with_reducible exact rfl | exact a1 | exact hP' | exact hS' | exact hI' | exact rd_)) | refine ex2_ ?_ (by first | with_reducible exact rfl | exact a1 | exact hP' | exact hS' | exact hI' | exact rd_) | fail)
  all_goals exact absurd ‹(_ == _) = false› (by decide)
end Go.X
