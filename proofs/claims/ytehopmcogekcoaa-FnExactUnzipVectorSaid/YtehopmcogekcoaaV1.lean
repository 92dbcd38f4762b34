import Derived.Test.YtehopmcogekcoaaW30
import Derived.Test.YtehopmcogekcoaaM3
set_option linter.all false
namespace Go.X
open Go Go.RowKit
set_option maxRecDepth 10000
variable {P : Program} {N : FN}
def C_eqVector (P : Program) (N : FN) : Prop := ∀ {v w : Nat → Int}, Can P N.laws_eqVector [vecD v, vecD w] (.val (.bool (dB (VEq v w))))
theorem c_eqVector' (hf : isFn P N.laws_eqVector (ir_laws_eqVector N) = true) : C_eqVector P N := c_eqVector hf
def L_SandwichOf (P : Program) (N : FN) : Prop := ∀ args, argsHave [tyPair, tyVec] args → Can P N.laws_FnExactSandwichOf args (.val (.bool true))
theorem l_SandwichOf (hP : C_toPair P N) (hV : C_id P N.laws_toVector 6) (hS : C_sSandwichOf P N) (hI : C_SandwichOf P N) (hE : C_eqVector P N)
    (hf : isFn P N.laws_FnExactSandwichOf (ir_laws_FnExactSandwichOf N) = true) : L_SandwichOf P N := fun args h => by
  obtain ⟨d1, d2, rfl, h1, h2⟩ := args2 h
  obtain ⟨x, rfl, hx, _⟩ := arg_pair h1
  obtain ⟨w, rfl, hw⟩ := arg_vec h2
  have fo : sIsP x → AlgOk x.o ∧ sFrobP x.o := fun h => ⟨hx.s.o.ok h.1.2.1.1, h.1.2.2.2.2.2.1⟩
  exact c_FnExactSandwichOf hP hV hS hI hE hf hx hx.s hw (fun h => sCol_some (fo h).1 (fo h).2) (pair_iff hx) (fun h => by rw [sand_same (fo h).1 (fo h).2]; exact VEq.rfl')
end Go.X
