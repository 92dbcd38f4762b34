import Derived.Test.YtehopmcogekcoaaW29
set_option linter.all false
namespace Go.X
open Go Go.RowKit
set_option maxRecDepth 100000
set_option maxHeartbeats 8000000
set_option linter.unusedSimpArgs false
set_option linter.unusedVariables false
variable {P : Program} {N : FN}
theorem rd_st6 {v : Nat → Int} : sub2 (([[.int .u8 0, .int .u8 0, .int .u8 0, .int .u8 0, .int .u8 0, .int .u8 0]] : List (List D)).set 0 (splice [.int .u8 0, .int .u8 0, .int .u8 0, .int .u8 0, .int .u8 0, .int .u8 0] 0 (vecL v))) 0 0 6 = some (vecL v) := rd_stall rfl
theorem c_FnExactSandwichOf (hP : C_toPair P N) (hV : C_id P N.laws_toVector 6) (hS : C_sSandwichOf P N) (hI : C_SandwichOf P N) (hE : ∀ {v w : Nat → Int}, Can P N.laws_eqVector [vecD v, vecD w] (.val (.bool (dB (VEq v w)))))
    (hf : isFn P N.laws_FnExactSandwichOf (ir_laws_FnExactSandwichOf N) = true) {x : Pr} {w : Nat → Int} (hx : PrIn x) (hsx : SPrIn x) (hw : Byts w) (hcol : sIsP x → ∀ j, j < x.o.n.toNat → (sCol x.o j).isSome = true)
    (heq : IsPairP x ↔ sIsP x) (hsand : sIsP x → VEq (iSand x w) (sSand x w)) : Can P N.laws_FnExactSandwichOf [pairD x, vecD w] (.val (.bool true)) := by
  have a1 := (pairAt_one x).all
  have hP' := hP (x := x)
  have hV' : Can P N.laws_toVector [vecD w] (.val (vecD w)) := hV
  have hS' := hS hsx hcol hw
  have hI' := hI hx hw
  refine can_of hf rfl rfl ?_
  by_cases g : sIsP x ∧ Small w x.o.n x.o.p
  · have g2 : IsPairP x ∧ Small w x.o.n x.o.p := ⟨heq.2 g.1, g.2⟩
    have hE' := can_t (hE (v := iSand x w) (w := sSand x w)) (hsand g.1)
    rw [dB_t g, if_pos rfl] at hS'
    rw [dB_t g2, if_pos rfl] at hI'
    (repeat' (conv => whnf) <;> first | exact True.intro | (with_reducible show (_ → _) ∧ (_ → _); refine if_ ?_ ?_ <;> intro h <;> first | exact h.elim | (exfalso; omega) | skip) | (show _ ∧ _; refine an_ ?_) | (show ∃ _, _ ∧ _; refine ex_ ?_ (by first | with_reducible exact rfl | exact a1 | exact hP' | exact hV' | exact hS' | exact hI' | exact rd_st6 | exact hE' | exact rd_)) | (show ∃ _ _, _ ∧ _; refine ex2_ ?_ (by first | with_reducible exact rfl | exact a1 | exact hP' | exact hV' | exact hS' | exact hI' | exact rd_st6 | exact hE' | exact rd_)) | (show Ar.int _ _ _ _ _; refine ar_ ?_) | (show wrapK _ _ _; refine wk_ ?_) | exact fin_ | fail)
  · have g2 : ¬ (IsPairP x ∧ Small w x.o.n x.o.p) := fun h => g ⟨heq.1 h.1, h.2⟩
    have hE' := can_t (hE (v := Z) (w := Z)) (fun _ _ => rfl)
    rw [dB_f g, if_neg (by simp)] at hS'
    rw [dB_f g2, if_neg (by simp)] at hI'
    (repeat' (conv => whnf) <;> first | exact True.intro | (with_reducible show (_ → _) ∧ (_ → _); refine if_ ?_ ?_ <;> intro h <;> first | exact h.elim | (exfalso; omega) | skip) | (show _ ∧ _; refine an_ ?_) | (show ∃ _, _ ∧ _; refine ex_ ?_ (by first | with_reducible exact rfl | exact a1 | exact hP' | exact hV' | exact hS' | exact hI' | exact rd_st6 | exact hE' | exact rd_)) | (show ∃ _ _, _ ∧ _; refine ex2_ ?_ (by first | with_reducible exact rfl | exact a1 | exact hP' | exact hV' | exact hS' | exact hI' | exact rd_st6 | exact hE' | exact rd_)) | (show Ar.int _ _ _ _ _; refine ar_ ?_) | (show wrapK _ _ _; refine wk_ ?_) | exact fin_ | fail)
end Go.X
