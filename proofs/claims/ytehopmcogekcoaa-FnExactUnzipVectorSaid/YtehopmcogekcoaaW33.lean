import Derived.Test.YtehopmcogekcoaaM3
import Derived.Test.YtehopmcogekcoaaV1
import Derived.Test.YtehopmcogekcoaaW31
import Derived.Test.YtehopmcogekcoaaW32
set_option linter.all false
namespace Go.X
open Go Go.RowKit
set_option maxRecDepth 100000
set_option maxHeartbeats 8000000
variable {P : Program} {N : FN}
def L_UnzipVector (P : Program) (N : FN) : Prop := ∀ args, argsHave [tyPair, tyVec] args → Can P N.laws_FnExactUnzipVector args (.val (.bool true))
theorem l_UnzipVector (hP : C_toPair P N) (hV : C_id P N.laws_toVector 6) (hS : C_sUnzipVector P N) (hI : C_UnzipVector P N) (hE : C_eqVector P N)
    (hf : isFn P N.laws_FnExactUnzipVector (ir_laws_FnExactUnzipVector N) = true) : L_UnzipVector P N := fun args h => by
  obtain ⟨d1, d2, rfl, h1, h2⟩ := args2 h
  obtain ⟨x, rfl, hx, _⟩ := arg_pair h1
  obtain ⟨w, rfl, hw⟩ := arg_vec h2
  have fo : sIsP x → AlgOk x.c ∧ sFrobP x.c ∧ sCommP x.c := fun h => ⟨hx.s.c.ok h.1.1.1, h.1.2.2.2.2.1, h.1.2.2.2.1⟩
  have a1 := (pairAt_one x).all
  have hP' := hP (x := x)
  have hV' : Can P N.laws_toVector [vecD w] (.val (vecD w)) := hV
  have hS' := hS hx.s (fun h => sCol_some (fo h).1 (fo h).2.1) hw
  have hI' := hI hx hw
  refine can_of hf rfl rfl ?_
  by_cases g : sIsP x ∧ Small w x.o.n x.o.p
  · have g2 : IsPairP x ∧ Small w x.o.n x.o.p := ⟨(pair_iff hx).2 g.1, g.2⟩
    have hE' := can_t (hE (v := iUnzip x w) (w := sUnzip x w)) (by rw [unzip_same (fo g.1).1 (fo g.1).2.1 (fo g.1).2.2]; exact VEq.rfl')
    rw [dB_t g, if_pos rfl] at hS'
    rw [dB_t g2, if_pos rfl] at hI'
    (repeat' (conv => whnf) <;> first | exact True.intro | (with_reducible show (_ → _) ∧ (_ → _); refine if_ ?_ ?_ <;> intro h <;> first | exact h.elim | (exfalso; omega) | skip) | (show _ ∧ _; refine an_ ?_) | (show ∃ _, _ ∧ _; refine ex_ ?_ (by first | with_reducible exact rfl | exact a1 | exact hP' | exact hV' | exact hS' | exact hI' | exact rd_st6 | exact hE' | exact rd_)) | (show ∃ _ _, _ ∧ _; refine ex2_ ?_ (by first | with_reducible exact rfl | exact a1 | exact hP' | exact hV' | exact hS' | exact hI' | exact rd_st6 | exact hE' | exact rd_)) | (show Ar.int _ _ _ _ _; refine ar_ ?_) | (show wrapK _ _ _; refine wk_ ?_) | exact fin_ | fail)
  · have g2 : ¬ (IsPairP x ∧ Small w x.o.n x.o.p) := fun h => g ⟨(pair_iff hx).1 h.1, h.2⟩
    have hE' := can_t (hE (v := Z) (w := Z)) (fun _ _ => rfl)
    rw [dB_f g, if_neg (by simp)] at hS'
    rw [dB_f g2, if_neg (by simp)] at hI'
    (repeat' (conv => whnf) <;> first | exact True.intro | (with_reducible show (_ → _) ∧ (_ → _); refine if_ ?_ ?_ <;> intro h <;> first | exact h.elim | (exfalso; omega) | skip) | (show _ ∧ _; refine an_ ?_) | (show ∃ _, _ ∧ _; refine ex_ ?_ (by first | with_reducible exact rfl | exact a1 | exact hP' | exact hV' | exact hS' | exact hI' | exact rd_st6 | exact hE' | exact rd_)) | (show ∃ _ _, _ ∧ _; refine ex2_ ?_ (by first | with_reducible exact rfl | exact a1 | exact hP' | exact hV' | exact hS' | exact hI' | exact rd_st6 | exact hE' | exact rd_)) | (show Ar.int _ _ _ _ _; refine ar_ ?_) | (show wrapK _ _ _; refine wk_ ?_) | exact fin_ | fail)
end Go.X
