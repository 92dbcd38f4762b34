import Derived.Test.YtehopmcogekcoaaM3
set_option linter.all false
namespace Go.X
open Go Go.RowKit
set_option maxRecDepth 100000
set_option maxHeartbeats 8000000
set_option linter.unusedSimpArgs false
set_option linter.unusedVariables false
variable {P : Program} {N : FN}
theorem c_algebrasOk (hA : C_IsAlgebra P N) (hC : C_commutative P N) (hF : C_frobenius P N) (hS : C_symmetric P N) (hf : isFn P N.impl_Pair_algebrasOk (ir_impl_Pair_algebrasOk N) = true) : C_algebrasOk P N := by
  intro sz l e off x hx hi
  have hAc := hA hi.c.b hi.c.ok
  have hAo := hA hi.o.b hi.o.ok
  refine can_of hf rfl rfl ?_
  by_cases g1 : IsAlgP x.c
  · have g1' := can_t hAc g1
    have okc := hi.c.alg g1
    by_cases g2 : IsAlgP x.o
    · have g2' := can_t hAo g2
      have oko := hi.o.alg g2
      by_cases g3 : x.c.p = x.o.p
      · have hCc := hC (sz := sz) hx.c okc.n
        by_cases g4 : CommP x.c
        · have g4' := can_t hCc g4
          have hFc := hF (sz := sz) hx.c okc
          by_cases g5 : FrobP x.c
          · have g5' := can_dt hFc g5
            have hFo := hF (sz := sz) hx.o oko
            by_cases g6 : FrobP x.o
            · have g6' := can_dt hFo g6
              have hSo := hS (sz := sz) hx.o oko
              by_cases g7 : SymP x.o
              · have g7' := can_t hSo g7
                (repeat' (conv => whnf) <;> first | exact True.intro | (with_reducible show (_ → _) ∧ (_ → _); refine if_ ?_ ?_ <;> intro h <;> first | exact h.elim | (exfalso; omega) | skip) | (show _ ∧ _; refine an_ ?_) | (show ∃ _, _ ∧ _; refine ex_ ?_ (by first | with_reducible exact rfl | exact hx.c.all | exact hx.o.all | exact hx.c.p | exact hx.o.p | exact g1' | exact g2' | exact g4' | exact g5' | exact g6' | exact g7' | exact rd_)) | (show ∃ _ _, _ ∧ _; refine ex2_ ?_ (by first | with_reducible exact rfl | exact hx.c.all | exact hx.o.all | exact hx.c.p | exact hx.o.p | exact g1' | exact g2' | exact g4' | exact g5' | exact g6' | exact g7' | exact rd_)) | (show Ar.int _ _ _ _ _; refine ar_ ?_) | (show wrapK _ _ _; refine wk_ ?_) | exact fin_ | fail)
                all_goals (conv => whnf)
                all_goals first | exact yes ⟨g1, g2, g3, g4, g5, g6, g7⟩ | exact absurd g3 ‹_›
              · have g7' := can_f hSo g7
                (repeat' (conv => whnf) <;> first | exact True.intro | (with_reducible show (_ → _) ∧ (_ → _); refine if_ ?_ ?_ <;> intro h <;> first | exact h.elim | (exfalso; omega) | skip) | (show _ ∧ _; refine an_ ?_) | (show ∃ _, _ ∧ _; refine ex_ ?_ (by first | with_reducible exact rfl | exact hx.c.all | exact hx.o.all | exact hx.c.p | exact hx.o.p | exact g1' | exact g2' | exact g4' | exact g5' | exact g6' | exact g7' | exact rd_)) | (show ∃ _ _, _ ∧ _; refine ex2_ ?_ (by first | with_reducible exact rfl | exact hx.c.all | exact hx.o.all | exact hx.c.p | exact hx.o.p | exact g1' | exact g2' | exact g4' | exact g5' | exact g6' | exact g7' | exact rd_)) | (show Ar.int _ _ _ _ _; refine ar_ ?_) | (show wrapK _ _ _; refine wk_ ?_) | exact fin_ | fail)
                all_goals (conv => whnf)
                all_goals exact no (fun h => g7 h.2.2.2.2.2.2)
            · have g6' := can_df hFo g6
              (repeat' (conv => whnf) <;> first | exact True.intro | (with_reducible show (_ → _) ∧ (_ → _); refine if_ ?_ ?_ <;> intro h <;> first | exact h.elim | (exfalso; omega) | skip) | (show _ ∧ _; refine an_ ?_) | (show ∃ _, _ ∧ _; refine ex_ ?_ (by first | with_reducible exact rfl | exact hx.c.all | exact hx.o.all | exact hx.c.p | exact hx.o.p | exact g1' | exact g2' | exact g4' | exact g5' | exact g6' | exact rd_)) | (show ∃ _ _, _ ∧ _; refine ex2_ ?_ (by first | with_reducible exact rfl | exact hx.c.all | exact hx.o.all | exact hx.c.p | exact hx.o.p | exact g1' | exact g2' | exact g4' | exact g5' | exact g6' | exact rd_)) | (show Ar.int _ _ _ _ _; refine ar_ ?_) | (show wrapK _ _ _; refine wk_ ?_) | exact fin_ | fail)
              all_goals (conv => whnf)
              all_goals exact no (fun h => g6 h.2.2.2.2.2.1)
          · have g5' := can_df hFc g5
            (repeat' (conv => whnf) <;> first | exact True.intro | (with_reducible show (_ → _) ∧ (_ → _); refine if_ ?_ ?_ <;> intro h <;> first | exact h.elim | (exfalso; omega) | skip) | (show _ ∧ _; refine an_ ?_) | (show ∃ _, _ ∧ _; refine ex_ ?_ (by first | with_reducible exact rfl | exact hx.c.all | exact hx.o.all | exact hx.c.p | exact hx.o.p | exact g1' | exact g2' | exact g4' | exact g5' | exact rd_)) | (show ∃ _ _, _ ∧ _; refine ex2_ ?_ (by first | with_reducible exact rfl | exact hx.c.all | exact hx.o.all | exact hx.c.p | exact hx.o.p | exact g1' | exact g2' | exact g4' | exact g5' | exact rd_)) | (show Ar.int _ _ _ _ _; refine ar_ ?_) | (show wrapK _ _ _; refine wk_ ?_) | exact fin_ | fail)
            all_goals (conv => whnf)
            all_goals exact no (fun h => g5 h.2.2.2.2.1)
        · have g4' := can_f hCc g4
          (repeat' (conv => whnf) <;> first | exact True.intro | (with_reducible show (_ → _) ∧ (_ → _); refine if_ ?_ ?_ <;> intro h <;> first | exact h.elim | (exfalso; omega) | skip) | (show _ ∧ _; refine an_ ?_) | (show ∃ _, _ ∧ _; refine ex_ ?_ (by first | with_reducible exact rfl | exact hx.c.all | exact hx.o.all | exact hx.c.p | exact hx.o.p | exact g1' | exact g2' | exact g4' | exact rd_)) | (show ∃ _ _, _ ∧ _; refine ex2_ ?_ (by first | with_reducible exact rfl | exact hx.c.all | exact hx.o.all | exact hx.c.p | exact hx.o.p | exact g1' | exact g2' | exact g4' | exact rd_)) | (show Ar.int _ _ _ _ _; refine ar_ ?_) | (show wrapK _ _ _; refine wk_ ?_) | exact fin_ | fail)
          all_goals (conv => whnf)
          all_goals exact no (fun h => g4 h.2.2.2.1)
      · (repeat' (conv => whnf) <;> first | exact True.intro | (with_reducible show (_ → _) ∧ (_ → _); refine if_ ?_ ?_ <;> intro h <;> first | exact h.elim | (exfalso; omega) | skip) | (show _ ∧ _; refine an_ ?_) | (show ∃ _, _ ∧ _; refine ex_ ?_ (by first | with_reducible exact rfl | exact hx.c.all | exact hx.o.all | exact hx.c.p | exact hx.o.p | exact g1' | exact g2' | exact rd_)) | (show ∃ _ _, _ ∧ _; refine ex2_ ?_ (by first | with_reducible exact rfl | exact hx.c.all | exact hx.o.all | exact hx.c.p | exact hx.o.p | exact g1' | exact g2' | exact rd_)) | (show Ar.int _ _ _ _ _; refine ar_ ?_) | (show wrapK _ _ _; refine wk_ ?_) | exact fin_ | fail)
        all_goals (conv => whnf)
        all_goals first | exact no (fun h => g3 h.2.2.1) | exact absurd ‹_› g3
    · have g2' := can_f hAo g2
      (repeat' (conv => whnf) <;> first | exact True.intro | (with_reducible show (_ → _) ∧ (_ → _); refine if_ ?_ ?_ <;> intro h <;> first | exact h.elim | (exfalso; omega) | skip) | (show _ ∧ _; refine an_ ?_) | (show ∃ _, _ ∧ _; refine ex_ ?_ (by first | with_reducible exact rfl | exact hx.c.all | exact hx.o.all | exact g1' | exact g2' | exact rd_)) | (show ∃ _ _, _ ∧ _; refine ex2_ ?_ (by first | with_reducible exact rfl | exact hx.c.all | exact hx.o.all | exact g1' | exact g2' | exact rd_)) | (show Ar.int _ _ _ _ _; refine ar_ ?_) | (show wrapK _ _ _; refine wk_ ?_) | exact fin_ | fail)
      all_goals (conv => whnf)
      all_goals exact no (fun h => g2 h.2.1)
  · have g1' := can_f hAc g1
    (repeat' (conv => whnf) <;> first | exact True.intro | (with_reducible show (_ → _) ∧ (_ → _); refine if_ ?_ ?_ <;> intro h <;> first | exact h.elim | (exfalso; omega) | skip) | (show _ ∧ _; refine an_ ?_) | (show ∃ _, _ ∧ _; refine ex_ ?_ (by first | with_reducible exact rfl | exact hx.c.all | exact g1' | exact rd_)) | (show ∃ _ _, _ ∧ _; refine ex2_ ?_ (by first | with_reducible exact rfl | exact hx.c.all | exact g1' | exact rd_)) | (show Ar.int _ _ _ _ _; refine ar_ ?_) | (show wrapK _ _ _; refine wk_ ?_) | exact fin_ | fail)
    all_goals (conv => whnf)
    all_goals exact no (fun h => g1 h.1)
theorem c_opened (hP : C_IsPair P N) (hC : C_ContainsVec P N) (h1 : C_opened1 P N) (hf : isFn P N.impl_opened (ir_impl_opened N) = true) : C_opened P N := by
  intro x w hi hw
  have hx := pairAt_one x
  have hP' := hP hi
  refine can_of hf rfl rfl ?_
  by_cases g : IsPairP x
  · have g' := can_t hP' g
    have hC' := hC (m := 1) (f := fun _ => w) (g := N.impl_opened_1) (c := .pd (pairL x).length [pairL x] 0 0) (q := fun _ => !decide (Small w x.o.n x.o.p)) (by omega) (fun _ _ => h1 hx hw)
    by_cases s : Small w x.o.n x.o.p
    · have e : decide (0 ≤ idxF (fun _ => !decide (Small w x.o.n x.o.p)) 1) = false := by
        rw [idxF_none (fun j _ => by simp [s])]; rfl
      rw [e] at hC'
      rw [dB_t ⟨g, s⟩, if_pos rfl]
      (repeat' (conv => whnf) <;> first | exact True.intro | (with_reducible show (_ → _) ∧ (_ → _); refine if_ ?_ ?_ <;> intro h <;> first | exact h.elim | (exfalso; omega) | skip) | (show _ ∧ _; refine an_ ?_) | (show ∃ _, _ ∧ _; refine ex_ ?_ (by first | with_reducible exact rfl | exact hx.all | exact g' | exact hC' | exact rd_)) | (show ∃ _ _, _ ∧ _; refine ex2_ ?_ (by first | with_reducible exact rfl | exact hx.all | exact g' | exact hC' | exact rd_)) | (show Ar.int _ _ _ _ _; refine ar_ ?_) | (show wrapK _ _ _; refine wk_ ?_) | exact fin_ | fail)
    · have e : decide (0 ≤ idxF (fun _ => !decide (Small w x.o.n x.o.p)) 1) = true := by
        rw [idxF_some (i := 0) (by omega) (by simp [s]) (fun j hj => by omega)]; rfl
      rw [e] at hC'
      rw [dB_f (fun h => s h.2), if_neg (by simp)]
      (repeat' (conv => whnf) <;> first | exact True.intro | (with_reducible show (_ → _) ∧ (_ → _); refine if_ ?_ ?_ <;> intro h <;> first | exact h.elim | (exfalso; omega) | skip) | (show _ ∧ _; refine an_ ?_) | (show ∃ _, _ ∧ _; refine ex_ ?_ (by first | with_reducible exact rfl | exact hx.all | exact g' | exact hC' | exact rd_)) | (show ∃ _ _, _ ∧ _; refine ex2_ ?_ (by first | with_reducible exact rfl | exact hx.all | exact g' | exact hC' | exact rd_)) | (show Ar.int _ _ _ _ _; refine ar_ ?_) | (show wrapK _ _ _; refine wk_ ?_) | exact fin_ | fail)
  · have g' := can_f hP' g
    rw [dB_f (fun h => g h.1), if_neg (by simp)]
    (repeat' (conv => whnf) <;> first | exact True.intro | (with_reducible show (_ → _) ∧ (_ → _); refine if_ ?_ ?_ <;> intro h <;> first | exact h.elim | (exfalso; omega) | skip) | (show _ ∧ _; refine an_ ?_) | (show ∃ _, _ ∧ _; refine ex_ ?_ (by first | with_reducible exact rfl | exact hx.all | exact g' | exact rd_)) | (show ∃ _ _, _ ∧ _; refine ex2_ ?_ (by first | with_reducible exact rfl | exact hx.all | exact g' | exact rd_)) | (show Ar.int _ _ _ _ _; refine ar_ ?_) | (show wrapK _ _ _; refine wk_ ?_) | exact fin_ | fail)
end Go.X
