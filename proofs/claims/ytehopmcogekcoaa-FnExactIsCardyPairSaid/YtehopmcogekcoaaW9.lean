import Derived.Test.YtehopmcogekcoaaM3
set_option linter.all false
namespace Go.X
open Go Go.RowKit
set_option maxRecDepth 100000
set_option maxHeartbeats 8000000
set_option linter.unusedSimpArgs false
set_option linter.unusedVariables false
variable {P : Program} {N : FN}
theorem c_sShape (hP : C_sPrime P N) (hI : C_sIn P N) (hS : C_sSmall P N) (hf : isFn P N.spec_l01Shape (ir_spec_l01Shape N) = true) : C_sShape P N := by
  intro a hb
  refine can_of hf rfl rfl ?_
  (repeat' (conv => whnf) <;> first | exact True.intro | (with_reducible show (_ → _) ∧ (_ → _); refine if_ ?_ ?_ <;> intro h <;> first | exact h.elim | (exfalso; omega) | skip) | (show _ ∧ _; refine an_ ?_) | (show ∃ _, _ ∧ _; refine ex_ ?_ (by first | with_reducible exact rfl | exact hP | exact hI | exact hS (fun i => hb.2 i) | exact rd_)) | (show ∃ _ _, _ ∧ _; refine ex2_ ?_ (by first | with_reducible exact rfl | exact hP | exact hI | exact hS (fun i => hb.2 i) | exact rd_)) | (show Ar.int _ _ _ _ _; refine ar_ ?_) | (show wrapK _ _ _; refine wk_ ?_) | exact fin_ | fail)
  all_goals (conv => whnf)
  all_goals first | exact no (fun hs => absurd hs.1 ‹_›) | exact no (fun hs => absurd hs.2.1 ‹_›) | exact no (fun hs => absurd hs.2.2.1 ‹_›) | skip
  have g1 : a.p ∈ primes := ‹_›
  have g2 : 1 ≤ a.n ∧ a.n ≤ 6 := ‹_›
  have g3 : Small a.f a.n a.p := ‹_›
  refine vc_loop (α := Nat) 0 (fun i => 6 - i) (fun i => i ≤ 6 ∧ ∀ i', i' < i → ∀ j : Nat, j < 6 → Small (a.T i' j) (if a.n ≤ (i' : Int) ∨ a.n ≤ (j : Int) then 0 else a.n) a.p) [] (fun i => [(3, .d (.int .i64 i))]) (fun i => []) lp_ ?_ ?_
  · (repeat' (conv => whnf) <;> first | exact True.intro | (with_reducible show (_ → _) ∧ (_ → _); refine if_ ?_ ?_ <;> intro h <;> first | exact h.elim | (exfalso; omega) | skip) | (show _ ∧ _; refine an_ ?_) | (show ∃ _, _ ∧ _; refine ex_ ?_) | (show ∃ _ _, _ ∧ _; refine ex2_ ?_) | (show Ar.int _ _ _ _ _; refine ar_ ?_) | (show wrapK _ _ _; refine wk_ ?_) | exact fin_ | fail)
  · rintro i ⟨hi, hx⟩
    (repeat' (conv => whnf) <;> first | exact True.intro | (with_reducible show (_ → _) ∧ (_ → _); refine if_ ?_ ?_ <;> intro h <;> first | exact h.elim | (exfalso; omega) | skip) | (show _ ∧ _; refine an_ ?_) | (show ∃ _, _ ∧ _; refine ex_ ?_) | (show ∃ _ _, _ ∧ _; refine ex2_ ?_) | (show Ar.int _ _ _ _ _; refine ar_ ?_) | (show wrapK _ _ _; refine wk_ ?_) | exact fin_ | fail)
    · conv => whnf
      refine vc_loop (α := Nat) 0 (fun j => 6 - j) (fun j => j ≤ 6 ∧ ∀ j' : Nat, j' < j → Small (a.T i j') (if a.n ≤ (i : Int) ∨ a.n ≤ (j' : Int) then 0 else a.n) a.p) [] (fun j => [(3, .d (.int .i64 i)), (4, .d (.int .i64 j))]) (fun j => []) lp_ ?_ ?_
      · (repeat' (conv => whnf) <;> first | exact True.intro | (with_reducible show (_ → _) ∧ (_ → _); refine if_ ?_ ?_ <;> intro h <;> first | exact h.elim | (exfalso; omega) | skip) | (show _ ∧ _; refine an_ ?_) | (show ∃ _, _ ∧ _; refine ex_ ?_) | (show ∃ _ _, _ ∧ _; refine ex2_ ?_) | (show Ar.int _ _ _ _ _; refine ar_ ?_) | (show wrapK _ _ _; refine wk_ ?_) | exact fin_ | fail)
      · rintro j ⟨hj, hy⟩
        (repeat' (conv => whnf) <;> first | exact True.intro | (with_reducible show (_ → _) ∧ (_ → _); refine if_ ?_ ?_ <;> intro h <;> first | exact h.elim | (exfalso; omega) | skip) | (show _ ∧ _; refine an_ ?_) | (show ∃ _, _ ∧ _; refine ex_ ?_ (by first | with_reducible exact rfl | exact hS (fun k => hb.1 i j k) | exact rd_)) | (show ∃ _ _, _ ∧ _; refine ex2_ ?_ (by first | with_reducible exact rfl | exact hS (fun k => hb.1 i j k) | exact rd_)) | (show Ar.int _ _ _ _ _; refine ar_ ?_) | (show wrapK _ _ _; refine wk_ ?_) | exact fin_ | fail)
        all_goals (conv => whnf)
        all_goals first
          | exact no (fun hs => by
              have := hs.2.2.2 i j (by omega) (by omega)
              rw [if_pos (by omega)] at this
              exact absurd this ‹_›)
          | exact no (fun hs => by
              have := hs.2.2.2 i j (by omega) (by omega)
              rw [if_neg (by omega)] at this
              exact absurd this ‹_›)
          | (refine ⟨j + 1, ⟨by omega, all_succ hy (by rw [if_pos (by omega)]; exact ‹_›)⟩, by omega, ?_⟩; (repeat' (conv => whnf) <;> first | exact True.intro | (with_reducible show (_ → _) ∧ (_ → _); refine if_ ?_ ?_ <;> intro h <;> first | exact h.elim | (exfalso; omega) | skip) | (show _ ∧ _; refine an_ ?_) | (show ∃ _, _ ∧ _; refine ex_ ?_) | (show ∃ _ _, _ ∧ _; refine ex2_ ?_) | (show Ar.int _ _ _ _ _; refine ar_ ?_) | (show wrapK _ _ _; refine wk_ ?_) | exact fin_ | fail); done)
          | (refine ⟨j + 1, ⟨by omega, all_succ hy (by rw [if_neg (by omega)]; exact ‹_›)⟩, by omega, ?_⟩; (repeat' (conv => whnf) <;> first | exact True.intro | (with_reducible show (_ → _) ∧ (_ → _); refine if_ ?_ ?_ <;> intro h <;> first | exact h.elim | (exfalso; omega) | skip) | (show _ ∧ _; refine an_ ?_) | (show ∃ _, _ ∧ _; refine ex_ ?_) | (show ∃ _ _, _ ∧ _; refine ex2_ ?_) | (show Ar.int _ _ _ _ _; refine ar_ ?_) | (show wrapK _ _ _; refine wk_ ?_) | exact fin_ | fail); done)
          | (refine ⟨i + 1, ⟨by omega, all_succ hx (fun j' hj' => hy j' (by omega))⟩, by omega, ?_⟩; (repeat' (conv => whnf) <;> first | exact True.intro | (with_reducible show (_ → _) ∧ (_ → _); refine if_ ?_ ?_ <;> intro h <;> first | exact h.elim | (exfalso; omega) | skip) | (show _ ∧ _; refine an_ ?_) | (show ∃ _, _ ∧ _; refine ex_ ?_) | (show ∃ _ _, _ ∧ _; refine ex2_ ?_) | (show Ar.int _ _ _ _ _; refine ar_ ?_) | (show wrapK _ _ _; refine wk_ ?_) | exact fin_ | fail); done)
    · conv => whnf
      exact yes ⟨g1, g2, g3, fun i' j hi' hj => hx i' (by omega) j hj⟩
end Go.X
