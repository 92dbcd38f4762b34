import Derived.Test.YtphelkciklpakaaK5
import Derived.Test.YtphelkciklpakaaW5
set_option linter.all false
namespace Go.X
open Go Go.RowKit
set_option maxRecDepth 100000
set_option maxHeartbeats 8000000
variable {P : Program} {N : FN}
theorem c_valid1 (hV : C_isVector P N) (hf : isFn P N.impl_valid_1 (ir_impl_valid_1 N) = true) : C_valid1 P N := by
  intro sz l e off a v ha hv
  have hV' := hV (n := a.n) (p := a.p) hv
  refine can_of hf rfl rfl ?_
  (repeat' (conv => whnf)<;>first|exact True.intro|(refine if_ ?_ ?_<;>intro h<;>first|exact h.elim|(exfalso; omega)|skip)|refine vs_ ?_|refine dv_ ?_|exact fin_|(show ∃ _, _ ∧ _; refine ex_ ?_ (by first|with_reducible exact rfl|exact hV'|exact rd_))|(show ∃ _ _, _ ∧ _; refine ex2_ ?_ (by first|with_reducible exact rfl|exact hV'|exact rd_)))
theorem contains_no {P : Program} {f : FuncId} {as : List D} {q : Nat → Bool} {m : Nat} (h : Can P f as (.val (.bool (decide (0 ≤ idxF q m))))) (hq : ∀ i, i < m → q i = false) : Can P f as (.val (.bool false)) := by
  rwa [idxF_none hq, show decide (0 ≤ (-1 : Int)) = false from rfl] at h
theorem contains_yes {P : Program} {f : FuncId} {as : List D} {q : Nat → Bool} {m : Nat} (h : Can P f as (.val (.bool (decide (0 ≤ idxF q m))))) (hq : ∃ i, i < m ∧ q i = true) : Can P f as (.val (.bool true)) := by
  rcases idxF_cases q m with ⟨_, h2⟩ | ⟨i, _, h2, _⟩
  · obtain ⟨i, hi, h3⟩ := hq
    rw [h2 i hi] at h3; cases h3
  · rwa [h2, decide_eq_true (by omega)] at h
theorem not_allSm {a : Alg} {m : Nat} {s : Nat → Nat → Int} (h : ¬ AllSm a m s) : ∃ i, i < m ∧ (!decide (Small (s i) a.n a.p)) = true := by
  apply Classical.byContradiction
  intro g
  refine h fun i hi => ?_
  apply Classical.byContradiction
  intro g2
  exact g ⟨i, hi, by simp [g2]⟩
theorem c_validL (hA : C_IsAlgebra P N) (hC : C_ContainsVec P N) (h1 : C_valid1 P N) (hf : isFn P N.impl_valid (ir_impl_valid N) = true) : C_validL P N := by
  intro a q s hi hq hs
  have ha := algAt_one a
  have hal := ha.all
  have hA' := hA (a := a) hi.b hi.ok
  have hC' := hC (m := q) (f := s) (g := N.impl_valid_1) (c := .pd (algL a).length [algL a] 0 0) (q := fun i => !decide (Small (s i) a.n a.p)) hq (fun i _ => h1 ha (hs i))
  refine can_of hf rfl rfl ?_
  by_cases g : IsAlgP a
  · have hA2 := can_t hA' g
    by_cases c : AllSm a q s
    · have hC2 := contains_no hC' (fun i hi => by simp [c i hi])
      rw [dB_t ⟨g, c⟩, if_pos rfl]
      (repeat' (conv => whnf)<;>first|exact True.intro|(refine if_ ?_ ?_<;>intro h<;>first|exact h.elim|(exfalso; omega)|skip)|refine vs_ ?_|refine dv_ ?_|exact fin_|(show ∃ _, _ ∧ _; refine ex_ ?_ (by first|with_reducible exact rfl|with_reducible exact hal|exact hA2|exact hC2|exact rd_))|(show ∃ _ _, _ ∧ _; refine ex2_ ?_ (by first|with_reducible exact rfl|with_reducible exact hal|exact hA2|exact hC2|exact rd_)))
    · have hC2 := contains_yes hC' (not_allSm c)
      rw [dB_f (fun h => c h.2), if_neg (by simp)]
      (repeat' (conv => whnf)<;>first|exact True.intro|(refine if_ ?_ ?_<;>intro h<;>first|exact h.elim|(exfalso; omega)|skip)|refine vs_ ?_|refine dv_ ?_|exact fin_|(show ∃ _, _ ∧ _; refine ex_ ?_ (by first|with_reducible exact rfl|with_reducible exact hal|exact hA2|exact hC2|exact rd_))|(show ∃ _ _, _ ∧ _; refine ex2_ ?_ (by first|with_reducible exact rfl|with_reducible exact hal|exact hA2|exact hC2|exact rd_)))
  · have hA2 := can_f hA' g
    rw [dB_f (fun h => g h.1), if_neg (by simp)]
    (repeat' (conv => whnf)<;>first|exact True.intro|(refine if_ ?_ ?_<;>intro h<;>first|exact h.elim|(exfalso; omega)|skip)|refine vs_ ?_|refine dv_ ?_|exact fin_|(show ∃ _, _ ∧ _; refine ex_ ?_ (by first|with_reducible exact rfl|with_reducible exact hal|exact hA2|exact rd_))|(show ∃ _ _, _ ∧ _; refine ex2_ ?_ (by first|with_reducible exact rfl|with_reducible exact hal|exact hA2|exact rd_)))
theorem c_validE (h : C_validL P N) : C_validE P N := by
  intro a hi
  have := h (q := 0) (s := fun _ => Z) hi (by omega) (fun _ _ => by show (0 : Int) ≤ 0 ∧ (0 : Int) ≤ 255; omega)
  rw [dB_congr (show (IsAlgP a ∧ AllSm a 0 fun _ => Z) ↔ IsAlgP a from ⟨fun h => h.1, fun h => ⟨h, fun i hi => absurd hi (by omega)⟩⟩)] at this
  exact can_emp1 this rfl
end Go.X
namespace Go.X
open Go Go.RowKit
set_option maxRecDepth 100000
set_option maxHeartbeats 8000000
variable {P : Program} {N : FN}
theorem c_sCodeL (hA : C_sAlgebra P N) (hV : C_sVector P N) (hf : isFn P N.spec_l01Code (ir_spec_l01Code N) = true) : C_sCodeL P N := by
  intro a q s hi hq hs
  have hl : (arr q fun i => vecL (s i)).length = q := arr_len ..
  have hal := (algAt_one a).all
  have hA' : Can P N.spec_l01Algebra [algD a] (.val (.bool (dB (sAlgP a)))) := hA hi.b hi.ok
  refine can_of hf rfl rfl ?_
  by_cases g : sAlgP a
  · rw [dB_t g] at hA'
    (repeat' (conv => whnf)<;>first|exact True.intro|(refine if_ ?_ ?_<;>intro h<;>first|exact h.elim|(exfalso; omega)|skip)|refine vs_ ?_|refine dv_ ?_|exact fin_|(show ∃ _, _ ∧ _; refine ex_ ?_ (by first|with_reducible exact rfl|with_reducible exact hal|exact hA'|exact rd_))|(show ∃ _ _, _ ∧ _; refine ex2_ ?_ (by first|with_reducible exact rfl|with_reducible exact hal|exact hA'|exact rd_)))
    conv => whnf
    refine vc_loop (α := Nat) 0 (fun i => q - i) (fun i => i ≤ q ∧ ∀ j, j < i → Small (s j) a.n a.p) [] (fun i => [(5, .d (.int .i64 i))]) (fun i => []) lp_ ?_ ?_
    · (repeat' (conv => whnf)<;>first|exact True.intro|(refine if_ ?_ ?_<;>intro h<;>first|exact h.elim|(exfalso; omega)|skip)|refine vs_ ?_|refine dv_ ?_|exact fin_|(show ∃ _, _ ∧ _; refine ex_ ?_)|(show ∃ _ _, _ ∧ _; refine ex2_ ?_))
    · rintro i ⟨h, hall⟩
      by_cases hlt : i < q
      · by_cases c : Small (s i) a.n a.p
        · have hV' := can_dt (hV (a := a) (hs i)) c
          (repeat' (conv => whnf)<;>first|exact True.intro|(refine if_ ?_ ?_<;>intro h<;>first|exact h.elim|(exfalso; omega)|skip)|refine vs_ ?_|refine dv_ ?_|exact fin_|(show ∃ _, _ ∧ _; refine ex_ ?_ (by first|with_reducible exact rfl|with_reducible exact hal|with_reducible exact rd_vecs (by omega)|exact hV'|exact rd_))|(show ∃ _ _, _ ∧ _; refine ex2_ ?_ (by first|with_reducible exact rfl|with_reducible exact hal|with_reducible exact rd_vecs (by omega)|exact hV'|exact rd_)))
          conv => whnf
          refine ⟨i + 1, ⟨by omega, all_succ hall c⟩, by omega, ?_⟩
          (repeat' (conv => whnf)<;>first|exact True.intro|(refine if_ ?_ ?_<;>intro h<;>first|exact h.elim|(exfalso; omega)|skip)|refine vs_ ?_|refine dv_ ?_|exact fin_|(show ∃ _, _ ∧ _; refine ex_ ?_)|(show ∃ _ _, _ ∧ _; refine ex2_ ?_))
        · have hV' := can_df (hV (a := a) (hs i)) c
          rw [dB_f (fun h => c (h.2 i hlt)), if_neg (by simp)]
          (repeat' (conv => whnf)<;>first|exact True.intro|(refine if_ ?_ ?_<;>intro h<;>first|exact h.elim|(exfalso; omega)|skip)|refine vs_ ?_|refine dv_ ?_|exact fin_|(show ∃ _, _ ∧ _; refine ex_ ?_ (by first|with_reducible exact rfl|with_reducible exact hal|with_reducible exact rd_vecs (by omega)|exact hV'|exact rd_))|(show ∃ _ _, _ ∧ _; refine ex2_ ?_ (by first|with_reducible exact rfl|with_reducible exact hal|with_reducible exact rd_vecs (by omega)|exact hV'|exact rd_)))
      · rw [dB_t ⟨g, fun j hj => hall j (by omega)⟩, if_pos rfl]
        (repeat' (conv => whnf)<;>first|exact True.intro|(refine if_ ?_ ?_<;>intro h<;>first|exact h.elim|(exfalso; omega)|skip)|refine vs_ ?_|refine dv_ ?_|exact fin_|(show ∃ _, _ ∧ _; refine ex_ ?_)|(show ∃ _ _, _ ∧ _; refine ex2_ ?_))
  · rw [dB_f g] at hA'
    rw [dB_f (fun h => g h.1), if_neg (by simp)]
    (repeat' (conv => whnf)<;>first|exact True.intro|(refine if_ ?_ ?_<;>intro h<;>first|exact h.elim|(exfalso; omega)|skip)|refine vs_ ?_|refine dv_ ?_|exact fin_|(show ∃ _, _ ∧ _; refine ex_ ?_ (by first|with_reducible exact rfl|with_reducible exact hal|exact hA'|exact rd_))|(show ∃ _ _, _ ∧ _; refine ex2_ ?_ (by first|with_reducible exact rfl|with_reducible exact hal|exact hA'|exact rd_)))
theorem c_sCodeE (h : C_sCodeL P N) : C_sCodeE P N := by
  intro a hi
  have := h (q := 0) (s := fun _ => Z) hi (by omega) (fun _ _ => by show (0 : Int) ≤ 0 ∧ (0 : Int) ≤ 255; omega)
  rw [dB_congr (show (sAlgP a ∧ AllSm a 0 fun _ => Z) ↔ sAlgP a from ⟨fun h => h.1, fun h => ⟨h, fun i hi => absurd hi (by omega)⟩⟩)] at this
  exact can_emp1 this rfl
end Go.X
