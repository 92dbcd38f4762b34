import Derived.Test.YtphelkciklpakaaW19
set_option linter.all false
namespace Go.X
open Go Go.RowKit
set_option maxRecDepth 100000
set_option maxHeartbeats 8000000
set_option linter.unusedVariables false
set_option linter.unusedSimpArgs false
variable {P : Program} {N : FN}
def C_DMul (P : Program) (N : FN) : Prop := ∀ {m : Nat} {f : Nat → Int}, m ≤ 4096 → (∀ i, 0 ≤ f i ∧ f i ≤ 255) → ∃ a v w, DrA a ∧ DrV v ∧ DrV w ∧ Can P N.spec_DrawMultiplyVectors [.lst 1 (nbL f m)] (.tup [algD a, vecD v, vecD w])
theorem c_DMul (hF : C_from P N) (hW : C_with P N) (hV : C_drawVec P N) (hf : isFn P N.spec_DrawMultiplyVectors (ir_spec_DrawMultiplyVectors N) = true) : C_DMul P N := by
  intro m f hm hb
  obtain ⟨s, hs, F1⟩ := hF hm hb
  obtain ⟨a, v, s1, ha, hv, hs1, W1⟩ := hW hs
  obtain ⟨w, s2, hw, hs2, V1⟩ := hV (a := a) hs1 ha.p
  have r1 : sub2 ([algZ].set 0 (splice algZ 0 (algL a))) 0 0 224 = some (algL a) := by rw [sz_alg]; exact (algAt_one a).all
  refine ⟨a, v, cut6 w, ha, hv, cut6_ok hw, ?_⟩
  rw [show vecD (cut6 w) = vecD w from congrArg D.agg (cut6_L _)]
  refine can_of hf rfl rfl ?_
  (repeat' (conv => whnf)<;>first|exact True.intro|(refine if_ ?_ ?_<;>intro h<;>first|exact h.elim|(exfalso; omega)|skip)|refine vs_ ?_|refine dv_ ?_|exact fin_|(show ∃ _, _ ∧ _; refine ex_ ?_ (by first|with_reducible exact rfl|with_reducible exact F1|with_reducible exact W1|with_reducible exact r1|exact rd_v1|with_reducible exact V1|exact rd_))|(show ∃ _ _, _ ∧ _; refine ex2_ ?_ (by first|with_reducible exact rfl|with_reducible exact F1|with_reducible exact W1|with_reducible exact r1|exact rd_v1|with_reducible exact V1|exact rd_)))
def C_DPow (P : Program) (N : FN) : Prop := ∀ {m : Nat} {f : Nat → Int}, m ≤ 4096 → (∀ i, 0 ≤ f i ∧ f i ≤ 255) → ∃ a v k, DrA a ∧ DrV v ∧ Can P N.spec_DrawPowerVector [.lst 1 (nbL f m)] (.tup [algD a, vecD v, .int .i64 k])
theorem c_DPow (hF : C_from P N) (hW : C_with P N) (hNr : C_near P N) (hK : C_pick P N) (hf : isFn P N.spec_DrawPowerVector (ir_spec_DrawPowerVector N) = true) : C_DPow P N := by
  intro m f hm hb
  obtain ⟨s, hs, F1⟩ := hF hm hb
  obtain ⟨a, v, s1, ha, hv, hs1, W1⟩ := hW hs
  obtain ⟨x, s2, hx, hs2, R1⟩ := hNr (most := 100) hs1 (by omega)
  have r1 : sub2 ([algZ].set 0 (splice algZ 0 (algL a))) 0 0 224 = some (algL a) := by rw [sz_alg]; exact (algAt_one a).all
  have K1 := hK (m := 6) (f := litF [0, 1, 2, 3, x, 1001]) hs2 (by omega)
  rw [show rowD 6 (litF [0, 1, 2, 3, x, 1001]) = D.lst 1 [[.int .i64 0], [.int .i64 1], [.int .i64 2], [.int .i64 3], [.int .i64 x], [.int .i64 1001]] from rfl] at K1
  refine ⟨a, v, litF [0, 1, 2, 3, x, 1001] (nextV s2 ((6 : Nat) : Int)).toNat, ha, hv, ?_⟩
  refine can_of hf rfl rfl ?_
  (repeat' (conv => whnf)<;>first|exact True.intro|(refine if_ ?_ ?_<;>intro h<;>first|exact h.elim|(exfalso; omega)|skip)|refine vs_ ?_|refine dv_ ?_|exact fin_|(show ∃ _, _ ∧ _; refine ex_ ?_ (by first|with_reducible exact rfl|with_reducible exact F1|with_reducible exact W1|with_reducible exact r1|exact rd_v1|with_reducible exact R1|exact K1|exact rd_))|(show ∃ _ _, _ ∧ _; refine ex2_ ?_ (by first|with_reducible exact rfl|with_reducible exact F1|with_reducible exact W1|with_reducible exact r1|exact rd_v1|with_reducible exact R1|exact K1|exact rd_)))
def C_DAV (P : Program) (g : FuncId) : Prop := ∀ {m : Nat} {f : Nat → Int}, m ≤ 4096 → (∀ i, 0 ≤ f i ∧ f i ≤ 255) → ∃ a v, DrA a ∧ DrV v ∧ Can P g [.lst 1 (nbL f m)] (.tup [algD a, vecD v])
theorem c_DInv (hF : C_from P N) (hW : C_with P N) (hf : isFn P N.spec_DrawInverseVector (ir_spec_DrawInverseVector N) = true) : C_DAV P N.spec_DrawInverseVector := by
  intro m f hm hb
  obtain ⟨s, hs, F1⟩ := hF hm hb
  obtain ⟨a, v, s1, ha, hv, hs1, W1⟩ := hW hs
  have r1 : sub2 ([algZ].set 0 (splice algZ 0 (algL a))) 0 0 224 = some (algL a) := by rw [sz_alg]; exact (algAt_one a).all
  refine ⟨a, v, ha, hv, ?_⟩
  refine can_of hf rfl rfl ?_
  (repeat' (conv => whnf)<;>first|exact True.intro|(refine if_ ?_ ?_<;>intro h<;>first|exact h.elim|(exfalso; omega)|skip)|refine vs_ ?_|refine dv_ ?_|exact fin_|(show ∃ _, _ ∧ _; refine ex_ ?_ (by first|with_reducible exact rfl|with_reducible exact F1|with_reducible exact W1|with_reducible exact r1|exact rd_v1|exact rd_))|(show ∃ _ _, _ ∧ _; refine ex2_ ?_ (by first|with_reducible exact rfl|with_reducible exact F1|with_reducible exact W1|with_reducible exact r1|exact rd_v1|exact rd_)))
theorem c_DForm (hF : C_from P N) (hW : C_with P N) (hf : isFn P N.spec_DrawFormOf (ir_spec_DrawFormOf N) = true) : C_DAV P N.spec_DrawFormOf := by
  intro m f hm hb
  obtain ⟨s, hs, F1⟩ := hF hm hb
  obtain ⟨a, v, s1, ha, hv, hs1, W1⟩ := hW hs
  have r1 : sub2 ([algZ].set 0 (splice algZ 0 (algL a))) 0 0 224 = some (algL a) := by rw [sz_alg]; exact (algAt_one a).all
  refine ⟨a, v, ha, hv, ?_⟩
  refine can_of hf rfl rfl ?_
  (repeat' (conv => whnf)<;>first|exact True.intro|(refine if_ ?_ ?_<;>intro h<;>first|exact h.elim|(exfalso; omega)|skip)|refine vs_ ?_|refine dv_ ?_|exact fin_|(show ∃ _, _ ∧ _; refine ex_ ?_ (by first|with_reducible exact rfl|with_reducible exact F1|with_reducible exact W1|with_reducible exact r1|exact rd_v1|exact rd_))|(show ∃ _ _, _ ∧ _; refine ex2_ ?_ (by first|with_reducible exact rfl|with_reducible exact F1|with_reducible exact W1|with_reducible exact r1|exact rd_v1|exact rd_)))
def C_DA (P : Program) (g : FuncId) : Prop := ∀ {m : Nat} {f : Nat → Int}, m ≤ 4096 → (∀ i, 0 ≤ f i ∧ f i ≤ 255) → ∃ a, DrA a ∧ Can P g [.lst 1 (nbL f m)] (.val (algD a))
theorem c_DUnit (hF : C_from P N) (hS : C_spoil P N) (hf : isFn P N.spec_DrawUnitOf (ir_spec_DrawUnitOf N) = true) : C_DA P N.spec_DrawUnitOf := by
  intro m f hm hb
  obtain ⟨s, hs, F1⟩ := hF hm hb
  obtain ⟨a, s1, ha, hs1, S1⟩ := hS hs
  refine ⟨a, ha, ?_⟩
  refine can_of hf rfl rfl ?_
  (repeat' (conv => whnf)<;>first|exact True.intro|(refine if_ ?_ ?_<;>intro h<;>first|exact h.elim|(exfalso; omega)|skip)|refine vs_ ?_|refine dv_ ?_|exact fin_|(show ∃ _, _ ∧ _; refine ex_ ?_ (by first|with_reducible exact rfl|with_reducible exact F1|with_reducible exact S1|exact rd_))|(show ∃ _ _, _ ∧ _; refine ex2_ ?_ (by first|with_reducible exact rfl|with_reducible exact F1|with_reducible exact S1|exact rd_)))
end Go.X
