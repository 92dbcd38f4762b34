import Derived.Test.YtphelkciklpakaaW22
import Derived.Test.YtphelkciklpakaaK18
set_option linter.all false
namespace Go.X
open Go Go.RowKit
set_option maxRecDepth 100000
set_option maxHeartbeats 8000000
set_option linter.unusedVariables false
set_option linter.unusedSimpArgs false
variable {P : Program} {N : FN}
theorem c_DAdd (hF : C_from P N) (hW : C_with P N) (hV : C_drawVec P N) (hNr : C_near P N) (hf : isFn P N.spec_DrawAddVectors (ir_spec_DrawAddVectors N) = true) : C_DAdd P N := by
  intro m f hm hb
  obtain ⟨s, hs, F1⟩ := hF hm hb
  obtain ⟨a, v, s1, ha, hv, hs1, W1⟩ := hW hs
  obtain ⟨w, s2, hw, hs2, V1⟩ := hV (a := a) hs1 ha.p
  have hp := ha.p
  obtain ⟨M, hM⟩ : ∃ M : Int, M = if (12 : Int) < (if (0 : Int) > a.p - 1 then 0 else a.p - 1) then 12 else (if (0 : Int) > a.p - 1 then 0 else a.p - 1) := ⟨_, rfl⟩
  have hMb : 0 ≤ M ∧ M ≤ 1000 := by rw [hM]; split <;> split <;> omega
  obtain ⟨x, s3, hx, hs3, R1⟩ := hNr (most := M) hs2 hMb
  rw [hM] at R1
  have r0 : get2 ([algZ].set 0 (splice algZ 0 (algL a))) 0 (0 + 0) = some (.int .i64 a.p) := by rw [sz_alg]; exact (algAt_one a).p
  refine ⟨a, v, cut6 w, x, ha, hv, cut6_ok hw, ?_⟩
  rw [show vecD (cut6 w) = vecD w from congrArg D.agg (cut6_L _)]
  refine can_of hf rfl rfl ?_
  (repeat' (conv => whnf)<;>first|exact True.intro|(refine if_ ?_ ?_<;>intro h<;>first|exact h.elim|(exfalso; omega)|skip)|refine vs_ ?_|refine dv_ ?_|exact fin_|(show ∃ _, _ ∧ _; refine ex_ ?_ (by first|with_reducible exact rfl|with_reducible exact F1|with_reducible exact W1|exact rd_a1|exact rd_v1|with_reducible exact V1|with_reducible exact r0|exact R1|exact rd_))|(show ∃ _ _, _ ∧ _; refine ex2_ ?_ (by first|with_reducible exact rfl|with_reducible exact F1|with_reducible exact W1|exact rd_a1|exact rd_v1|with_reducible exact V1|with_reducible exact r0|exact R1|exact rd_)))
end Go.X
