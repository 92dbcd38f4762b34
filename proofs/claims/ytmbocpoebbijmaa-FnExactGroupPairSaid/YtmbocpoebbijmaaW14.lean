import Derived.Test.YtmbocpoebbijmaaW13
import Derived.Test.YtmbocpoebbijmaaW7
import Derived.Test.YtmbocpoebbijmaaK5
set_option linter.all false
namespace Go.X
open Go Go.RowKit
set_option maxRecDepth 100000
set_option maxHeartbeats 8000000
set_option linter.unusedVariables false
variable {P : Program} {N : FN}
def tyGrp : Ty := .st [.int .i64, tyMat]
theorem has_grp {xs : List D} (h : tyGrp.Has xs) : ∃ g : Grp, xs = grpL g ∧ GrpB g ∧ I64 g.n := by
  obtain ⟨_, _, rfl, ⟨n, rfl, hn⟩, _, _, rfl, hT, rfl⟩ := h
  obtain ⟨T, rfl, bT⟩ := allU8_arr (n := 6) (allU8_arr (n := 6) allU8_int) _ hT
  let g : Grp := ⟨n, fun i j => if i < 6 ∧ j < 6 then T (i * 6 + j) else 0⟩
  refine ⟨g, ?_, ⟨fun i j => ?_⟩, bounds_i64 hn⟩
  · refine arr_of (by simp [cel_len]) fun q hq => ?_
    cases q with
    | zero => rfl
    | succ q =>
      show (cel .u8 36 T ++ [])[q]? = _
      rw [List.append_nil, cel_get (by omega)]
      unfold grpF
      rw [if_neg (by omega)]
      show some (D.int .u8 (T q)) = some (D.int .u8 (if _ then _ else _))
      rw [if_pos (by omega), show (q + 1 - 1) / 6 * 6 + (q + 1 - 1) % 6 = q by omega]
  · show 0 ≤ (if _ then _ else (0 : Int)) ∧ (if _ then _ else (0 : Int)) ≤ 255
    split
    · exact bT _
    · omega
theorem arg_grp {d : D} (h : tyGrp.arg d) : ∃ g : Grp, d = grpD g ∧ GrpB g ∧ I64 g.n := by
  obtain ⟨xs, rfl, h⟩ := h
  obtain ⟨g, rfl, h1, h2⟩ := has_grp h
  exact ⟨g, rfl, h1, h2⟩
def L_GroupPair (P : Program) (N : FN) : Prop := ∀ args, argsHave [.int .i64, tyGrp] args → Can P N.laws_FnExactGroupPair args (.val (.bool true))
theorem l_GroupPair (hG : C_toGroup P N) (hS : C_sGroupPair P N) (hI : C_GroupPair P N) (hE : C_eqPair P N) (hf : isFn P N.laws_FnExactGroupPair (ir_laws_FnExactGroupPair N) = true) : L_GroupPair P N := fun args h => by
  obtain ⟨d1, d2, rfl, h1, h2⟩ := args2 h
  obtain ⟨p, rfl, hp⟩ := arg_i64 h1
  obtain ⟨g, rfl, hb, hn⟩ := arg_grp h2
  have hal := (grpAt_one g).all
  have hG' := hG (g := g)
  have hS' := hS (p := p) hb
  have hI' := hI (p := p) hb
  unfold gpR at hS' hI'
  generalize gpX (dB (GP g)) (decide (p ∈ primes)) p g = x at hS' hI'
  generalize gpC (dB (GP g)) (decide (p ∈ primes)) p g = c at hS' hI'
  have hE' := hE (x := x)
  have l1 : prZ.length = 484 := prZ_len
  have l2 : (pairL x).length = 484 := arr_len ..
  refine can_of hf rfl rfl ?_
  (repeat' (conv => whnf)<;>first|exact True.intro|(refine if_ ?_ ?_<;>intro h<;>first|exact h.elim|(exfalso; omega)|skip)|refine vs_ ?_|refine dv_ ?_|exact fin_|(show ∃ _, _ ∧ _; refine ex_ ?_ (by first|with_reducible exact rfl|with_reducible exact hal|exact hG'|exact hS'|exact hI'|with_reducible exact pair_rd2 prZ_len|exact hE'|exact rd_))|(show ∃ _ _, _ ∧ _; refine ex2_ ?_ (by first|with_reducible exact rfl|with_reducible exact hal|exact hG'|exact hS'|exact hI'|with_reducible exact pair_rd2 prZ_len|exact hE'|exact rd_)))
end Go.X
