import Derived.Test.YtiefibobgdbcdaaK13
import Derived.Test.YtiefibobgdbcdaaK1
set_option linter.all false
namespace Go.X
open Go Go.RowKit
set_option maxRecDepth 100000
set_option maxHeartbeats 8000000
set_option linter.unusedVariables false
variable {P : Program} {N : FN}
def gtL (g : Grp) : List D := arr 36 fun q => .int .u8 (g.t (q / 6) (q % 6))
theorem grp_tab {l : List (List D)} {e off : Nat} {g : Grp} (h : GrpAt l e off g) : sub2 l e (off + 1) 36 = some (gtL g) := by
  have hall := h.all
  unfold sub2 at hall ⊢
  cases hl : l[e]? with
  | none => rw [hl] at hall; cases hall
  | some r =>
    rw [hl] at hall
    obtain ⟨h1, h2, h3⟩ := cut_some (show cut r off 37 = some (grpL g) from hall)
    show cut r (off + 1) 36 = _
    unfold cut
    rw [if_pos (by omega)]
    refine congrArg some (arr_of (by rw [List.length_take, List.length_drop]; omega) fun q hq => ?_)
    rw [List.getElem?_take, if_pos hq, List.getElem?_drop, show off + 1 + q = off + (q + 1) by omega, ← h3 (q + 1) (by omega)]
    show (arr 37 (grpF g))[q + 1]? = _
    rw [arr_get (by omega)]
    unfold grpF
    rw [if_neg (by omega), show q + 1 - 1 = q by omega]
theorem c_gN (hf : isFn P N.impl_Group_n (ir_impl_Group_n N) = true) : C_gN P N := by
  intro sz l e off g hat
  refine can_of hf rfl rfl ?_
  (repeat' (conv => whnf)<;>first|exact True.intro|(refine if_ ?_ ?_<;>intro h<;>first|exact h.elim|(exfalso; omega)|skip)|refine vs_ ?_|refine dv_ ?_|exact fin_|(show ∃ _, _ ∧ _; refine ex_ ?_ (by first|with_reducible exact rfl|exact hat.n|exact rd_))|(show ∃ _ _, _ ∧ _; refine ex2_ ?_ (by first|with_reducible exact rfl|exact hat.n|exact rd_)))
theorem c_gTimes (hf : isFn P N.impl_Group_times (ir_impl_Group_times N) = true) : C_gTimes P N := by
  intro sz l e off g i j hat hb hi hj
  have h1 := hb.b i j
  refine can_of hf rfl rfl ?_
  (repeat' (conv => whnf)<;>first|exact True.intro|(refine if_ ?_ ?_<;>intro h<;>first|exact h.elim|(exfalso; omega)|skip)|refine vs_ ?_|refine dv_ ?_|exact fin_|(show ∃ _, _ ∧ _; refine ex_ ?_ (by first|with_reducible exact rfl|with_reducible exact hat.t hi hj|exact rd_))|(show ∃ _ _, _ ∧ _; refine ex2_ ?_ (by first|with_reducible exact rfl|with_reducible exact hat.t hi hj|exact rd_)))
theorem c_gInverse (hN : C_gN P N) (hT : C_gTimes P N) (hf : isFn P N.impl_Group_inverse (ir_impl_Group_inverse N) = true) : C_gInverse P N := by
  intro sz l e off g i hat hb hn hi
  have hN' : Can P N.impl_Group_n [.pd sz l e off] (.val (.int .i64 g.n)) := hN hat
  refine can_of hf rfl rfl ?_
  (repeat' (conv => whnf)<;>first|exact True.intro|(refine if_ ?_ ?_<;>intro h<;>first|exact h.elim|(exfalso; omega)|skip)|refine vs_ ?_|refine dv_ ?_|exact fin_|(show ∃ _, _ ∧ _; refine ex_ ?_ (by first|with_reducible exact rfl|exact hN'|exact rd_))|(show ∃ _ _, _ ∧ _; refine ex2_ ?_ (by first|with_reducible exact rfl|exact hN'|exact rd_)))
  conv => whnf
  refine vc_loop (α := Nat) 0 (fun j => g.n.toNat - j) (fun j => j ≤ g.n.toNat ∧ ∀ q, q < j → decide (g.t i q = 0 ∧ g.t q i = 0) = false) [] (fun j => [(8, .d (.int .i64 j))]) (fun j => []) lp_ ?_ ?_
  · (repeat' (conv => whnf)<;>first|exact True.intro|(refine if_ ?_ ?_<;>intro h<;>first|exact h.elim|(exfalso; omega)|skip)|refine vs_ ?_|refine dv_ ?_|exact fin_|(show ∃ _, _ ∧ _; refine ex_ ?_)|(show ∃ _ _, _ ∧ _; refine ex2_ ?_))
  · rintro j ⟨hj, hall⟩
    by_cases hlt : j < g.n.toNat
    · have hT1 := hT (sz := sz) hat hb hi (show j < 6 by omega)
      have hT2 := hT (sz := sz) hat hb (show j < 6 by omega) hi
      by_cases c1 : g.t i j = 0
      · by_cases c2 : g.t j i = 0
        · rw [idxF_some hlt (decide_eq_true ⟨c1, c2⟩) hall]
          (repeat' (conv => whnf)<;>first|exact True.intro|(refine if_ ?_ ?_<;>intro h<;>first|exact h.elim|(exfalso; omega)|skip)|refine vs_ ?_|refine dv_ ?_|exact fin_|(show ∃ _, _ ∧ _; refine ex_ ?_ (by first|with_reducible exact rfl|exact hT1|exact hT2|exact rd_))|(show ∃ _ _, _ ∧ _; refine ex2_ ?_ (by first|with_reducible exact rfl|exact hT1|exact hT2|exact rd_)))
        · (repeat' (conv => whnf)<;>first|exact True.intro|(refine if_ ?_ ?_<;>intro h<;>first|exact h.elim|(exfalso; omega)|skip)|refine vs_ ?_|refine dv_ ?_|exact fin_|(show ∃ _, _ ∧ _; refine ex_ ?_ (by first|with_reducible exact rfl|exact hT1|exact hT2|exact rd_))|(show ∃ _ _, _ ∧ _; refine ex2_ ?_ (by first|with_reducible exact rfl|exact hT1|exact hT2|exact rd_)))
          all_goals (conv => whnf)
          all_goals (refine ⟨j + 1, ⟨by omega, all_succ hall (decide_eq_false fun h => c2 h.2)⟩, by omega, ?_⟩)
          all_goals (repeat' (conv => whnf)<;>first|exact True.intro|(refine if_ ?_ ?_<;>intro h<;>first|exact h.elim|(exfalso; omega)|skip)|refine vs_ ?_|refine dv_ ?_|exact fin_|(show ∃ _, _ ∧ _; refine ex_ ?_)|(show ∃ _ _, _ ∧ _; refine ex2_ ?_))
      · (repeat' (conv => whnf)<;>first|exact True.intro|(refine if_ ?_ ?_<;>intro h<;>first|exact h.elim|(exfalso; omega)|skip)|refine vs_ ?_|refine dv_ ?_|exact fin_|(show ∃ _, _ ∧ _; refine ex_ ?_ (by first|with_reducible exact rfl|exact hT1|exact rd_))|(show ∃ _ _, _ ∧ _; refine ex2_ ?_ (by first|with_reducible exact rfl|exact hT1|exact rd_)))
        all_goals (conv => whnf)
        all_goals (refine ⟨j + 1, ⟨by omega, all_succ hall (decide_eq_false fun h => c1 h.1)⟩, by omega, ?_⟩)
        all_goals (repeat' (conv => whnf)<;>first|exact True.intro|(refine if_ ?_ ?_<;>intro h<;>first|exact h.elim|(exfalso; omega)|skip)|refine vs_ ?_|refine dv_ ?_|exact fin_|(show ∃ _, _ ∧ _; refine ex_ ?_)|(show ∃ _ _, _ ∧ _; refine ex2_ ?_))
    · rw [idxF_none fun q hq => hall q (by omega)]
      (repeat' (conv => whnf)<;>first|exact True.intro|(refine if_ ?_ ?_<;>intro h<;>first|exact h.elim|(exfalso; omega)|skip)|refine vs_ ?_|refine dv_ ?_|exact fin_|(show ∃ _, _ ∧ _; refine ex_ ?_)|(show ∃ _ _, _ ∧ _; refine ex2_ ?_))
def entQ (g : Grp) (i j : Nat) : Prop := if (i : Int) < g.n ∧ (j : Int) < g.n then g.t i j < g.n else g.t i j = 0
theorem cut_gt {g : Grp} {i : Nat} (h : i < 6) : cut (gtL g) (((i : Nat) : Int).toNat * 6) 6 = some (vecL (g.t i)) := by
  unfold cut
  rw [if_pos (by rw [show (gtL g).length = 36 from arr_len ..]; omega)]
  refine congrArg some (arr_of (by rw [List.length_take, List.length_drop, show (gtL g).length = 36 from arr_len ..]; omega) fun q hq => ?_)
  rw [List.getElem?_take, if_pos hq, List.getElem?_drop]
  show (arr 36 _)[_]? = _
  rw [arr_get (by omega), Int.toNat_natCast, show (i * 6 + q) / 6 = i by omega, show (i * 6 + q) % 6 = q by omega]
theorem c_gEntries (hN : C_gN P N) (hf : isFn P N.impl_Group_entriesOk (ir_impl_Group_entriesOk N) = true) : C_gEntries P N := by
  intro sz l e off g hat hb
  have hN' : Can P N.impl_Group_n [.pd sz l e off] (.val (.int .i64 g.n)) := hN hat
  refine can_of hf rfl rfl ?_
  (repeat' (conv => whnf)<;>first|exact True.intro|(refine if_ ?_ ?_<;>intro h<;>first|exact h.elim|(exfalso; omega)|skip)|refine vs_ ?_|refine dv_ ?_|exact fin_|(show ∃ _, _ ∧ _; refine ex_ ?_ (by first|with_reducible exact rfl|exact grp_tab hat|exact rd_))|(show ∃ _ _, _ ∧ _; refine ex2_ ?_ (by first|with_reducible exact rfl|exact grp_tab hat|exact rd_)))
  conv => whnf
  refine vc_loop (α := Nat) 0 (fun i => 6 - i) (fun i => i ≤ 6 ∧ ∀ q, q < i → ∀ j, j < 6 → entQ g q j) [] (fun i => [(12, .d (.int .i64 i))]) (fun i => []) lp_ ?_ ?_
  · (repeat' (conv => whnf)<;>first|exact True.intro|(refine if_ ?_ ?_<;>intro h<;>first|exact h.elim|(exfalso; omega)|skip)|refine vs_ ?_|refine dv_ ?_|exact fin_|(show ∃ _, _ ∧ _; refine ex_ ?_)|(show ∃ _ _, _ ∧ _; refine ex2_ ?_))
  · rintro i ⟨hi, hall⟩
    by_cases hlt : i < 6
    · (repeat' (conv => whnf)<;>first|exact True.intro|(refine if_ ?_ ?_<;>intro h<;>first|exact h.elim|(exfalso; omega)|skip)|refine vs_ ?_|refine dv_ ?_|exact fin_|(show ∃ _, _ ∧ _; refine ex_ ?_ (by first|with_reducible exact rfl|exact cut_gt hlt|exact rd_))|(show ∃ _ _, _ ∧ _; refine ex2_ ?_ (by first|with_reducible exact rfl|exact cut_gt hlt|exact rd_)))
      conv => whnf
      refine vc_loop (α := Nat) 0 (fun j => 6 - j) (fun j => j ≤ 6 ∧ ∀ q, q < j → entQ g i q) [] (fun j => [(17, .d (.int .i64 j))]) (fun j => []) lp_ ?_ ?_
      · (repeat' (conv => whnf)<;>first|exact True.intro|(refine if_ ?_ ?_<;>intro h<;>first|exact h.elim|(exfalso; omega)|skip)|refine vs_ ?_|refine dv_ ?_|exact fin_|(show ∃ _, _ ∧ _; refine ex_ ?_)|(show ∃ _ _, _ ∧ _; refine ex2_ ?_))
      · rintro j ⟨hj, hall2⟩
        have hbd := hb.b i j
        by_cases hlt2 : j < 6
        · by_cases c1 : (i : Int) < g.n
          · by_cases c2 : (j : Int) < g.n
            · by_cases c3 : g.t i j < g.n
              · (repeat' (conv => whnf)<;>first|exact True.intro|(refine if_ ?_ ?_<;>intro h<;>first|exact h.elim|(exfalso; omega)|skip)|refine vs_ ?_|refine dv_ ?_|exact fin_|(show ∃ _, _ ∧ _; refine ex_ ?_ (by first|with_reducible exact rfl|exact hN'|exact rd_idx (by omega)|exact hat.n|exact rd_))|(show ∃ _ _, _ ∧ _; refine ex2_ ?_ (by first|with_reducible exact rfl|exact hN'|exact rd_idx (by omega)|exact hat.n|exact rd_)))
                all_goals (conv => whnf)
                all_goals (refine ⟨j + 1, ⟨by omega, all_succ hall2 (by unfold entQ; rw [if_pos ⟨c1, c2⟩]; exact c3)⟩, by omega, ?_⟩)
                all_goals (repeat' (conv => whnf)<;>first|exact True.intro|(refine if_ ?_ ?_<;>intro h<;>first|exact h.elim|(exfalso; omega)|skip)|refine vs_ ?_|refine dv_ ?_|exact fin_|(show ∃ _, _ ∧ _; refine ex_ ?_)|(show ∃ _ _, _ ∧ _; refine ex2_ ?_))
              · rw [dB_f fun h => c3 (by have := h i j hlt hlt2; rwa [if_pos ⟨c1, c2⟩] at this)]
                (repeat' (conv => whnf)<;>first|exact True.intro|(refine if_ ?_ ?_<;>intro h<;>first|exact h.elim|(exfalso; omega)|skip)|refine vs_ ?_|refine dv_ ?_|exact fin_|(show ∃ _, _ ∧ _; refine ex_ ?_ (by first|with_reducible exact rfl|exact hN'|exact rd_idx (by omega)|exact hat.n|exact rd_))|(show ∃ _ _, _ ∧ _; refine ex2_ ?_ (by first|with_reducible exact rfl|exact hN'|exact rd_idx (by omega)|exact hat.n|exact rd_)))
            · by_cases c3 : g.t i j = 0
              · (repeat' (conv => whnf)<;>first|exact True.intro|(refine if_ ?_ ?_<;>intro h<;>first|exact h.elim|(exfalso; omega)|skip)|refine vs_ ?_|refine dv_ ?_|exact fin_|(show ∃ _, _ ∧ _; refine ex_ ?_ (by first|with_reducible exact rfl|exact hN'|exact rd_idx (by omega)|exact hat.n|exact rd_))|(show ∃ _ _, _ ∧ _; refine ex2_ ?_ (by first|with_reducible exact rfl|exact hN'|exact rd_idx (by omega)|exact hat.n|exact rd_)))
                all_goals (conv => whnf)
                all_goals (refine ⟨j + 1, ⟨by omega, all_succ hall2 (by unfold entQ; rw [if_neg (fun h => c2 h.2)]; exact c3)⟩, by omega, ?_⟩)
                all_goals (repeat' (conv => whnf)<;>first|exact True.intro|(refine if_ ?_ ?_<;>intro h<;>first|exact h.elim|(exfalso; omega)|skip)|refine vs_ ?_|refine dv_ ?_|exact fin_|(show ∃ _, _ ∧ _; refine ex_ ?_)|(show ∃ _ _, _ ∧ _; refine ex2_ ?_))
              · rw [dB_f fun h => c3 (by have := h i j hlt hlt2; rwa [if_neg (fun h => c2 h.2)] at this)]
                (repeat' (conv => whnf)<;>first|exact True.intro|(refine if_ ?_ ?_<;>intro h<;>first|exact h.elim|(exfalso; omega)|skip)|refine vs_ ?_|refine dv_ ?_|exact fin_|(show ∃ _, _ ∧ _; refine ex_ ?_ (by first|with_reducible exact rfl|exact hN'|exact rd_idx (by omega)|exact hat.n|exact rd_))|(show ∃ _ _, _ ∧ _; refine ex2_ ?_ (by first|with_reducible exact rfl|exact hN'|exact rd_idx (by omega)|exact hat.n|exact rd_)))
          · by_cases c3 : g.t i j = 0
            · (repeat' (conv => whnf)<;>first|exact True.intro|(refine if_ ?_ ?_<;>intro h<;>first|exact h.elim|(exfalso; omega)|skip)|refine vs_ ?_|refine dv_ ?_|exact fin_|(show ∃ _, _ ∧ _; refine ex_ ?_ (by first|with_reducible exact rfl|exact hN'|exact rd_idx (by omega)|exact hat.n|exact rd_))|(show ∃ _ _, _ ∧ _; refine ex2_ ?_ (by first|with_reducible exact rfl|exact hN'|exact rd_idx (by omega)|exact hat.n|exact rd_)))
              all_goals (conv => whnf)
              all_goals (refine ⟨j + 1, ⟨by omega, all_succ hall2 (by unfold entQ; rw [if_neg (fun h => c1 h.1)]; exact c3)⟩, by omega, ?_⟩)
              all_goals (repeat' (conv => whnf)<;>first|exact True.intro|(refine if_ ?_ ?_<;>intro h<;>first|exact h.elim|(exfalso; omega)|skip)|refine vs_ ?_|refine dv_ ?_|exact fin_|(show ∃ _, _ ∧ _; refine ex_ ?_)|(show ∃ _ _, _ ∧ _; refine ex2_ ?_))
            · rw [dB_f fun h => c3 (by have := h i j hlt hlt2; rwa [if_neg (fun h => c1 h.1)] at this)]
              (repeat' (conv => whnf)<;>first|exact True.intro|(refine if_ ?_ ?_<;>intro h<;>first|exact h.elim|(exfalso; omega)|skip)|refine vs_ ?_|refine dv_ ?_|exact fin_|(show ∃ _, _ ∧ _; refine ex_ ?_ (by first|with_reducible exact rfl|exact hN'|exact rd_idx (by omega)|exact hat.n|exact rd_))|(show ∃ _ _, _ ∧ _; refine ex2_ ?_ (by first|with_reducible exact rfl|exact hN'|exact rd_idx (by omega)|exact hat.n|exact rd_)))
        · (repeat' (conv => whnf)<;>first|exact True.intro|(refine if_ ?_ ?_<;>intro h<;>first|exact h.elim|(exfalso; omega)|skip)|refine vs_ ?_|refine dv_ ?_|exact fin_|(show ∃ _, _ ∧ _; refine ex_ ?_)|(show ∃ _ _, _ ∧ _; refine ex2_ ?_))
          conv => whnf
          refine ⟨i + 1, ⟨by omega, all_succ hall fun q hq => hall2 q (by omega)⟩, by omega, ?_⟩
          (repeat' (conv => whnf)<;>first|exact True.intro|(refine if_ ?_ ?_<;>intro h<;>first|exact h.elim|(exfalso; omega)|skip)|refine vs_ ?_|refine dv_ ?_|exact fin_|(show ∃ _, _ ∧ _; refine ex_ ?_)|(show ∃ _ _, _ ∧ _; refine ex2_ ?_))
    · rw [dB_t (p := entP g) fun i' j hi' hj => hall i' (by omega) j hj]
      (repeat' (conv => whnf)<;>first|exact True.intro|(refine if_ ?_ ?_<;>intro h<;>first|exact h.elim|(exfalso; omega)|skip)|refine vs_ ?_|refine dv_ ?_|exact fin_|(show ∃ _, _ ∧ _; refine ex_ ?_)|(show ∃ _ _, _ ∧ _; refine ex2_ ?_))
end Go.X
namespace Go.X
open Go Go.RowKit
set_option maxRecDepth 100000
set_option maxHeartbeats 8000000
variable {P : Program} {N : FN}
theorem wk_u64 {x : Int} {K : Int → Prop} (h : 0 ≤ x ∧ x ≤ 18446744073709551615) (hk : K x) : wrapK .u64 x K := by
  refine .mk ?_
  have e : IntKind.u64.wrap x = x := by
    show x % 18446744073709551616 = x
    omega
  rw [e]; exact hk
end Go.X
namespace Go.X
open Go Go.RowKit
set_option maxRecDepth 100000
set_option maxHeartbeats 8000000
variable {P : Program} {N : FN}
theorem len_size : lenS.size = 256 := by decide +kernel
theorem len_get {x : Nat} (h : x ≤ 12) : lenS[x]? = some (lenU x) := by
  match x, h with
  | 0, _ => rfl
  | 1, _ => rfl
  | 2, _ => rfl
  | 3, _ => rfl
  | 4, _ => rfl
  | 5, _ => rfl
  | 6, _ => rfl
  | 7, _ => rfl
  | 8, _ => rfl
  | 9, _ => rfl
  | 10, _ => rfl
  | 11, _ => rfl
  | 12, _ => rfl
theorem len_bd {x : Nat} : ((lenU x).toNat : Int) ≤ 255 := by
  have := (lenU x).toNat_lt
  omega
theorem c_Len64 (hf : isFn P N.math_bits_Len64 (ir_math_bits_Len64 N) = true) : C_Len64 P N := by
  intro x hx
  have hb := len_bd (x := x)
  refine can_of hf rfl rfl ?_
  (repeat' (conv => whnf)<;>first|exact True.intro|(refine if_ ?_ ?_<;>intro h<;>first|exact h.elim|(exfalso; omega)|skip)|refine vs_ ?_|refine dv_ ?_|exact fin_|(show ∃ _, _ ∧ _; refine ex_ ?_)|(show ∃ _ _, _ ∧ _; refine ex2_ ?_))
  conv => whnf
  refine ⟨⟨by omega, ?_⟩, lenU x, ?_, ?_⟩
  · show (x : Int) < ((lenS.size : Nat) : Int)
    rw [len_size]; omega
  · show lenS[((x : Nat) : Int).toNat]? = some (lenU x)
    rw [Int.toNat_natCast]; exact len_get hx
  · unfold lenB
    (repeat' (conv => whnf)<;>first|exact True.intro|(refine if_ ?_ ?_<;>intro h<;>first|exact h.elim|(exfalso; omega)|skip)|refine vs_ ?_|refine dv_ ?_|exact fin_|(show ∃ _, _ ∧ _; refine ex_ ?_)|(show ∃ _ _, _ ∧ _; refine ex2_ ?_))
theorem c_Len (hL : C_Len64 P N) (hf : isFn P N.math_bits_Len (ir_math_bits_Len N) = true) : C_Len P N := by
  intro x hx
  have hL' := hL hx
  refine can_of hf rfl rfl ?_
  (repeat' (conv => whnf)<;>first|exact True.intro|(refine if_ ?_ ?_<;>intro h<;>first|exact h.elim|(exfalso; omega)|skip)|refine vs_ ?_|refine dv_ ?_|exact fin_|(show ∃ _, _ ∧ _; refine ex_ ?_ (by first|with_reducible exact rfl|exact hL'|exact rd_))|(show ∃ _ _, _ ∧ _; refine ex2_ ?_ (by first|with_reducible exact rfl|exact hL'|exact rd_)))
end Go.X
