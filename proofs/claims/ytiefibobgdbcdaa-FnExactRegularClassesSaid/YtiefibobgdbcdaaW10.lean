import Derived.Test.YtiefibobgdbcdaaK17
import Derived.Test.YtiefibobgdbcdaaW7
import Derived.Test.YtiefibobgdbcdaaW1
import Derived.Test.YtiefibobgdbcdaaW9
set_option linter.all false
namespace Go.X
open Go Go.RowKit
set_option maxRecDepth 100000
set_option maxHeartbeats 8000000
set_option linter.unusedVariables false
variable {P : Program} {N : FN}
theorem c_sz1 (hf : isFn P N.laws_szInt64S (ir_laws_szInt64S N) = true) : C_sz1 P N := by
  intro m f k hm hk
  have hl : (row m f).length = m := row_len ..
  refine can_of hf rfl rfl ?_
  by_cases g : k < m
  · rw [if_pos g]
    (repeat' (conv => whnf)<;>first|exact True.intro|(refine if_ ?_ ?_<;>intro h<;>first|exact h.elim|(exfalso; omega)|skip)|refine vs_ ?_|refine dv_ ?_|exact fin_|(show ∃ _, _ ∧ _; refine ex_ ?_)|(show ∃ _ _, _ ∧ _; refine ex2_ ?_))
  · rw [if_neg g]
    (repeat' (conv => whnf)<;>first|exact True.intro|(refine if_ ?_ ?_<;>intro h<;>first|exact h.elim|(exfalso; omega)|skip)|refine vs_ ?_|refine dv_ ?_|exact fin_|(show ∃ _, _ ∧ _; refine ex_ ?_)|(show ∃ _ _, _ ∧ _; refine ex2_ ?_))
    all_goals (conv => whnf)
    all_goals rw [hl]
theorem c_szSS (hZ : C_sz1 P N) (hf : isFn P N.laws_szInt64SS (ir_laws_szInt64SS N) = true) : C_szSS P N := by
  intro t k hm hn hk
  have hl := tbL_len t
  have h0 : lenT t 0 = 0 := rfl
  refine can_of hf rfl rfl ?_
  by_cases g : k < (t.m : Int) + lenT t t.m
  · unfold szT
    rw [if_pos g]
    (repeat' (conv => whnf)<;>first|exact True.intro|(refine if_ ?_ ?_<;>intro h<;>first|exact h.elim|(exfalso; omega)|skip)|refine vs_ ?_|refine dv_ ?_|exact fin_|(show ∃ _, _ ∧ _; refine ex_ ?_)|(show ∃ _ _, _ ∧ _; refine ex2_ ?_))
    conv => whnf
    refine vc_loop (α := Nat) 0 (fun i => t.m - i) (fun i => i ≤ t.m ∧ 0 ≤ k - t.m - lenT t i) [] (fun i => [(0, .d (tbD t)), (1, .d (.int .i64 (k - t.m - lenT t i))), (5, .d (.int .i64 i))]) (fun i => []) lp_ ?_ ?_
    · rw [show k - (t.m : Int) - (lenT t 0 : Int) = k - t.m from by show k - (t.m : Int) - ((0 : Nat) : Int) = _; omega]
      (repeat' (conv => whnf)<;>first|exact True.intro|(refine if_ ?_ ?_<;>intro h<;>first|exact h.elim|(exfalso; omega)|skip)|refine vs_ ?_|refine dv_ ?_|exact fin_|(show ∃ _, _ ∧ _; refine ex_ ?_)|(show ∃ _ _, _ ∧ _; refine ex2_ ?_))
    · rintro i ⟨hi, hge⟩
      by_cases hlt : i < t.m
      · have hs := lenT_s t i
        have hni := hn i hlt
        have hZ' := hZ (m := t.n i) (f := t.f i) (k := k - t.m - lenT t i) hni (by omega)
        by_cases c : k - t.m - lenT t i < t.n i
        · rw [if_pos c] at hZ'
          (repeat' (conv => whnf)<;>first|exact True.intro|(refine if_ ?_ ?_<;>intro h<;>first|exact h.elim|(exfalso; omega)|skip)|refine vs_ ?_|refine dv_ ?_|exact fin_|(show ∃ _, _ ∧ _; refine ex_ ?_ (by first|with_reducible exact rfl|with_reducible exact tb_get hlt|exact hZ'|exact rd_))|(show ∃ _ _, _ ∧ _; refine ex2_ ?_ (by first|with_reducible exact rfl|with_reducible exact tb_get hlt|exact hZ'|exact rd_)))
        · rw [if_neg c] at hZ'
          (repeat' (conv => whnf)<;>first|exact True.intro|(refine if_ ?_ ?_<;>intro h<;>first|exact h.elim|(exfalso; omega)|skip)|refine vs_ ?_|refine dv_ ?_|exact fin_|(show ∃ _, _ ∧ _; refine ex_ ?_ (by first|with_reducible exact rfl|with_reducible exact tb_get hlt|exact hZ'|exact rd_))|(show ∃ _ _, _ ∧ _; refine ex2_ ?_ (by first|with_reducible exact rfl|with_reducible exact tb_get hlt|exact hZ'|exact rd_)))
          conv => whnf
          refine ⟨i + 1, ⟨by omega, by omega⟩, by omega, ?_⟩
          rw [show k - (t.m : Int) - ((lenT t (i + 1) : Nat) : Int) = k - t.m - lenT t i - t.n i by omega]
          (repeat' (conv => whnf)<;>first|exact True.intro|(refine if_ ?_ ?_<;>intro h<;>first|exact h.elim|(exfalso; omega)|skip)|refine vs_ ?_|refine dv_ ?_|exact fin_|(show ∃ _, _ ∧ _; refine ex_ ?_)|(show ∃ _ _, _ ∧ _; refine ex2_ ?_))
      · have : i = t.m := by omega
        subst this
        exfalso; omega
  · unfold szT
    rw [if_neg g]
    (repeat' (conv => whnf)<;>first|exact True.intro|(refine if_ ?_ ?_<;>intro h<;>first|exact h.elim|(exfalso; omega)|skip)|refine vs_ ?_|refine dv_ ?_|exact fin_|(show ∃ _, _ ∧ _; refine ex_ ?_)|(show ∃ _ _, _ ∧ _; refine ex2_ ?_))
    conv => whnf
    refine vc_loop (α := Nat) 0 (fun i => t.m - i) (fun i => i ≤ t.m) [] (fun i => [(0, .d (tbD t)), (1, .d (.int .i64 (k - t.m - lenT t i))), (5, .d (.int .i64 i))]) (fun i => []) lp_ ?_ ?_
    · rw [show k - (t.m : Int) - (lenT t 0 : Int) = k - t.m from by show k - (t.m : Int) - ((0 : Nat) : Int) = _; omega]
      (repeat' (conv => whnf)<;>first|exact True.intro|(refine if_ ?_ ?_<;>intro h<;>first|exact h.elim|(exfalso; omega)|skip)|refine vs_ ?_|refine dv_ ?_|exact fin_|(show ∃ _, _ ∧ _; refine ex_ ?_)|(show ∃ _ _, _ ∧ _; refine ex2_ ?_))
    · intro i hi
      by_cases hlt : i < t.m
      · have hs := lenT_s t i
        have hle := lenT_le t (show i + 1 ≤ t.m by omega)
        have hle0 := lenT_le t (show i ≤ t.m by omega)
        have hni := hn i hlt
        have hZ' := hZ (m := t.n i) (f := t.f i) (k := k - t.m - lenT t i) hni (by omega)
        rw [if_neg (by omega)] at hZ'
        (repeat' (conv => whnf)<;>first|exact True.intro|(refine if_ ?_ ?_<;>intro h<;>first|exact h.elim|(exfalso; omega)|skip)|refine vs_ ?_|refine dv_ ?_|exact fin_|(show ∃ _, _ ∧ _; refine ex_ ?_ (by first|with_reducible exact rfl|with_reducible exact tb_get hlt|exact hZ'|exact rd_))|(show ∃ _ _, _ ∧ _; refine ex2_ ?_ (by first|with_reducible exact rfl|with_reducible exact tb_get hlt|exact hZ'|exact rd_)))
        conv => whnf
        refine ⟨i + 1, by omega, by omega, ?_⟩
        rw [show k - (t.m : Int) - ((lenT t (i + 1) : Nat) : Int) = k - t.m - lenT t i - t.n i by omega]
        (repeat' (conv => whnf)<;>first|exact True.intro|(refine if_ ?_ ?_<;>intro h<;>first|exact h.elim|(exfalso; omega)|skip)|refine vs_ ?_|refine dv_ ?_|exact fin_|(show ∃ _, _ ∧ _; refine ex_ ?_)|(show ∃ _ _, _ ∧ _; refine ex2_ ?_))
      · have : i = t.m := by omega
        subst this
        (repeat' (conv => whnf)<;>first|exact True.intro|(refine if_ ?_ ?_<;>intro h<;>first|exact h.elim|(exfalso; omega)|skip)|refine vs_ ?_|refine dv_ ?_|exact fin_|(show ∃ _, _ ∧ _; refine ex_ ?_)|(show ∃ _ _, _ ∧ _; refine ex2_ ?_))
theorem c_to1 (hf : isFn P N.laws_toInt64S (ir_laws_toInt64S N) = true) : C_to1 P N := by
  intro m f hm
  have hl : (row m f).length = m := row_len ..
  refine can_of hf rfl rfl ?_
  (repeat' (conv => whnf)<;>first|exact True.intro|(refine if_ ?_ ?_<;>intro h<;>first|exact h.elim|(exfalso; omega)|skip)|refine vs_ ?_|refine dv_ ?_|exact fin_|(show ∃ _, _ ∧ _; refine ex_ ?_)|(show ∃ _ _, _ ∧ _; refine ex2_ ?_))
  conv => whnf
  refine vc_loop (α := Nat) 0 (fun i => m - i) (fun i => i ≤ m) [] (fun i => [(3, .row 8 1), (4, .d (.int .i64 i))]) (fun i => [(8, .data 1 (row m (prgI f i)))]) lp_ ?_ ?_
  · (repeat' (conv => whnf)<;>first|exact True.intro|(refine if_ ?_ ?_<;>intro h<;>first|exact h.elim|(exfalso; omega)|skip)|refine vs_ ?_ (by first|(rw [hl]; exact prgI_0)|exact sd_)|refine dv_ ?_|exact fin_|(show ∃ _, _ ∧ _; refine ex_ ?_)|(show ∃ _ _, _ ∧ _; refine ex2_ ?_))
  · intro i hi
    have hl2 : (row m (prgI f i)).length = m := row_len ..
    by_cases hlt : i < m
    · (repeat' (conv => whnf)<;>first|exact True.intro|(refine if_ ?_ ?_<;>intro h<;>first|exact h.elim|(exfalso; omega)|skip)|refine vs_ ?_|refine dv_ ?_|exact fin_|(show ∃ _, _ ∧ _; refine ex_ ?_ (by first|with_reducible exact rfl|exact get_row hlt|exact rd_))|(show ∃ _ _, _ ∧ _; refine ex2_ ?_ (by first|with_reducible exact rfl|exact get_row hlt|exact rd_)))
      conv => whnf
      refine ⟨i + 1, by omega, by omega, ?_⟩
      (repeat' (conv => whnf)<;>first|exact True.intro|(refine if_ ?_ ?_<;>intro h<;>first|exact h.elim|(exfalso; omega)|skip)|refine vs_ ?_ (by first|exact prgI_s hlt rfl|exact sd_)|refine dv_ ?_|exact fin_|(show ∃ _, _ ∧ _; refine ex_ ?_)|(show ∃ _ _, _ ∧ _; refine ex2_ ?_))
    · have : i = m := by omega
      subst this
      rw [prgI_n]
      (repeat' (conv => whnf)<;>first|exact True.intro|(refine if_ ?_ ?_<;>intro h<;>first|exact h.elim|(exfalso; omega)|skip)|refine vs_ ?_|refine dv_ ?_|exact fin_|(show ∃ _, _ ∧ _; refine ex_ ?_)|(show ∃ _ _, _ ∧ _; refine ex2_ ?_))
theorem c_toSS (h1 : C_to1 P N) (hf : isFn P N.laws_toInt64SS (ir_laws_toInt64SS N) = true) : C_toSS P N := by
  intro t ht
  have hl := tbL_len t
  have hm := ht.1
  refine can_of hf rfl rfl ?_
  (repeat' (conv => whnf)<;>first|exact True.intro|(refine if_ ?_ ?_<;>intro h<;>first|exact h.elim|(exfalso; omega)|skip)|refine vs_ ?_ (by first|exact ⟨rfl, fun r hr => List.eq_of_mem_replicate hr⟩|exact sd_)|refine dv_ ?_|exact fin_|(show ∃ _, _ ∧ _; refine ex_ ?_)|(show ∃ _ _, _ ∧ _; refine ex2_ ?_))
  conv => whnf
  refine vc_loop (α := Nat) 0 (fun i => t.m - i) (fun i => i ≤ t.m) [] (fun i => [(0, .d (tbD t)), (3, .row 4 1), (4, .d (.int .i64 i))]) (fun i => [(4, .nest 1 (arr t.m (pgN t i)) none)]) lp_ ?_ ?_
  · (repeat' (conv => whnf)<;>first|exact True.intro|(refine if_ ?_ ?_<;>intro h<;>first|exact h.elim|(exfalso; omega)|skip)|refine vs_ ?_ (by first|(rw [hl]; exact pgN_0)|exact sd_)|refine dv_ ?_|exact fin_|(show ∃ _, _ ∧ _; refine ex_ ?_)|(show ∃ _ _, _ ∧ _; refine ex2_ ?_))
  · intro i hi
    have hl2 : (arr t.m (pgN t i)).length = t.m := arr_len ..
    by_cases hlt : i < t.m
    · have h1' := h1 (m := t.n i) (f := t.f i) (ht.2 i hlt)
      (repeat' (conv => whnf)<;>first|exact True.intro|(refine if_ ?_ ?_<;>intro h<;>first|exact h.elim|(exfalso; omega)|skip)|refine vs_ ?_ (by first|exact .inr flat_row | exact ⟨rfl, rfl, rfl, by rw [hl2, Int.toNat_natCast]; exact hlt, by simp⟩|exact sd_)|refine dv_ ?_|exact fin_|(show ∃ _, _ ∧ _; refine ex_ ?_ (by first|with_reducible exact rfl|with_reducible exact tb_get hlt|exact h1'|exact rd_))|(show ∃ _ _, _ ∧ _; refine ex2_ ?_ (by first|with_reducible exact rfl|with_reducible exact tb_get hlt|exact h1'|exact rd_)))
      conv => whnf
      refine ⟨i + 1, by omega, by omega, ?_⟩
      (repeat' (conv => whnf)<;>first|exact True.intro|(refine if_ ?_ ?_<;>intro h<;>first|exact h.elim|(exfalso; omega)|skip)|refine vs_ ?_ (by first|exact pgN_s hlt rfl|exact sd_)|refine dv_ ?_|exact fin_|(show ∃ _, _ ∧ _; refine ex_ ?_)|(show ∃ _ _, _ ∧ _; refine ex2_ ?_))
    · have : i = t.m := by omega
      subst this
      rw [pgN_n]
      (repeat' (conv => whnf)<;>first|exact True.intro|(refine if_ ?_ ?_<;>intro h<;>first|exact h.elim|(exfalso; omega)|skip)|refine vs_ ?_|refine dv_ ?_|exact fin_|(show ∃ _, _ ∧ _; refine ex_ ?_)|(show ∃ _ _, _ ∧ _; refine ex2_ ?_))
theorem c_eqSS (hE : C_eqIS P N) (hf : isFn P N.laws_eqInt64SS (ir_laws_eqInt64SS N) = true) : C_eqSS P N := by
  intro t ht
  have hl := tbL_len t
  have hm := ht.1
  refine can_of hf rfl rfl ?_
  (repeat' (conv => whnf)<;>first|exact True.intro|(refine if_ ?_ ?_<;>intro h<;>first|exact h.elim|(exfalso; omega)|skip)|refine vs_ ?_|refine dv_ ?_|exact fin_|(show ∃ _, _ ∧ _; refine ex_ ?_)|(show ∃ _ _, _ ∧ _; refine ex2_ ?_))
  conv => whnf
  refine vc_loop (α := Nat) 0 (fun i => t.m - i) (fun i => i ≤ t.m) [] (fun i => [(0, .d (tbD t)), (1, .d (tbD t)), (5, .d (.int .i64 i))]) (fun i => []) lp_ ?_ ?_
  · (repeat' (conv => whnf)<;>first|exact True.intro|(refine if_ ?_ ?_<;>intro h<;>first|exact h.elim|(exfalso; omega)|skip)|refine vs_ ?_|refine dv_ ?_|exact fin_|(show ∃ _, _ ∧ _; refine ex_ ?_)|(show ∃ _ _, _ ∧ _; refine ex2_ ?_))
  · intro i hi
    by_cases hlt : i < t.m
    · have hE' := hE (m := t.n i) (f := t.f i) (by have := ht.2 i hlt; omega)
      (repeat' (conv => whnf)<;>first|exact True.intro|(refine if_ ?_ ?_<;>intro h<;>first|exact h.elim|(exfalso; omega)|skip)|refine vs_ ?_|refine dv_ ?_|exact fin_|(show ∃ _, _ ∧ _; refine ex_ ?_ (by first|with_reducible exact rfl|with_reducible exact tb_get hlt|exact hE'|exact rd_))|(show ∃ _ _, _ ∧ _; refine ex2_ ?_ (by first|with_reducible exact rfl|with_reducible exact tb_get hlt|exact hE'|exact rd_)))
      conv => whnf
      refine ⟨i + 1, by omega, by omega, ?_⟩
      (repeat' (conv => whnf)<;>first|exact True.intro|(refine if_ ?_ ?_<;>intro h<;>first|exact h.elim|(exfalso; omega)|skip)|refine vs_ ?_|refine dv_ ?_|exact fin_|(show ∃ _, _ ∧ _; refine ex_ ?_)|(show ∃ _ _, _ ∧ _; refine ex2_ ?_))
    · (repeat' (conv => whnf)<;>first|exact True.intro|(refine if_ ?_ ?_<;>intro h<;>first|exact h.elim|(exfalso; omega)|skip)|refine vs_ ?_|refine dv_ ?_|exact fin_|(show ∃ _, _ ∧ _; refine ex_ ?_)|(show ∃ _ _, _ ∧ _; refine ex2_ ?_))
theorem c_markSS (hM : C_markIS P N) (hf : isFn P N.laws_markInt64SS (ir_laws_markInt64SS N) = true) : C_markSS P N := by
  intro t ht hsm
  refine can_ofN hf rfl rfl ?_
  rw [← pgM_0]
  (repeat' (conv => whnf)<;>first|exact True.intro|(refine if_ ?_ ?_<;>intro h<;>first|exact h.elim|(exfalso; omega)|skip)|refine vs_ ?_|refine dv_ ?_|exact fin_|(show ∃ _, _ ∧ _; refine ex_ ?_)|(show ∃ _ _, _ ∧ _; refine ex2_ ?_))
  conv => whnf
  refine vc_loop (α := Nat) 0 (fun i => t.m - i) (fun i => i ≤ t.m) [] (fun i => [(0, .row 0 1), (1, .d (.int .i64 (1 + lenT t i))), (5, .d (.int .i64 i))]) (fun i => [(0, .nest 1 (arr t.m (pgM t i)) none)]) lp_ ?_ ?_
  · (repeat' (conv => whnf)<;>first|exact True.intro|(refine if_ ?_ ?_<;>intro h<;>first|exact h.elim|(exfalso; omega)|skip)|refine vs_ ?_|refine dv_ ?_|exact fin_|(show ∃ _, _ ∧ _; refine ex_ ?_)|(show ∃ _ _, _ ∧ _; refine ex2_ ?_))
  · intro i hi
    have hl2 : (arr t.m (pgM t i)).length = t.m := arr_len ..
    by_cases hlt : i < t.m
    · have hs := lenT_s t i
      have hle := lenT_le t (show i + 1 ≤ t.m by omega)
      have hni := ht.2 i hlt
      have hM' := hM (m := t.n i) (f := t.f i) (k := 1 + lenT t i) (by omega) (by omega)
      (repeat' (conv => whnf)<;>first|exact True.intro|(refine if_ ?_ ?_<;>intro h<;>first|exact h.elim|(exfalso; omega)|skip)|refine vs_ ?_|refine dv_ ?_|exact fin_|(show ∃ _, _ ∧ _; refine ex_ ?_ (by first|with_reducible exact rfl|with_reducible exact pgM_get hlt|exact hM'|exact rd_))|(show ∃ _ _, _ ∧ _; refine ex2_ ?_ (by first|with_reducible exact rfl|with_reducible exact pgM_get hlt|exact hM'|exact rd_)))
      conv => whnf
      refine ⟨i + 1, by omega, by omega, ?_⟩
      rw [show (1 : Int) + ((lenT t (i + 1) : Nat) : Int) = 1 + lenT t i + t.n i by omega]
      (repeat' (conv => whnf)<;>first|exact True.intro|(refine if_ ?_ ?_<;>intro h<;>first|exact h.elim|(exfalso; omega)|skip)|refine vs_ ?_ (by first|exact pgM_s hlt rfl|exact sd_)|refine dv_ ?_|exact fin_|(show ∃ _, _ ∧ _; refine ex_ ?_)|(show ∃ _ _, _ ∧ _; refine ex2_ ?_))
    · have : i = t.m := by omega
      subst this
      (repeat' (conv => whnf)<;>first|exact True.intro|(refine if_ ?_ ?_<;>intro h<;>first|exact h.elim|(exfalso; omega)|skip)|refine vs_ ?_|refine dv_ ?_|exact fin_|(show ∃ _, _ ∧ _; refine ex_ ?_)|(show ∃ _ _, _ ∧ _; refine ex2_ ?_))
end Go.X
namespace Go.X
open Go Go.RowKit
set_option maxRecDepth 100000
set_option maxHeartbeats 8000000
set_option linter.unusedVariables false
variable {P : Program} {N : FN}
theorem c_IdxIntC (hf : isFn P N.slices_IndexFunc_Lint64_int64 (ir_slices_IndexFunc_Lint64_int64 N) = true) : C_IdxIntC P N := by
  intro m f g c q hm hq
  refine can_of hf rfl rfl ?_
  (repeat' (conv => whnf)<;>first|exact True.intro|(refine if_ ?_ ?_<;>intro h<;>first|exact h.elim|(exfalso; omega)|skip)|refine vs_ ?_|refine dv_ ?_|exact fin_|(show ∃ _, _ ∧ _; refine ex_ ?_)|(show ∃ _ _, _ ∧ _; refine ex2_ ?_))
  conv => whnf
  refine vc_loop (α := Nat) 0 (fun i => m - i) (fun i => i ≤ m ∧ ∀ j, j < i → q j = false) [] (fun i => [(6, .d (rowD m f)), (7, .d (.int .i64 m)), (8, .d (.int .i64 i))]) (fun i => []) lp_ ?_ ?_
  · (repeat' (conv => whnf)<;>first|exact True.intro|(refine if_ ?_ ?_<;>intro h<;>first|exact h.elim|(exfalso; omega)|skip)|refine vs_ ?_|refine dv_ ?_|exact fin_|(show ∃ _, _ ∧ _; refine ex_ ?_)|(show ∃ _ _, _ ∧ _; refine ex2_ ?_))
  · rintro i ⟨hi, hx⟩
    (repeat' (conv => whnf)<;>first|exact True.intro|(refine if_ ?_ ?_<;>intro h<;>first|exact h.elim|(exfalso; omega)|skip)|refine vs_ ?_|refine dv_ ?_|exact fin_|(show ∃ _, _ ∧ _; refine ex_ ?_ (by first|with_reducible exact rfl|exact hq i (by omega)|exact rd_))|(show ∃ _ _, _ ∧ _; refine ex2_ ?_ (by first|with_reducible exact rfl|exact hq i (by omega)|exact rd_)))
    · conv => whnf
      exact congrArg (D.int .i64) (idxF_some (by omega) ‹_› hx).symm
    · conv => whnf
      refine ⟨i + 1, ⟨by omega, all_succ hx ‹_›⟩, by omega, ?_⟩
      (repeat' (conv => whnf)<;>first|exact True.intro|(refine if_ ?_ ?_<;>intro h<;>first|exact h.elim|(exfalso; omega)|skip)|refine vs_ ?_|refine dv_ ?_|exact fin_|(show ∃ _, _ ∧ _; refine ex_ ?_)|(show ∃ _ _, _ ∧ _; refine ex2_ ?_))
    · conv => whnf
      exact congrArg (D.int .i64) (idxF_none (fun j hj => hx j (by omega))).symm
theorem c_CFIntC (hI : C_IdxIntC P N) (hf : isFn P N.slices_ContainsFunc_Lint64_int64 (ir_slices_ContainsFunc_Lint64_int64 N) = true) : C_CFIntC P N := by
  intro m f g c q hm hq
  have hI' := hI hm hq
  refine can_of hf rfl rfl ?_
  (repeat' (conv => whnf)<;>first|exact True.intro|(refine if_ ?_ ?_<;>intro h<;>first|exact h.elim|(exfalso; omega)|skip)|refine vs_ ?_|refine dv_ ?_|exact fin_|(show ∃ _, _ ∧ _; refine ex_ ?_ (by first|with_reducible exact rfl|exact hI'|exact rd_))|(show ∃ _ _, _ ∧ _; refine ex2_ ?_ (by first|with_reducible exact rfl|exact hI'|exact rd_)))
theorem c_IdxTb (hf : isFn P N.slices_IndexFunc_LLint64_Lint64 (ir_slices_IndexFunc_LLint64_Lint64 N) = true) : C_IdxTb P N := by
  intro t g c d q hm hq
  have hl := tbL_len t
  refine can_of hf rfl rfl ?_
  (repeat' (conv => whnf)<;>first|exact True.intro|(refine if_ ?_ ?_<;>intro h<;>first|exact h.elim|(exfalso; omega)|skip)|refine vs_ ?_|refine dv_ ?_|exact fin_|(show ∃ _, _ ∧ _; refine ex_ ?_)|(show ∃ _ _, _ ∧ _; refine ex2_ ?_))
  conv => whnf
  refine vc_loop (α := Nat) 0 (fun i => t.m - i) (fun i => i ≤ t.m ∧ ∀ j, j < i → q j = false) [] (fun i => [(6, .d (tbD t)), (7, .d (.int .i64 t.m)), (8, .d (.int .i64 i))]) (fun i => []) lp_ ?_ ?_
  · (repeat' (conv => whnf)<;>first|exact True.intro|(refine if_ ?_ ?_<;>intro h<;>first|exact h.elim|(exfalso; omega)|skip)|refine vs_ ?_ (by first|exact congrArg (fun x => AV.d (D.int .i64 x)) (by rw [hl])|exact sd_)|refine dv_ ?_|exact fin_|(show ∃ _, _ ∧ _; refine ex_ ?_)|(show ∃ _ _, _ ∧ _; refine ex2_ ?_))
  · rintro i ⟨hi, hx⟩
    (repeat' (conv => whnf)<;>first|exact True.intro|(refine if_ ?_ ?_<;>intro h<;>first|exact h.elim|(exfalso; omega)|skip)|refine vs_ ?_|refine dv_ ?_|exact fin_|(show ∃ _, _ ∧ _; refine ex_ ?_ (by first|with_reducible exact rfl|with_reducible exact tb_get (by omega)|exact hq i (by omega)|exact rd_))|(show ∃ _ _, _ ∧ _; refine ex2_ ?_ (by first|with_reducible exact rfl|with_reducible exact tb_get (by omega)|exact hq i (by omega)|exact rd_)))
    · conv => whnf
      exact congrArg (D.int .i64) (idxF_some (by omega) ‹_› hx).symm
    · conv => whnf
      refine ⟨i + 1, ⟨by omega, all_succ hx ‹_›⟩, by omega, ?_⟩
      (repeat' (conv => whnf)<;>first|exact True.intro|(refine if_ ?_ ?_<;>intro h<;>first|exact h.elim|(exfalso; omega)|skip)|refine vs_ ?_|refine dv_ ?_|exact fin_|(show ∃ _, _ ∧ _; refine ex_ ?_)|(show ∃ _ _, _ ∧ _; refine ex2_ ?_))
    · conv => whnf
      exact congrArg (D.int .i64) (idxF_none (fun j hj => hx j (by omega))).symm
theorem c_CFTb (hI : C_IdxTb P N) (hf : isFn P N.slices_ContainsFunc_LLint64_Lint64 (ir_slices_ContainsFunc_LLint64_Lint64 N) = true) : C_CFTb P N := by
  intro t g c d q hm hq
  have hI' := hI hm hq
  refine can_of hf rfl rfl ?_
  (repeat' (conv => whnf)<;>first|exact True.intro|(refine if_ ?_ ?_<;>intro h<;>first|exact h.elim|(exfalso; omega)|skip)|refine vs_ ?_|refine dv_ ?_|exact fin_|(show ∃ _, _ ∧ _; refine ex_ ?_ (by first|with_reducible exact rfl|exact hI'|exact rd_))|(show ∃ _ _, _ ∧ _; refine ex2_ ?_ (by first|with_reducible exact rfl|exact hI'|exact rd_)))
theorem c_sq11 (hI : C_in P N) (hf : isFn P N.impl_squareOk_1_1 (ir_impl_squareOk_1_1 N) = true) : C_sq11 P N := by
  intro x p hp
  have hI' := hI (n := x) (lo := 0) (hi := p - 1)
  refine can_of hf rfl rfl ?_
  (repeat' (conv => whnf)<;>first|exact True.intro|(refine if_ ?_ ?_<;>intro h<;>first|exact h.elim|(exfalso; omega)|skip)|refine vs_ ?_|refine dv_ ?_|exact fin_|(show ∃ _, _ ∧ _; refine ex_ ?_ (by first|with_reducible exact rfl|exact hI'|exact rd_))|(show ∃ _ _, _ ∧ _; refine ex2_ ?_ (by first|with_reducible exact rfl|exact hI'|exact rd_)))
theorem geq_all {q : Nat → Bool} {m : Nat} {A : Prop} (h : A ↔ ∀ j, j < m → q j = false) : Cm.geq.int (idxF q m) 0 = !dB A := by
  rcases idxF_cases q m with ⟨e, h1⟩ | ⟨i, hi, e, h1, _⟩
  · rw [e, dB_t (h.2 h1)]; rfl
  · rw [e, dB_f (fun a => by rw [h.1 a i hi] at h1; cases h1)]
    exact decide_eq_true (Int.natCast_nonneg i)
theorem c_sq1 (h1 : C_sq11 P N) (hC : C_CFIntC P N) (hf : isFn P N.impl_squareOk_1 (ir_impl_squareOk_1 N) = true) : C_sq1 P N := by
  intro m f n p hm hp
  have hl : (row m f).length = m := row_len ..
  have hC' := hC (m := m) (f := f) (g := N.impl_squareOk_1_1) (c := .pd 1 [[.int .i64 p]] 0 0) (q := fun j => !decide (0 ≤ f j ∧ f j ≤ p - 1)) (by omega) (fun i hi => h1 hp)
  rw [geq_all (A := ∀ j, j < m → 0 ≤ f j ∧ f j ≤ p - 1) (by simp)] at hC'
  by_cases c : (m : Int) = n
  · have e : dB (rowP n p m f) = dB (∀ j, j < m → 0 ≤ f j ∧ f j ≤ p - 1) := dB_congr ⟨fun h => h.2, fun h => ⟨c, h⟩⟩
    rw [e]
    refine can_of hf rfl rfl ?_
    (repeat' (conv => whnf)<;>first|exact True.intro|(refine if_ ?_ ?_<;>intro h<;>first|exact h.elim|(exfalso; omega)|skip)|refine vs_ ?_|refine dv_ ?_|exact fin_|(show ∃ _, _ ∧ _; refine ex_ ?_ (by first|with_reducible exact rfl|exact hC'|exact rd_))|(show ∃ _ _, _ ∧ _; refine ex2_ ?_ (by first|with_reducible exact rfl|exact hC'|exact rd_)))
  · rw [dB_f (p := rowP n p m f) (fun h => c h.1)]
    refine can_of hf rfl rfl ?_
    (repeat' (conv => whnf)<;>first|exact True.intro|(refine if_ ?_ ?_<;>intro h<;>first|exact h.elim|(exfalso; omega)|skip)|refine vs_ ?_|refine dv_ ?_|exact fin_|(show ∃ _, _ ∧ _; refine ex_ ?_ (by first|with_reducible exact rfl|exact hC'|exact rd_))|(show ∃ _ _, _ ∧ _; refine ex2_ ?_ (by first|with_reducible exact rfl|exact hC'|exact rd_)))
theorem c_square (h1 : C_sq1 P N) (hC : C_CFTb P N) (hf : isFn P N.impl_squareOk (ir_impl_squareOk N) = true) : C_square P N := by
  intro t n p ht hp
  have hl := tbL_len t
  have hm := ht.1
  have hC' := hC (t := t) (g := N.impl_squareOk_1) (c := .pd 1 [[.int .i64 n]] 0 0) (d := .pd 1 [[.int .i64 p]] 0 0) (q := fun i => !dB (rowP n p (t.n i) (t.f i))) (by omega) (fun i hi => h1 (ht.2 i hi) hp)
  rw [geq_all (A := ∀ i, i < t.m → rowP n p (t.n i) (t.f i)) (by simp [dB_iff])] at hC'
  by_cases c : (t.m : Int) = n
  · have e : dB (sqP n p t) = dB (∀ i, i < t.m → rowP n p (t.n i) (t.f i)) := dB_congr ⟨fun h i hi => by
      obtain ⟨h2, h3⟩ := h.2 i hi
      exact ⟨by omega, fun j hj => h3 j (by omega)⟩, fun h => ⟨c, fun i hi => by
      obtain ⟨h2, h3⟩ := h i hi
      exact ⟨by omega, fun j hj => h3 j (by omega)⟩⟩⟩
    rw [e]
    generalize dB (∀ i, i < t.m → rowP n p (t.n i) (t.f i)) = b at hC' ⊢
    refine can_of hf rfl rfl ?_
    cases b
    · (repeat' (conv => whnf)<;>first|exact True.intro|(refine if_ ?_ ?_<;>intro h<;>first|exact h.elim|(exfalso; omega)|skip)|refine vs_ ?_|refine dv_ ?_|exact fin_|(show ∃ _, _ ∧ _; refine ex_ ?_ (by first|with_reducible exact rfl|exact hC'|exact rd_))|(show ∃ _ _, _ ∧ _; refine ex2_ ?_ (by first|with_reducible exact rfl|exact hC'|exact rd_)))
    · (repeat' (conv => whnf)<;>first|exact True.intro|(refine if_ ?_ ?_<;>intro h<;>first|exact h.elim|(exfalso; omega)|skip)|refine vs_ ?_|refine dv_ ?_|exact fin_|(show ∃ _, _ ∧ _; refine ex_ ?_ (by first|with_reducible exact rfl|exact hC'|exact rd_))|(show ∃ _ _, _ ∧ _; refine ex2_ ?_ (by first|with_reducible exact rfl|exact hC'|exact rd_)))
  · rw [dB_f (p := sqP n p t) (fun h => c h.1)]
    refine can_of hf rfl rfl ?_
    (repeat' (conv => whnf)<;>first|exact True.intro|(refine if_ ?_ ?_<;>intro h<;>first|exact h.elim|(exfalso; omega)|skip)|refine vs_ ?_|refine dv_ ?_|exact fin_|(show ∃ _, _ ∧ _; refine ex_ ?_ (by first|with_reducible exact rfl|exact hC'|exact rd_))|(show ∃ _ _, _ ∧ _; refine ex2_ ?_ (by first|with_reducible exact rfl|exact hC'|exact rd_)))
theorem c_tabled (hP : C_primed P N) (hN : C_gN P N) (hS : C_square P N) (hf : isFn P N.impl_tabled (ir_impl_tabled N) = true) : C_tabled P N := by
  intro g p t hb ht
  have hat := grpAt_one g
  have hgl := hat.all
  have hP' := hP (p := p) hb
  have hN' := hN (sz := (grpL g).length) hat
  unfold tabG
  by_cases c : codG (dB (GP g)) (decide (p ∈ primes)) = 0
  · have hp : p ∈ primes := by
      by_cases g1 : GP g
      · by_cases g2 : p ∈ primes
        · exact g2
        · rw [dB_t g1, decide_eq_false g2, show codG true false = 2 from rfl] at c; cases c
      · rw [dB_f g1, show codG false (decide (p ∈ primes)) = 1 from rfl] at c; cases c
    have hp2 := prime_bd hp
    have hS' := hS (t := t) (n := g.n) (p := p) ht (by omega)
    rw [c] at hP' ⊢
    rw [if_pos rfl]
    by_cases s : sqP g.n p t
    · rw [dB_t s] at hS' ⊢
      rw [if_pos rfl]
      refine can_of hf rfl rfl ?_
      (repeat' (conv => whnf)<;>first|exact True.intro|(refine if_ ?_ ?_<;>intro h<;>first|exact h.elim|(exfalso; omega)|skip)|refine vs_ ?_|refine dv_ ?_|exact fin_|(show ∃ _, _ ∧ _; refine ex_ ?_ (by first|with_reducible exact rfl|with_reducible exact hgl|exact hP'|exact hN'|exact hS'|exact rd_))|(show ∃ _ _, _ ∧ _; refine ex2_ ?_ (by first|with_reducible exact rfl|with_reducible exact hgl|exact hP'|exact hN'|exact hS'|exact rd_)))
    · rw [dB_f s] at hS' ⊢
      rw [if_neg (by decide)]
      refine can_of hf rfl rfl ?_
      (repeat' (conv => whnf)<;>first|exact True.intro|(refine if_ ?_ ?_<;>intro h<;>first|exact h.elim|(exfalso; omega)|skip)|refine vs_ ?_|refine dv_ ?_|exact fin_|(show ∃ _, _ ∧ _; refine ex_ ?_ (by first|with_reducible exact rfl|with_reducible exact hgl|exact hP'|exact hN'|exact hS'|exact rd_))|(show ∃ _ _, _ ∧ _; refine ex2_ ?_ (by first|with_reducible exact rfl|with_reducible exact hgl|exact hP'|exact hN'|exact hS'|exact rd_)))
  · rw [if_neg c]
    generalize codG (dB (GP g)) (decide (p ∈ primes)) = x at *
    refine can_of hf rfl rfl ?_
    (repeat' (conv => whnf)<;>first|exact True.intro|(refine if_ ?_ ?_<;>intro h<;>first|exact h.elim|(exfalso; omega)|skip)|refine vs_ ?_|refine dv_ ?_|exact fin_|(show ∃ _, _ ∧ _; refine ex_ ?_ (by first|with_reducible exact rfl|with_reducible exact hgl|exact hP'|exact rd_))|(show ∃ _ _, _ ∧ _; refine ex2_ ?_ (by first|with_reducible exact rfl|with_reducible exact hgl|exact hP'|exact rd_)))
theorem c_IsCoc (hT : C_tabled P N) (hC : C_coc P N) (hf : isFn P N.impl_IsCocycle (ir_impl_IsCocycle N) = true) : C_IsCoc P N := by
  intro g p t hb ht
  have hat := grpAt_one g
  have hgl := hat.all
  have hT' := hT (p := p) hb ht
  unfold icR
  by_cases c : tabG g p t = 0
  · obtain ⟨h1, h2, h3⟩ := tabG_zero c
    have hC' := hC (sz := (grpL g).length) hat hb h1 h2 h3
    rw [c] at hT' ⊢
    rw [if_pos rfl]
    refine can_of hf rfl rfl ?_
    (repeat' (conv => whnf)<;>first|exact True.intro|(refine if_ ?_ ?_<;>intro h<;>first|exact h.elim|(exfalso; omega)|skip)|refine vs_ ?_|refine dv_ ?_|exact fin_|(show ∃ _, _ ∧ _; refine ex_ ?_ (by first|with_reducible exact rfl|with_reducible exact hgl|exact hT'|exact hC'|exact rd_))|(show ∃ _ _, _ ∧ _; refine ex2_ ?_ (by first|with_reducible exact rfl|with_reducible exact hgl|exact hT'|exact hC'|exact rd_)))
  · rw [if_neg c]
    generalize tabG g p t = x at *
    refine can_of hf rfl rfl ?_
    (repeat' (conv => whnf)<;>first|exact True.intro|(refine if_ ?_ ?_<;>intro h<;>first|exact h.elim|(exfalso; omega)|skip)|refine vs_ ?_|refine dv_ ?_|exact fin_|(show ∃ _, _ ∧ _; refine ex_ ?_ (by first|with_reducible exact rfl|with_reducible exact hgl|exact hT'|exact rd_))|(show ∃ _ _, _ ∧ _; refine ex2_ ?_ (by first|with_reducible exact rfl|with_reducible exact hgl|exact hT'|exact rd_)))
theorem c_twisting (hI : C_IsCoc P N) (hf : isFn P N.impl_twisting (ir_impl_twisting N) = true) : C_twisting P N := by
  intro g p t hb ht
  have hat := grpAt_one g
  have hgl := hat.all
  have hI' := hI (p := p) hb ht
  unfold icR at hI'
  unfold twiG
  by_cases c : tabG g p t = 0
  · rw [c, if_pos rfl] at hI'
    rw [c, if_pos rfl]
    cases h : cocB g p t
    · rw [h] at hI'
      rw [if_neg (by decide)]
      refine can_of hf rfl rfl ?_
      (repeat' (conv => whnf)<;>first|exact True.intro|(refine if_ ?_ ?_<;>intro h<;>first|exact h.elim|(exfalso; omega)|skip)|refine vs_ ?_|refine dv_ ?_|exact fin_|(show ∃ _, _ ∧ _; refine ex_ ?_ (by first|with_reducible exact rfl|with_reducible exact hgl|exact hI'|exact rd_))|(show ∃ _ _, _ ∧ _; refine ex2_ ?_ (by first|with_reducible exact rfl|with_reducible exact hgl|exact hI'|exact rd_)))
    · rw [h] at hI'
      rw [if_pos rfl]
      refine can_of hf rfl rfl ?_
      (repeat' (conv => whnf)<;>first|exact True.intro|(refine if_ ?_ ?_<;>intro h<;>first|exact h.elim|(exfalso; omega)|skip)|refine vs_ ?_|refine dv_ ?_|exact fin_|(show ∃ _, _ ∧ _; refine ex_ ?_ (by first|with_reducible exact rfl|with_reducible exact hgl|exact hI'|exact rd_))|(show ∃ _ _, _ ∧ _; refine ex2_ ?_ (by first|with_reducible exact rfl|with_reducible exact hgl|exact hI'|exact rd_)))
  · rw [if_neg c] at hI' ⊢
    generalize tabG g p t = x at *
    refine can_of hf rfl rfl ?_
    (repeat' (conv => whnf)<;>first|exact True.intro|(refine if_ ?_ ?_<;>intro h<;>first|exact h.elim|(exfalso; omega)|skip)|refine vs_ ?_|refine dv_ ?_|exact fin_|(show ∃ _, _ ∧ _; refine ex_ ?_ (by first|with_reducible exact rfl|with_reducible exact hgl|exact hI'|exact rd_))|(show ∃ _ _, _ ∧ _; refine ex2_ ?_ (by first|with_reducible exact rfl|with_reducible exact hgl|exact hI'|exact rd_)))
theorem c_sTabG (hC : C_sCodeG P N) (hI : C_sIn P N) (hf : isFn P N.spec_l06Table (ir_spec_l06Table N) = true) : C_sTabG P N := by
  intro g p t hb ht
  have hat := grpAt_one g
  have hgl := hat.all
  have hC' := hC (p := p) hb
  have hl := tbL_len t
  have hm := ht.1
  unfold tabG
  by_cases c : codG (dB (GP g)) (decide (p ∈ primes)) = 0
  · have hp : p ∈ primes := by
      by_cases g1 : GP g
      · by_cases g2 : p ∈ primes
        · exact g2
        · rw [dB_t g1, decide_eq_false g2, show codG true false = 2 from rfl] at c; cases c
      · rw [dB_f g1, show codG false (decide (p ∈ primes)) = 1 from rfl] at c; cases c
    have hp2 := prime_bd hp
    rw [c] at hC' ⊢
    rw [if_pos rfl]
    by_cases s : sqP g.n p t
    · rw [dB_t s, if_pos rfl]
      have s1 := s.1
      refine can_of hf rfl rfl ?_
      (repeat' (conv => whnf)<;>first|exact True.intro|(refine if_ ?_ ?_<;>intro h<;>first|exact h.elim|(exfalso; omega)|skip)|refine vs_ ?_|refine dv_ ?_|exact fin_|(show ∃ _, _ ∧ _; refine ex_ ?_ (by first|with_reducible exact rfl|with_reducible exact hgl|exact hC'|with_reducible exact hat.n|exact rd_))|(show ∃ _ _, _ ∧ _; refine ex2_ ?_ (by first|with_reducible exact rfl|with_reducible exact hgl|exact hC'|with_reducible exact hat.n|exact rd_)))
      conv => whnf
      refine vc_loop (α := Nat) 0 (fun i => t.m - i) (fun i => i ≤ t.m) [] (fun i => [(0, .d (.int .i64 p)), (2, .d (tbD t)), (4, .ptr 5 37 0 0), (8, .d (.int .i64 i))]) (fun i => [(5, .data 37 [grpL g])]) lp_ ?_ ?_
      · (repeat' (conv => whnf)<;>first|exact True.intro|(refine if_ ?_ ?_<;>intro h<;>first|exact h.elim|(exfalso; omega)|skip)|refine vs_ ?_|refine dv_ ?_|exact fin_|(show ∃ _, _ ∧ _; refine ex_ ?_)|(show ∃ _ _, _ ∧ _; refine ex2_ ?_))
      · intro i hi
        by_cases hlt : i < t.m
        · obtain ⟨s2, s3⟩ := s.2 i hlt
          have hrl : (row (t.n i) (t.f i)).length = t.n i := row_len ..
          (repeat' (conv => whnf)<;>first|exact True.intro|(refine if_ ?_ ?_<;>intro h<;>first|exact h.elim|(exfalso; omega)|skip)|refine vs_ ?_|refine dv_ ?_|exact fin_|(show ∃ _, _ ∧ _; refine ex_ ?_ (by first|with_reducible exact rfl|with_reducible exact tb_get hlt|with_reducible exact hat.n|exact rd_))|(show ∃ _ _, _ ∧ _; refine ex2_ ?_ (by first|with_reducible exact rfl|with_reducible exact tb_get hlt|with_reducible exact hat.n|exact rd_)))
          conv => whnf
          refine vc_loop (α := Nat) 0 (fun j => t.m - j) (fun j => j ≤ t.m) [] (fun j => [(0, .d (.int .i64 p)), (2, .d (tbD t)), (4, .ptr 5 37 0 0), (8, .d (.int .i64 i)), (9, .d (.int .i64 j))]) (fun j => [(5, .data 37 [grpL g])]) lp_ ?_ ?_
          · (repeat' (conv => whnf)<;>first|exact True.intro|(refine if_ ?_ ?_<;>intro h<;>first|exact h.elim|(exfalso; omega)|skip)|refine vs_ ?_|refine dv_ ?_|exact fin_|(show ∃ _, _ ∧ _; refine ex_ ?_)|(show ∃ _ _, _ ∧ _; refine ex2_ ?_))
          · intro j hj
            by_cases hlt2 : j < t.m
            · have s4 := s3 j hlt2
              have hI' := hI (n := t.f i j) (lo := 0) (hi := p - 1)
              rw [decide_eq_true s4] at hI'
              (repeat' (conv => whnf)<;>first|exact True.intro|(refine if_ ?_ ?_<;>intro h<;>first|exact h.elim|(exfalso; omega)|skip)|refine vs_ ?_|refine dv_ ?_|exact fin_|(show ∃ _, _ ∧ _; refine ex_ ?_ (by first|with_reducible exact rfl|with_reducible exact tb_get hlt|exact hI'|exact rd_))|(show ∃ _ _, _ ∧ _; refine ex2_ ?_ (by first|with_reducible exact rfl|with_reducible exact tb_get hlt|exact hI'|exact rd_)))
              conv => whnf
              refine ⟨j + 1, by omega, by omega, ?_⟩
              (repeat' (conv => whnf)<;>first|exact True.intro|(refine if_ ?_ ?_<;>intro h<;>first|exact h.elim|(exfalso; omega)|skip)|refine vs_ ?_|refine dv_ ?_|exact fin_|(show ∃ _, _ ∧ _; refine ex_ ?_)|(show ∃ _ _, _ ∧ _; refine ex2_ ?_))
            · (repeat' (conv => whnf)<;>first|exact True.intro|(refine if_ ?_ ?_<;>intro h<;>first|exact h.elim|(exfalso; omega)|skip)|refine vs_ ?_|refine dv_ ?_|exact fin_|(show ∃ _, _ ∧ _; refine ex_ ?_)|(show ∃ _ _, _ ∧ _; refine ex2_ ?_))
              conv => whnf
              refine ⟨i + 1, by omega, by omega, ?_⟩
              (repeat' (conv => whnf)<;>first|exact True.intro|(refine if_ ?_ ?_<;>intro h<;>first|exact h.elim|(exfalso; omega)|skip)|refine vs_ ?_|refine dv_ ?_|exact fin_|(show ∃ _, _ ∧ _; refine ex_ ?_)|(show ∃ _ _, _ ∧ _; refine ex2_ ?_))
        · (repeat' (conv => whnf)<;>first|exact True.intro|(refine if_ ?_ ?_<;>intro h<;>first|exact h.elim|(exfalso; omega)|skip)|refine vs_ ?_|refine dv_ ?_|exact fin_|(show ∃ _, _ ∧ _; refine ex_ ?_)|(show ∃ _ _, _ ∧ _; refine ex2_ ?_))
    · rw [dB_f s, if_neg (by decide)]
      by_cases s1 : (t.m : Int) = g.n
      · refine can_of hf rfl rfl ?_
        (repeat' (conv => whnf)<;>first|exact True.intro|(refine if_ ?_ ?_<;>intro h<;>first|exact h.elim|(exfalso; omega)|skip)|refine vs_ ?_|refine dv_ ?_|exact fin_|(show ∃ _, _ ∧ _; refine ex_ ?_ (by first|with_reducible exact rfl|with_reducible exact hgl|exact hC'|with_reducible exact hat.n|exact rd_))|(show ∃ _ _, _ ∧ _; refine ex2_ ?_ (by first|with_reducible exact rfl|with_reducible exact hgl|exact hC'|with_reducible exact hat.n|exact rd_)))
        conv => whnf
        refine vc_loop (α := Nat) 0 (fun i => t.m - i) (fun i => i ≤ t.m ∧ ∀ q, q < i → t.n q = t.m ∧ ∀ j, j < t.m → 0 ≤ t.f q j ∧ t.f q j ≤ p - 1) [] (fun i => [(0, .d (.int .i64 p)), (2, .d (tbD t)), (4, .ptr 5 37 0 0), (8, .d (.int .i64 i))]) (fun i => [(5, .data 37 [grpL g])]) lp_ ?_ ?_
        · (repeat' (conv => whnf)<;>first|exact True.intro|(refine if_ ?_ ?_<;>intro h<;>first|exact h.elim|(exfalso; omega)|skip)|refine vs_ ?_|refine dv_ ?_|exact fin_|(show ∃ _, _ ∧ _; refine ex_ ?_)|(show ∃ _ _, _ ∧ _; refine ex2_ ?_))
        · rintro i ⟨hi, hx⟩
          by_cases hlt : i < t.m
          · have hrl : (row (t.n i) (t.f i)).length = t.n i := row_len ..
            by_cases s2 : t.n i = t.m
            · (repeat' (conv => whnf)<;>first|exact True.intro|(refine if_ ?_ ?_<;>intro h<;>first|exact h.elim|(exfalso; omega)|skip)|refine vs_ ?_|refine dv_ ?_|exact fin_|(show ∃ _, _ ∧ _; refine ex_ ?_ (by first|with_reducible exact rfl|with_reducible exact tb_get hlt|with_reducible exact hat.n|exact rd_))|(show ∃ _ _, _ ∧ _; refine ex2_ ?_ (by first|with_reducible exact rfl|with_reducible exact tb_get hlt|with_reducible exact hat.n|exact rd_)))
              conv => whnf
              refine vc_loop (α := Nat) 0 (fun j => t.m - j) (fun j => j ≤ t.m ∧ ∀ q, q < j → 0 ≤ t.f i q ∧ t.f i q ≤ p - 1) [] (fun j => [(0, .d (.int .i64 p)), (2, .d (tbD t)), (4, .ptr 5 37 0 0), (8, .d (.int .i64 i)), (9, .d (.int .i64 j))]) (fun j => [(5, .data 37 [grpL g])]) lp_ ?_ ?_
              · (repeat' (conv => whnf)<;>first|exact True.intro|(refine if_ ?_ ?_<;>intro h<;>first|exact h.elim|(exfalso; omega)|skip)|refine vs_ ?_|refine dv_ ?_|exact fin_|(show ∃ _, _ ∧ _; refine ex_ ?_)|(show ∃ _ _, _ ∧ _; refine ex2_ ?_))
              · rintro j ⟨hj, hy⟩
                by_cases hlt2 : j < t.m
                · have hI' := hI (n := t.f i j) (lo := 0) (hi := p - 1)
                  by_cases s4 : 0 ≤ t.f i j ∧ t.f i j ≤ p - 1
                  · rw [decide_eq_true s4] at hI'
                    (repeat' (conv => whnf)<;>first|exact True.intro|(refine if_ ?_ ?_<;>intro h<;>first|exact h.elim|(exfalso; omega)|skip)|refine vs_ ?_|refine dv_ ?_|exact fin_|(show ∃ _, _ ∧ _; refine ex_ ?_ (by first|with_reducible exact rfl|with_reducible exact tb_get hlt|exact hI'|exact rd_))|(show ∃ _ _, _ ∧ _; refine ex2_ ?_ (by first|with_reducible exact rfl|with_reducible exact tb_get hlt|exact hI'|exact rd_)))
                    conv => whnf
                    refine ⟨j + 1, ⟨by omega, fun q hq => ?_⟩, by omega, ?_⟩
                    · by_cases e : q = j
                      · subst e; exact s4
                      · exact hy q (by omega)
                    (repeat' (conv => whnf)<;>first|exact True.intro|(refine if_ ?_ ?_<;>intro h<;>first|exact h.elim|(exfalso; omega)|skip)|refine vs_ ?_|refine dv_ ?_|exact fin_|(show ∃ _, _ ∧ _; refine ex_ ?_)|(show ∃ _ _, _ ∧ _; refine ex2_ ?_))
                  · rw [decide_eq_false s4] at hI'
                    (repeat' (conv => whnf)<;>first|exact True.intro|(refine if_ ?_ ?_<;>intro h<;>first|exact h.elim|(exfalso; omega)|skip)|refine vs_ ?_|refine dv_ ?_|exact fin_|(show ∃ _, _ ∧ _; refine ex_ ?_ (by first|with_reducible exact rfl|with_reducible exact tb_get hlt|exact hI'|exact rd_))|(show ∃ _ _, _ ∧ _; refine ex2_ ?_ (by first|with_reducible exact rfl|with_reducible exact tb_get hlt|exact hI'|exact rd_)))
                · (repeat' (conv => whnf)<;>first|exact True.intro|(refine if_ ?_ ?_<;>intro h<;>first|exact h.elim|(exfalso; omega)|skip)|refine vs_ ?_|refine dv_ ?_|exact fin_|(show ∃ _, _ ∧ _; refine ex_ ?_)|(show ∃ _ _, _ ∧ _; refine ex2_ ?_))
                  conv => whnf
                  refine ⟨i + 1, ⟨by omega, fun q hq => ?_⟩, by omega, ?_⟩
                  · by_cases e : q = i
                    · subst e; exact ⟨s2, fun j' hj' => hy j' (by omega)⟩
                    · exact hx q (by omega)
                  (repeat' (conv => whnf)<;>first|exact True.intro|(refine if_ ?_ ?_<;>intro h<;>first|exact h.elim|(exfalso; omega)|skip)|refine vs_ ?_|refine dv_ ?_|exact fin_|(show ∃ _, _ ∧ _; refine ex_ ?_)|(show ∃ _ _, _ ∧ _; refine ex2_ ?_))
            · (repeat' (conv => whnf)<;>first|exact True.intro|(refine if_ ?_ ?_<;>intro h<;>first|exact h.elim|(exfalso; omega)|skip)|refine vs_ ?_|refine dv_ ?_|exact fin_|(show ∃ _, _ ∧ _; refine ex_ ?_ (by first|with_reducible exact rfl|with_reducible exact tb_get hlt|with_reducible exact hat.n|exact rd_))|(show ∃ _ _, _ ∧ _; refine ex2_ ?_ (by first|with_reducible exact rfl|with_reducible exact tb_get hlt|with_reducible exact hat.n|exact rd_)))
          · exfalso
            exact s ⟨s1, fun i' hi' => hx i' (by omega)⟩
      · refine can_of hf rfl rfl ?_
        (repeat' (conv => whnf)<;>first|exact True.intro|(refine if_ ?_ ?_<;>intro h<;>first|exact h.elim|(exfalso; omega)|skip)|refine vs_ ?_|refine dv_ ?_|exact fin_|(show ∃ _, _ ∧ _; refine ex_ ?_ (by first|with_reducible exact rfl|with_reducible exact hgl|exact hC'|with_reducible exact hat.n|exact rd_))|(show ∃ _ _, _ ∧ _; refine ex2_ ?_ (by first|with_reducible exact rfl|with_reducible exact hgl|exact hC'|with_reducible exact hat.n|exact rd_)))
  · rw [if_neg c]
    generalize codG (dB (GP g)) (decide (p ∈ primes)) = x at *
    refine can_of hf rfl rfl ?_
    (repeat' (conv => whnf)<;>first|exact True.intro|(refine if_ ?_ ?_<;>intro h<;>first|exact h.elim|(exfalso; omega)|skip)|refine vs_ ?_|refine dv_ ?_|exact fin_|(show ∃ _, _ ∧ _; refine ex_ ?_ (by first|with_reducible exact rfl|with_reducible exact hgl|exact hC'|exact rd_))|(show ∃ _ _, _ ∧ _; refine ex2_ ?_ (by first|with_reducible exact rfl|with_reducible exact hgl|exact hC'|exact rd_)))
theorem c_sTwist (hT : C_sTabG P N) (hC : C_sCoc P N) (hf : isFn P N.spec_l06Twist (ir_spec_l06Twist N) = true) : C_sTwist P N := by
  intro g p t hb ht
  have hat := grpAt_one g
  have hgl := hat.all
  have hT' := hT (p := p) hb ht
  unfold twiG
  by_cases c : tabG g p t = 0
  · obtain ⟨h1, h2, h3⟩ := tabG_zero c
    have hC' := hC hb h1 h2 h3
    rw [c] at hT' ⊢
    rw [if_pos rfl]
    cases h : cocB g p t
    · rw [h] at hC'
      rw [if_neg (by decide)]
      refine can_of hf rfl rfl ?_
      (repeat' (conv => whnf)<;>first|exact True.intro|(refine if_ ?_ ?_<;>intro h<;>first|exact h.elim|(exfalso; omega)|skip)|refine vs_ ?_|refine dv_ ?_|exact fin_|(show ∃ _, _ ∧ _; refine ex_ ?_ (by first|with_reducible exact rfl|with_reducible exact hgl|exact hT'|exact hC'|exact rd_))|(show ∃ _ _, _ ∧ _; refine ex2_ ?_ (by first|with_reducible exact rfl|with_reducible exact hgl|exact hT'|exact hC'|exact rd_)))
    · rw [h] at hC'
      rw [if_pos rfl]
      refine can_of hf rfl rfl ?_
      (repeat' (conv => whnf)<;>first|exact True.intro|(refine if_ ?_ ?_<;>intro h<;>first|exact h.elim|(exfalso; omega)|skip)|refine vs_ ?_|refine dv_ ?_|exact fin_|(show ∃ _, _ ∧ _; refine ex_ ?_ (by first|with_reducible exact rfl|with_reducible exact hgl|exact hT'|exact hC'|exact rd_))|(show ∃ _ _, _ ∧ _; refine ex2_ ?_ (by first|with_reducible exact rfl|with_reducible exact hgl|exact hT'|exact hC'|exact rd_)))
  · rw [if_neg c]
    generalize tabG g p t = x at *
    refine can_of hf rfl rfl ?_
    (repeat' (conv => whnf)<;>first|exact True.intro|(refine if_ ?_ ?_<;>intro h<;>first|exact h.elim|(exfalso; omega)|skip)|refine vs_ ?_|refine dv_ ?_|exact fin_|(show ∃ _, _ ∧ _; refine ex_ ?_ (by first|with_reducible exact rfl|with_reducible exact hgl|exact hT'|exact rd_))|(show ∃ _ _, _ ∧ _; refine ex2_ ?_ (by first|with_reducible exact rfl|with_reducible exact hgl|exact hT'|exact rd_)))
end Go.X
