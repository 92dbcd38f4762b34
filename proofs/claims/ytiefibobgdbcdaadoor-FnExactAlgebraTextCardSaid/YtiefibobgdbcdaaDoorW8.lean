import Derived.Test.YtiefibobgdbcdaaDoorK14
import Derived.Test.YtiefibobgdbcdaaDoorM1
import Derived.Test.YtiefibobgdbcdaaDoorK5
import Derived.Test.YtiefibobgdbcdaaDoorW6
import Derived.Test.YtiefibobgdbcdaaDoorK13
set_option linter.all false
namespace Go.X
open Go Go.RowKit
set_option maxRecDepth 100000
set_option maxHeartbeats 8000000
set_option linter.unusedVariables false
variable {P : Program} {N : FN}
theorem c_small (hf : isFn P N.internal_strconv_small (ir_internal_strconv_small N) = true) : C_small P N := by
  intro n hn
  have z1 := digS_size
  have z2 := smallS_size
  refine can_of hf rfl rfl ?_
  (repeat' (conv => whnf)<;>first|exact True.intro|(refine if_ ?_ ?_<;>intro h<;>first|exact h.elim|(exfalso; omega)|skip)|refine vs_ ?_|refine dv_ ?_|exact fin_|(show ∃ _, _ ∧ _; refine ex_ ?_)|(show ∃ _ _, _ ∧ _; refine ex2_ ?_))
  · rw [dig_ex (n := n) (by omega)]
    (repeat' (conv => whnf)<;>first|exact True.intro|(refine if_ ?_ ?_<;>intro h<;>first|exact h.elim|(exfalso; omega)|skip)|refine vs_ ?_|refine dv_ ?_|exact fin_|(show ∃ _, _ ∧ _; refine ex_ ?_)|(show ∃ _ _, _ ∧ _; refine ex2_ ?_))
  · rw [sml_ex (n := n) (by omega)]
    (repeat' (conv => whnf)<;>first|exact True.intro|(refine if_ ?_ ?_<;>intro h<;>first|exact h.elim|(exfalso; omega)|skip)|refine vs_ ?_|refine dv_ ?_|exact fin_|(show ∃ _, _ ∧ _; refine ex_ ?_)|(show ∃ _ _, _ ∧ _; refine ex2_ ?_))
theorem iF_ex (hS : C_small P N) {n : Int} (hn : 0 ≤ n ∧ n ≤ 13) (R1 R2 : IR) : CF.ex (Can P) ⟨2, 54, [(.tmp 4)], (.seq (.reg false [] [(rO 4 (.mov (.c (.str (.mk #[])))))]) (.seq (.seq (.reg false [] [(rO 10 (.mov (.t 1))), (rO 11 (.cmp .eql (.t 10) (.c (.int .i64 10))))]) (.cond (.t 11) (.seq (.seq (.reg false [] [(rO 12 (.mov (.t 0))), (rO 13 (.cmp .leq (.c (.int .i64 0)) (.t 12))), (rO 14 (.mov (.t 13))), ⟨(some 15), 16, (.mov (.t 0)), (some (14, true)), [], none⟩, ⟨(some 16), 17, (.cmp .lss (.t 15) (.c (.int .i64 100))), (some (14, true)), [], none⟩, (rO 17 (.pick (.t 14) (.t 16) (.c (.bool false))))]) (.cond (.t 17) (.seq (.reg false [20] [(rO 18 (.mov (.t 0))), (rO 19 (.call N.internal_strconv_small [(.t 18)])), (rO 4 (.mov (.t 19)))]) .ret) .skip)) R1) .skip)) R2))⟩ [.int .i64 n, .int .i64 10] (.val (.str (decB n))) := by
  have hS' := hS hn
  (repeat' (conv => whnf)<;>first|exact True.intro|(refine if_ ?_ ?_<;>intro h<;>first|exact h.elim|(exfalso; omega)|skip)|refine vs_ ?_|refine dv_ ?_|exact fin_|(show ∃ _, _ ∧ _; refine ex_ ?_ (by first|with_reducible exact rfl|exact hS'|exact rd_))|(show ∃ _ _, _ ∧ _; refine ex2_ ?_ (by first|with_reducible exact rfl|exact hS'|exact rd_)))
theorem c_iFormatInt (hS : C_small P N) (hf : isFn P N.internal_strconv_FormatInt (ir_internal_strconv_FormatInt N) = true) : C_iFormatInt P N := by
  intro n hn
  exact can_of hf rfl rfl (iF_ex hS hn _ _)
theorem c_FormatInt (hS : C_iFormatInt P N) (hf : isFn P N.strconv_FormatInt (ir_strconv_FormatInt N) = true) : C_FormatInt P N := by
  intro n hn
  have hS' := hS hn
  refine can_of hf rfl rfl ?_
  (repeat' (conv => whnf)<;>first|exact True.intro|(refine if_ ?_ ?_<;>intro h<;>first|exact h.elim|(exfalso; omega)|skip)|refine vs_ ?_|refine dv_ ?_|exact fin_|(show ∃ _, _ ∧ _; refine ex_ ?_ (by first|with_reducible exact rfl|exact hS'|exact rd_))|(show ∃ _ _, _ ∧ _; refine ex2_ ?_ (by first|with_reducible exact rfl|exact hS'|exact rd_)))
theorem c_sDec1 (hf : isFn P N.spec_l01Dec (ir_spec_l01Dec N) = true) : C_sDec1 P N := by
  intro n hn
  refine can_of hf rfl rfl ?_
  (repeat' (conv => whnf)<;>first|exact True.intro|(refine if_ ?_ ?_<;>intro h<;>first|exact h.elim|(exfalso; omega)|skip)|refine vs_ ?_ (by first|exact ⟨rfl, byt1 _⟩|exact sd_)|refine dv_ ?_|exact fin_|(show ∃ _, _ ∧ _; refine ex_ ?_)|(show ∃ _ _, _ ∧ _; refine ex2_ ?_))
theorem c_sDec (h1 : C_sDec1 P N) (hf : isFn P N.spec_l01Dec (ir_spec_l01Dec N) = true) : C_sDec P N := by
  intro n hn
  by_cases h9 : n ≤ 9
  · have := h1 (n := n) ⟨hn.1, h9⟩
    unfold decB
    rw [if_pos (by omega)]
    exact this
  · have h1' := h1 (n := 1) (by omega)
    have e : n / 10 = 1 := by omega
    have e2 : decB n = by1 (48 + 1) ++ by1 (48 + n % 10) := by unfold decB; rw [if_neg (by omega), e]
    have s1 := by1_size (48 + 1)
    have s2 := by1_size (48 + n % 10)
    rw [e2]
    refine can_of hf rfl rfl ?_
    (repeat' (conv => whnf)<;>first|exact True.intro|(refine if_ ?_ ?_<;>intro h<;>first|exact h.elim|(exfalso; omega)|skip)|refine vs_ ?_|refine dv_ ?_|exact fin_|(show ∃ _, _ ∧ _; refine ex_ ?_)|(show ∃ _ _, _ ∧ _; refine ex2_ ?_))
    rw [e]
    have mr : maxRow = 4294967296 := rfl
    (repeat' (conv => whnf)<;>first|exact True.intro|(refine if_ ?_ ?_<;>intro h<;>first|exact h.elim|(exfalso; omega)|skip)|refine vs_ ?_ (by first|exact ⟨rfl, byt1 _⟩|exact sd_)|refine dv_ ?_|exact fin_|(show ∃ _, _ ∧ _; refine ex_ ?_ (by first|with_reducible exact rfl|exact h1'|exact rd_))|(show ∃ _ _, _ ∧ _; refine ex2_ ?_ (by first|with_reducible exact rfl|exact h1'|exact rd_)))
    rw [str1]
    (repeat' (conv => whnf)<;>first|exact True.intro|(refine if_ ?_ ?_<;>intro h<;>first|exact h.elim|(exfalso; omega)|skip)|refine vs_ ?_|refine dv_ ?_|exact fin_|(show ∃ _, _ ∧ _; refine ex_ ?_)|(show ∃ _ _, _ ∧ _; refine ex2_ ?_))
end Go.X
namespace Go.X
open Go Go.RowKit
set_option maxRecDepth 100000
set_option maxHeartbeats 8000000
set_option linter.unusedVariables false
variable {P : Program} {N : FN}
theorem c_vText (hf : isFn P N.impl_vectorText (ir_impl_vectorText N) = true) : C_vText P N := by
  intro v n hv hn
  have z := signS_size
  refine can_of hf rfl rfl ?_
  (repeat' (conv => whnf)<;>first|exact True.intro|(refine if_ ?_ ?_<;>intro h<;>first|exact h.elim|(exfalso; omega)|skip)|refine vs_ ?_|refine dv_ ?_|exact fin_|(show ∃ _, _ ∧ _; refine ex_ ?_)|(show ∃ _ _, _ ∧ _; refine ex2_ ?_))
  refine ⟨nbL v n, by rw [nb_len]; omega, sub_nb hn, ?_⟩
  (repeat' (conv => whnf)<;>first|exact True.intro|(refine if_ ?_ ?_<;>intro h<;>first|exact h.elim|(exfalso; omega)|skip)|refine vs_ ?_|refine dv_ ?_|exact fin_|(show ∃ _, _ ∧ _; refine ex_ ?_)|(show ∃ _ _, _ ∧ _; refine ex2_ ?_))
  conv => whnf
  refine vc_loop (α := Nat) 0 (fun i => n - i) (fun i => i ≤ n) [] (fun i => [(5, .row 6 1), (10, .d (.lst 1 (nbL v n))), (11, .d (.int .i64 n)), (12, .d (.int .i64 i))]) (fun i => [(6, .data 1 (vtL v i))]) lp_ ?_ ?_
  · (repeat' (conv => whnf)<;>first|exact True.intro|(refine if_ ?_ ?_<;>intro h<;>first|exact h.elim|(exfalso; omega)|skip)|refine vs_ ?_ (by first|exact congrArg (fun x => AV.d (D.int .i64 x)) (by rw [nb_len])|exact sd_)|refine dv_ ?_|exact fin_|(show ∃ _, _ ∧ _; refine ex_ ?_)|(show ∃ _ _, _ ∧ _; refine ex2_ ?_))
  · intro i hi
    by_cases hlt : i < n
    · have hl := nb_len v n
      have hvl := vtL_len v i
      have hvi := hv i hlt
      (repeat' (conv => whnf)<;>first|exact True.intro|(refine if_ ?_ ?_<;>intro h<;>first|exact h.elim|(exfalso; omega)|skip)|refine vs_ ?_ (by first|exact ⟨by (simp only [hvl, maxRow, List.length_cons, List.length_nil]; omega), by decide, by decide⟩|exact sd_)|refine dv_ ?_|exact fin_|(show ∃ _, _ ∧ _; refine ex_ ?_ (by first|with_reducible exact rfl|with_reducible exact nb_get hlt|exact sign_get hvi|exact rd_))|(show ∃ _ _, _ ∧ _; refine ex2_ ?_ (by first|with_reducible exact rfl|with_reducible exact nb_get hlt|exact sign_get hvi|exact rd_)))
      conv => whnf
      refine ⟨i + 1, by omega, by omega, ?_⟩
      rw [vtL_s, show D.int .u8 (sgn (v i)) = D.int .u8 ((UInt8.ofNat (sgn (v i)).toNat).toNat : Int) from congrArg _ (sgn_u8 hvi).symm]
      (repeat' (conv => whnf)<;>first|exact True.intro|(refine if_ ?_ ?_<;>intro h<;>first|exact h.elim|(exfalso; omega)|skip)|refine vs_ ?_|refine dv_ ?_|exact fin_|(show ∃ _, _ ∧ _; refine ex_ ?_)|(show ∃ _ _, _ ∧ _; refine ex2_ ?_))
    · have : i = n := by omega
      subst this
      (repeat' (conv => whnf)<;>first|exact True.intro|(refine if_ ?_ ?_<;>intro h<;>first|exact h.elim|(exfalso; omega)|skip)|refine vs_ ?_ (by first|exact ⟨rfl, byt_vt _ _⟩|exact sd_)|refine dv_ ?_|exact fin_|(show ∃ _, _ ∧ _; refine ex_ ?_)|(show ∃ _ _, _ ∧ _; refine ex2_ ?_))
theorem c_sVText (hf : isFn P N.spec_l01VectorText (ir_spec_l01VectorText N) = true) : C_sVText P N := by
  intro a v hv hn
  have f2 := (algAt_one a).n
  have hnn : ((a.n.toNat : Nat) : Int) = a.n := by omega
  refine can_of hf rfl rfl ?_
  (repeat' (conv => whnf)<;>first|exact True.intro|(refine if_ ?_ ?_<;>intro h<;>first|exact h.elim|(exfalso; omega)|skip)|refine vs_ ?_|refine dv_ ?_|exact fin_|(show ∃ _, _ ∧ _; refine ex_ ?_)|(show ∃ _ _, _ ∧ _; refine ex2_ ?_))
  conv => whnf
  refine vc_loop (α := Nat) 0 (fun i => a.n.toNat - i) (fun i => i ≤ a.n.toNat) [] (fun i => [(2, .ptr 3 224 0 0), (3, .ptr 4 6 0 0), (5, .row 6 1), (6, .d (.int .i64 i))]) (fun i => [(3, .data 224 [algL a]), (4, .data 6 [vecL v]), (6, .data 1 (vtL v i))]) lp_ ?_ ?_
  · (repeat' (conv => whnf)<;>first|exact True.intro|(refine if_ ?_ ?_<;>intro h<;>first|exact h.elim|(exfalso; omega)|skip)|refine vs_ ?_|refine dv_ ?_|exact fin_|(show ∃ _, _ ∧ _; refine ex_ ?_)|(show ∃ _ _, _ ∧ _; refine ex2_ ?_))
  · intro i hi
    have hvl := vtL_len v i
    by_cases hlt : i < a.n.toNat
    · have hvi := hv i hlt
      (repeat' (conv => whnf)<;>first|exact True.intro|(refine if_ ?_ ?_<;>intro h<;>first|exact h.elim|(exfalso; omega)|skip)|refine vs_ ?_|refine dv_ ?_|exact fin_|(show ∃ _, _ ∧ _; refine ex_ ?_ (by first|with_reducible exact rfl|with_reducible exact f2|exact rd_))|(show ∃ _ _, _ ∧ _; refine ex2_ ?_ (by first|with_reducible exact rfl|with_reducible exact f2|exact rd_)))
      · have e : sgn (v i) = 48 + v i := by unfold sgn; rw [if_pos (by omega)]
        conv => whnf
        refine ar8_add (by omega) ?_
        (repeat' (conv => whnf)<;>first|exact True.intro|(refine if_ ?_ ?_<;>intro h<;>first|exact h.elim|(exfalso; omega)|skip)|refine vs_ ?_ (by first|exact ⟨by (simp only [hvl, maxRow, List.length_cons, List.length_nil]; omega), by decide, by decide⟩|exact sd_)|refine dv_ ?_|exact fin_|(show ∃ _, _ ∧ _; refine ex_ ?_)|(show ∃ _ _, _ ∧ _; refine ex2_ ?_))
        conv => whnf
        refine ⟨i + 1, by omega, by omega, ?_⟩
        rw [vtL_s, e]
        (repeat' (conv => whnf)<;>first|exact True.intro|(refine if_ ?_ ?_<;>intro h<;>first|exact h.elim|(exfalso; omega)|skip)|refine vs_ ?_|refine dv_ ?_|exact fin_|(show ∃ _, _ ∧ _; refine ex_ ?_)|(show ∃ _ _, _ ∧ _; refine ex2_ ?_))
      · have e : sgn (v i) = 97 + v i - 10 := by unfold sgn; rw [if_neg (by omega)]; omega
        conv => whnf
        refine ar8_add (by omega) ?_
        (repeat' (conv => whnf)<;>first|exact True.intro|(refine if_ ?_ ?_<;>intro h<;>first|exact h.elim|(exfalso; omega)|skip)|refine vs_ ?_|refine dv_ ?_|exact fin_|(show ∃ _, _ ∧ _; refine ex_ ?_)|(show ∃ _ _, _ ∧ _; refine ex2_ ?_))
        conv => whnf
        refine ar8_sub (by omega) ?_
        (repeat' (conv => whnf)<;>first|exact True.intro|(refine if_ ?_ ?_<;>intro h<;>first|exact h.elim|(exfalso; omega)|skip)|refine vs_ ?_ (by first|exact ⟨by (simp only [hvl, maxRow, List.length_cons, List.length_nil]; omega), by decide, by decide⟩|exact sd_)|refine dv_ ?_|exact fin_|(show ∃ _, _ ∧ _; refine ex_ ?_)|(show ∃ _ _, _ ∧ _; refine ex2_ ?_))
        conv => whnf
        refine ⟨i + 1, by omega, by omega, ?_⟩
        rw [vtL_s, e]
        (repeat' (conv => whnf)<;>first|exact True.intro|(refine if_ ?_ ?_<;>intro h<;>first|exact h.elim|(exfalso; omega)|skip)|refine vs_ ?_|refine dv_ ?_|exact fin_|(show ∃ _, _ ∧ _; refine ex_ ?_)|(show ∃ _ _, _ ∧ _; refine ex2_ ?_))
    · have : i = a.n.toNat := by omega
      subst this
      (repeat' (conv => whnf)<;>first|exact True.intro|(refine if_ ?_ ?_<;>intro h<;>first|exact h.elim|(exfalso; omega)|skip)|refine vs_ ?_ (by first|exact ⟨rfl, byt_vt _ _⟩|exact sd_)|refine dv_ ?_|exact fin_|(show ∃ _, _ ∧ _; refine ex_ ?_ (by first|with_reducible exact rfl|with_reducible exact f2|exact rd_))|(show ∃ _ _, _ ∧ _; refine ex2_ ?_ (by first|with_reducible exact rfl|with_reducible exact f2|exact rd_)))
end Go.X
namespace Go.X
open Go Go.RowKit
set_option maxRecDepth 100000
set_option maxHeartbeats 8000000
set_option linter.unusedVariables false
variable {P : Program} {N : FN}
theorem c_text (hN : C_n P N) (hV : C_vText P N) (hF : C_FormatInt P N) (hJ : C_Join P N) (hf : isFn P N.impl_Algebra_text (ir_impl_Algebra_text N) = true) : C_text P N := by
  intro sz l e off a hat ha
  have hn := ha.n
  have hp := prime_bd ha.p
  obtain ⟨m, hm⟩ : ∃ m, m = a.n.toNat := ⟨_, rfl⟩
  have hnn : ((m : Nat) : Int) = a.n := by omega
  have hm6 : m ≤ 6 := by omega
  have hN' : Can P N.impl_Algebra_n [.pd sz l e off] (.val (.int .i64 a.n)) := hN hat
  have hVT : ∀ i j, Can P N.impl_vectorText [vecD (a.T i j), .int .i64 a.n] (.val (.str (vtB (a.T i j) m))) := fun i j => by
    have := hV (v := a.T i j) (n := m) (ok_sgs ha i j m) hm6
    rwa [hnn] at this
  have hVF : Can P N.impl_vectorText [vecD a.f, .int .i64 a.n] (.val (.str (vtB a.f m))) := by
    have := hV (v := a.f) (n := m) (ok_sgf ha m) hm6
    rwa [hnn] at this
  have hF1 := hF (n := a.p) (by omega)
  have hF2 := hF (n := a.n) (by omega)
  obtain ⟨j1, j2⟩ := txt_join (a := a) hm6
  have hJ' := hJ (xs := tparts a m (m * m)) j1 (by omega)
  have s1 := decB_size a.p
  have s2 := decB_size a.n
  have s3 := vtB_size a.f m
  have et : textB a = (((((decB a.p ++ ⟨#[58]⟩) ++ decB a.n) ++ ⟨#[58]⟩) ++ joinB (tparts a m (m * m))) ++ ⟨#[58]⟩) ++ vtB a.f m := by rw [hm]; rfl
  rw [et]
  refine can_of hf rfl rfl ?_
  (repeat' (conv => whnf)<;>first|exact True.intro|(refine if_ ?_ ?_<;>intro h<;>first|exact h.elim|(exfalso; omega)|skip)|refine vs_ ?_|refine dv_ ?_|exact fin_|(show ∃ _, _ ∧ _; refine ex_ ?_ (by first|with_reducible exact rfl|exact hN'|exact rd_))|(show ∃ _ _, _ ∧ _; refine ex2_ ?_ (by first|with_reducible exact rfl|exact hN'|exact rd_)))
  conv => whnf
  refine vc_loop (α := Nat) 0 (fun i => m - i) (fun i => i ≤ m) [] (fun i => [(0, .d (.pd sz l e off)), (3, .row 4 1), (9, .d (.int .i64 a.n)), (10, .d (.int .i64 i))]) (fun i => [(4, .data 1 (strsL (tparts a m (i * m))))]) lp_ ?_ ?_
  · rw [Nat.zero_mul]
    (repeat' (conv => whnf)<;>first|exact True.intro|(refine if_ ?_ ?_<;>intro h<;>first|exact h.elim|(exfalso; omega)|skip)|refine vs_ ?_|refine dv_ ?_|exact fin_|(show ∃ _, _ ∧ _; refine ex_ ?_)|(show ∃ _ _, _ ∧ _; refine ex2_ ?_))
  · intro i hi
    by_cases hlt : i < m
    · (repeat' (conv => whnf)<;>first|exact True.intro|(refine if_ ?_ ?_<;>intro h<;>first|exact h.elim|(exfalso; omega)|skip)|refine vs_ ?_|refine dv_ ?_|exact fin_|(show ∃ _, _ ∧ _; refine ex_ ?_ (by first|with_reducible exact rfl|exact hN'|exact rd_))|(show ∃ _ _, _ ∧ _; refine ex2_ ?_ (by first|with_reducible exact rfl|exact hN'|exact rd_)))
      conv => whnf
      refine vc_loop (α := Nat) 0 (fun j => m - j) (fun j => j ≤ m) [] (fun j => [(0, .d (.pd sz l e off)), (3, .row 4 1), (4, .d (.int .i64 i)), (9, .d (.int .i64 a.n)), (10, .d (.int .i64 i)), (14, .d (.int .i64 a.n)), (15, .d (.int .i64 j))]) (fun j => [(4, .data 1 (strsL (tparts a m (i * m + j))))]) lp_ ?_ ?_
      · (repeat' (conv => whnf)<;>first|exact True.intro|(refine if_ ?_ ?_<;>intro h<;>first|exact h.elim|(exfalso; omega)|skip)|refine vs_ ?_|refine dv_ ?_|exact fin_|(show ∃ _, _ ∧ _; refine ex_ ?_)|(show ∃ _ _, _ ∧ _; refine ex2_ ?_))
      · intro j hj
        have hq := tq_le hm6 hlt hj
        have hsl : (strsL (tparts a m (i * m + j))).length = i * m + j := by rw [strs_len, tparts_len]
        by_cases hlt2 : j < m
        · have hVT' := hVT i j
          (repeat' (conv => whnf)<;>first|exact True.intro|(refine if_ ?_ ?_<;>intro h<;>first|exact h.elim|(exfalso; omega)|skip)|refine vs_ ?_ (by first|exact ⟨by (simp only [hsl, maxRow, List.length_cons, List.length_nil]; omega), by decide, by decide⟩ | exact .inr (.str _)|exact sd_)|refine dv_ ?_|exact fin_|(show ∃ _, _ ∧ _; refine ex_ ?_ (by first|with_reducible exact rfl|exact hN'|exact hVT'|exact rd_))|(show ∃ _ _, _ ∧ _; refine ex2_ ?_ (by first|with_reducible exact rfl|exact hN'|exact hVT'|exact rd_)))
          conv => whnf
          refine ⟨j + 1, by omega, by omega, ?_⟩
          rw [← tp_s hlt2]
          (repeat' (conv => whnf)<;>first|exact True.intro|(refine if_ ?_ ?_<;>intro h<;>first|exact h.elim|(exfalso; omega)|skip)|refine vs_ ?_|refine dv_ ?_|exact fin_|(show ∃ _, _ ∧ _; refine ex_ ?_)|(show ∃ _ _, _ ∧ _; refine ex2_ ?_))
        · have : j = m := by omega
          subst this
          (repeat' (conv => whnf)<;>first|exact True.intro|(refine if_ ?_ ?_<;>intro h<;>first|exact h.elim|(exfalso; omega)|skip)|refine vs_ ?_|refine dv_ ?_|exact fin_|(show ∃ _, _ ∧ _; refine ex_ ?_)|(show ∃ _ _, _ ∧ _; refine ex2_ ?_))
          conv => whnf
          refine ⟨i + 1, by omega, by omega, ?_⟩
          rw [Nat.succ_mul]
          (repeat' (conv => whnf)<;>first|exact True.intro|(refine if_ ?_ ?_<;>intro h<;>first|exact h.elim|(exfalso; omega)|skip)|refine vs_ ?_|refine dv_ ?_|exact fin_|(show ∃ _, _ ∧ _; refine ex_ ?_)|(show ∃ _ _, _ ∧ _; refine ex2_ ?_))
    · have : i = m := by omega
      subst this
      (repeat' (conv => whnf)<;>first|exact True.intro|(refine if_ ?_ ?_<;>intro h<;>first|exact h.elim|(exfalso; omega)|skip)|refine vs_ ?_ (by first|exact (by simp only [ba_size, colon_size, maxRow]; omega) | exact .inr (.str _)|exact sd_)|refine dv_ ?_|exact fin_|(show ∃ _, _ ∧ _; refine ex_ ?_ (by first|with_reducible exact rfl|exact hF1|exact hF2|exact hJ'|exact hN'|exact hVF|exact rd_))|(show ∃ _ _, _ ∧ _; refine ex2_ ?_ (by first|with_reducible exact rfl|exact hF1|exact hF2|exact hJ'|exact hN'|exact hVF|exact rd_)))
theorem c_sText (hD : C_sDec P N) (hV : C_sVText P N) (hf : isFn P N.spec_l01Text (ir_spec_l01Text N) = true) : C_sText P N := by
  intro a ha
  have hn := ha.n
  have hp := prime_bd ha.p
  obtain ⟨m, hm⟩ : ∃ m, m = a.n.toNat := ⟨_, rfl⟩
  have hnn : ((m : Nat) : Int) = a.n := by omega
  have hm6 : m ≤ 6 := by omega
  have f1 := (algAt_one a).p
  have f2 := (algAt_one a).n
  have f3 := (algAt_one a).vecf
  have f4 := (algAt_one a).all
  have hVT : ∀ i j, Can P N.spec_l01VectorText [algD a, vecD (a.T i j)] (.val (.str (vtB (a.T i j) m))) := fun i j => by
    rw [hm]
    exact hV (ok_sgs ha i j _) (by omega)
  have hVF : Can P N.spec_l01VectorText [algD a, vecD a.f] (.val (.str (vtB a.f m))) := by
    rw [hm]
    exact hV (ok_sgf ha _) (by omega)
  have hD1 := hD (n := a.p) (by omega)
  have hD2 := hD (n := a.n) (by omega)
  have s1 := decB_size a.p
  have s2 := decB_size a.n
  have s3 := vtB_size a.f m
  have et : textB a = (((((decB a.p ++ ⟨#[58]⟩) ++ decB a.n) ++ ⟨#[58]⟩) ++ joinB (tparts a m (m * m))) ++ ⟨#[58]⟩) ++ vtB a.f m := by rw [hm]; rfl
  rw [et]
  refine can_of hf rfl rfl ?_
  (repeat' (conv => whnf)<;>first|exact True.intro|(refine if_ ?_ ?_<;>intro h<;>first|exact h.elim|(exfalso; omega)|skip)|refine vs_ ?_ (by first|exact (by simp only [ba_size, colon_size, maxRow]; omega)|exact sd_)|refine dv_ ?_|exact fin_|(show ∃ _, _ ∧ _; refine ex_ ?_ (by first|with_reducible exact rfl|exact hD1|exact hD2|with_reducible exact f1|with_reducible exact f2|exact rd_))|(show ∃ _ _, _ ∧ _; refine ex2_ ?_ (by first|with_reducible exact rfl|exact hD1|exact hD2|with_reducible exact f1|with_reducible exact f2|exact rd_)))
  conv => whnf
  have hHs : (((decB a.p ++ ⟨#[58]⟩) ++ decB a.n) ++ ⟨#[58]⟩).size ≤ 6 := by simp only [ba_size, colon_size]; omega
  generalize hH : (((decB a.p ++ ⟨#[58]⟩) ++ decB a.n) ++ ⟨#[58]⟩) = H at *
  refine vc_loop (α := Nat) 0 (fun i => m - i) (fun i => i ≤ m) [] (fun i => [(1, .ptr 2 224 0 0), (3, .d (.str (H ++ joinB (tparts a m (i * m))))), (4, .d (.int .i64 i))]) (fun i => [(2, .data 224 [algL a])]) lp_ ?_ ?_
  · rw [Nat.zero_mul, show tparts a m 0 = [] from rfl, ba_emp]
    (repeat' (conv => whnf)<;>first|exact True.intro|(refine if_ ?_ ?_<;>intro h<;>first|exact h.elim|(exfalso; omega)|skip)|refine vs_ ?_|refine dv_ ?_|exact fin_|(show ∃ _, _ ∧ _; refine ex_ ?_)|(show ∃ _ _, _ ∧ _; refine ex2_ ?_))
  · intro i hi
    by_cases hlt : i < m
    · (repeat' (conv => whnf)<;>first|exact True.intro|(refine if_ ?_ ?_<;>intro h<;>first|exact h.elim|(exfalso; omega)|skip)|refine vs_ ?_|refine dv_ ?_|exact fin_|(show ∃ _, _ ∧ _; refine ex_ ?_ (by first|with_reducible exact rfl|with_reducible exact f2|exact rd_))|(show ∃ _ _, _ ∧ _; refine ex2_ ?_ (by first|with_reducible exact rfl|with_reducible exact f2|exact rd_)))
      conv => whnf
      refine vc_loop (α := Nat) 0 (fun j => m - j) (fun j => j ≤ m) [] (fun j => [(1, .ptr 2 224 0 0), (3, .d (.str (H ++ joinB (tparts a m (i * m + j))))), (4, .d (.int .i64 i)), (5, .d (.int .i64 j))]) (fun j => [(2, .data 224 [algL a])]) lp_ ?_ ?_
      · (repeat' (conv => whnf)<;>first|exact True.intro|(refine if_ ?_ ?_<;>intro h<;>first|exact h.elim|(exfalso; omega)|skip)|refine vs_ ?_|refine dv_ ?_|exact fin_|(show ∃ _, _ ∧ _; refine ex_ ?_)|(show ∃ _ _, _ ∧ _; refine ex2_ ?_))
      · intro j hj
        have hq := tq_le hm6 hlt hj
        have hjs := join_size a m hm6 (i * m + j)
        have hvs := vtB_size (a.T i j) m
        by_cases hlt2 : j < m
        · have hVT' := hVT i j
          (repeat' (conv => whnf)<;>first|exact True.intro|(refine if_ ?_ ?_<;>intro h<;>first|exact h.elim|(exfalso; omega)|skip)|refine vs_ ?_ (by first|exact (by simp only [ba_size, comma_size, maxRow]; omega)|exact sd_)|refine dv_ ?_|exact fin_|(show ∃ _, _ ∧ _; refine ex_ ?_ (by first|with_reducible exact rfl|exact hVT'|with_reducible exact f2|with_reducible exact f4|exact rd_))|(show ∃ _ _, _ ∧ _; refine ex2_ ?_ (by first|with_reducible exact rfl|exact hVT'|with_reducible exact f2|with_reducible exact f4|exact rd_)))
          · conv => whnf
            refine ⟨j + 1, by omega, by omega, ?_⟩
            rw [← tx_s hlt2 (by omega)]
            (repeat' (conv => whnf)<;>first|exact True.intro|(refine if_ ?_ ?_<;>intro h<;>first|exact h.elim|(exfalso; omega)|skip)|refine vs_ ?_|refine dv_ ?_|exact fin_|(show ∃ _, _ ∧ _; refine ex_ ?_)|(show ∃ _ _, _ ∧ _; refine ex2_ ?_))
          · obtain ⟨rfl, rfl⟩ : i = 0 ∧ j = 0 := by omega
            conv => whnf
            refine ⟨0 + 1, by omega, by omega, ?_⟩
            rw [← tx_0 (by omega)]
            (repeat' (conv => whnf)<;>first|exact True.intro|(refine if_ ?_ ?_<;>intro h<;>first|exact h.elim|(exfalso; omega)|skip)|refine vs_ ?_|refine dv_ ?_|exact fin_|(show ∃ _, _ ∧ _; refine ex_ ?_)|(show ∃ _ _, _ ∧ _; refine ex2_ ?_))
        · have : j = m := by omega
          subst this
          (repeat' (conv => whnf)<;>first|exact True.intro|(refine if_ ?_ ?_<;>intro h<;>first|exact h.elim|(exfalso; omega)|skip)|refine vs_ ?_|refine dv_ ?_|exact fin_|(show ∃ _, _ ∧ _; refine ex_ ?_ (by first|with_reducible exact rfl|with_reducible exact f2|exact rd_))|(show ∃ _ _, _ ∧ _; refine ex2_ ?_ (by first|with_reducible exact rfl|with_reducible exact f2|exact rd_)))
          conv => whnf
          refine ⟨i + 1, by omega, by omega, ?_⟩
          rw [Nat.succ_mul]
          (repeat' (conv => whnf)<;>first|exact True.intro|(refine if_ ?_ ?_<;>intro h<;>first|exact h.elim|(exfalso; omega)|skip)|refine vs_ ?_|refine dv_ ?_|exact fin_|(show ∃ _, _ ∧ _; refine ex_ ?_)|(show ∃ _ _, _ ∧ _; refine ex2_ ?_))
    · have : i = m := by omega
      subst this
      obtain ⟨j1, j2⟩ := txt_join (a := a) hm6
      (repeat' (conv => whnf)<;>first|exact True.intro|(refine if_ ?_ ?_<;>intro h<;>first|exact h.elim|(exfalso; omega)|skip)|refine vs_ ?_ (by first|exact (by simp only [ba_size, colon_size, maxRow]; omega)|exact sd_)|refine dv_ ?_|exact fin_|(show ∃ _, _ ∧ _; refine ex_ ?_ (by first|with_reducible exact rfl|exact hVF|with_reducible exact f2|with_reducible exact f3|with_reducible exact f4|exact rd_))|(show ∃ _ _, _ ∧ _; refine ex2_ ?_ (by first|with_reducible exact rfl|exact hVF|with_reducible exact f2|with_reducible exact f3|with_reducible exact f4|exact rd_)))
end Go.X
namespace Go.X
open Go Go.RowKit
set_option maxRecDepth 100000
set_option maxHeartbeats 8000000
set_option linter.unusedVariables false
variable {P : Program} {N : FN}
theorem c_AlgText (hV : C_validE P N) (hT : C_text P N) (hf : isFn P N.impl_AlgebraText (ir_impl_AlgebraText N) = true) : C_AlgText P N := by
  intro a hi
  have hal := (algAt_one a).all
  have hV' := hV hi
  by_cases g : IsAlgP a
  · rw [dB_t g] at hV' ⊢
    have hT' := hT (algAt_one a) (hi.s.ok ((alg_iff hi).1 g).1) (sz := 224)
    rw [if_pos rfl] at hV'
    refine can_of hf rfl rfl ?_
    (repeat' (conv => whnf)<;>first|exact True.intro|(refine if_ ?_ ?_<;>intro h<;>first|exact h.elim|(exfalso; omega)|skip)|refine vs_ ?_ (by first|exact .inr (.str _)|exact sd_)|refine dv_ ?_|exact fin_|(show ∃ _, _ ∧ _; refine ex_ ?_ (by first|with_reducible exact rfl|with_reducible exact hal|exact hV'|exact hT'|exact rd_))|(show ∃ _ _, _ ∧ _; refine ex2_ ?_ (by first|with_reducible exact rfl|with_reducible exact hal|exact hV'|exact hT'|exact rd_)))
  · rw [dB_f g] at hV' ⊢
    rw [if_neg (by decide)] at hV'
    refine can_of hf rfl rfl ?_
    (repeat' (conv => whnf)<;>first|exact True.intro|(refine if_ ?_ ?_<;>intro h<;>first|exact h.elim|(exfalso; omega)|skip)|refine vs_ ?_|refine dv_ ?_|exact fin_|(show ∃ _, _ ∧ _; refine ex_ ?_ (by first|with_reducible exact rfl|with_reducible exact hal|exact hV'|exact rd_))|(show ∃ _ _, _ ∧ _; refine ex2_ ?_ (by first|with_reducible exact rfl|with_reducible exact hal|exact hV'|exact rd_)))
theorem c_sAlgText (hV : C_sCodeE P N) (hT : C_sText P N) (hf : isFn P N.spec_AlgebraText (ir_spec_AlgebraText N) = true) : C_sAlgText P N := by
  intro a hi
  have hal := (algAt_one a).all
  have hV' := hV hi
  by_cases g : sAlgP a
  · rw [dB_t g] at hV' ⊢
    have hT' := hT (hi.ok g.1)
    rw [if_pos rfl] at hV'
    refine can_of hf rfl rfl ?_
    (repeat' (conv => whnf)<;>first|exact True.intro|(refine if_ ?_ ?_<;>intro h<;>first|exact h.elim|(exfalso; omega)|skip)|refine vs_ ?_|refine dv_ ?_|exact fin_|(show ∃ _, _ ∧ _; refine ex_ ?_ (by first|with_reducible exact rfl|with_reducible exact hal|exact hV'|exact hT'|exact rd_))|(show ∃ _ _, _ ∧ _; refine ex2_ ?_ (by first|with_reducible exact rfl|with_reducible exact hal|exact hV'|exact hT'|exact rd_)))
  · rw [dB_f g] at hV' ⊢
    rw [if_neg (by decide)] at hV'
    refine can_of hf rfl rfl ?_
    (repeat' (conv => whnf)<;>first|exact True.intro|(refine if_ ?_ ?_<;>intro h<;>first|exact h.elim|(exfalso; omega)|skip)|refine vs_ ?_|refine dv_ ?_|exact fin_|(show ∃ _, _ ∧ _; refine ex_ ?_ (by first|with_reducible exact rfl|with_reducible exact hal|exact hV'|exact rd_))|(show ∃ _ _, _ ∧ _; refine ex2_ ?_ (by first|with_reducible exact rfl|with_reducible exact hal|exact hV'|exact rd_)))
def L_AlgebraText (P : Program) (N : FN) : Prop := ∀ args, argsHave [tyAlg] args → Can P N.laws_FnExactAlgebraText args (.val (.bool true))
theorem l_AlgebraText (hA : C_toAlgebra P N) (hS : C_sAlgText P N) (hI : C_AlgText P N) (hf : isFn P N.laws_FnExactAlgebraText (ir_laws_FnExactAlgebraText N) = true) : L_AlgebraText P N := fun args h => by
  obtain ⟨d1, rfl, h1⟩ := args1 h
  obtain ⟨a, rfl, ha, _⟩ := arg_alg h1
  have hal := (algAt_one a).all
  have hA' := hA (a := a)
  have hS' := hS ha.s
  have hI' := hI ha
  rw [dB_congr (alg_iff ha)] at hI'
  obtain ⟨u, c, e⟩ : ∃ (u : ByteArray) (c : Int), txtR a (dB (sAlgP a)) = .tup [.str u, .int .i64 c] := by
    unfold txtR
    cases dB (sAlgP a) <;> exact ⟨_, _, rfl⟩
  rw [e] at hI' hS'
  refine can_of hf rfl rfl ?_
  (repeat' (conv => whnf)<;>first|exact True.intro|(refine if_ ?_ ?_<;>intro h<;>first|exact h.elim|(exfalso; omega)|skip)|refine vs_ ?_|refine dv_ ?_|exact fin_|(show ∃ _, _ ∧ _; refine ex_ ?_ (by first|with_reducible exact rfl|with_reducible exact hal|exact hA'|exact hS'|exact hI'|exact rd_))|(show ∃ _ _, _ ∧ _; refine ex2_ ?_ (by first|with_reducible exact rfl|with_reducible exact hal|exact hA'|exact hS'|exact hI'|exact rd_)))
  all_goals (exfalso; clear hS' hI' e; simp_all)
end Go.X
