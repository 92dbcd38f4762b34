import Derived.Test.YtphelkciklpakaaM1
set_option linter.all false
namespace Go.X
open Go Go.RowKit
set_option maxRecDepth 100000
set_option maxHeartbeats 8000000
set_option linter.unusedSimpArgs false
set_option linter.unusedVariables false
variable {P : Program} {N : FN}
abbrev tabC (a : Alg) : List D := arr 216 fun q => algF a (2 + q)
abbrev tab1 (a : Alg) (i : Nat) : List D := arr 36 fun q => algF a (2 + (i * 36 + q))
theorem rd_tab {l : List (List D)} {e off : Nat} {a : Alg} (h : AlgAt l e off a) : sub2 l e (off + 2) 216 = some (tabC a) :=
  sub2_of (fun q hq => by rw [← h _ (by omega)]; congr 1; omega) (by omega)
theorem rd_tab1 {a : Alg} {i : Nat} (hi : i < 6) : cut (tabC a) (((i : Nat) : Int).toNat * 36) 36 = some (tab1 a i) := by
  rw [Int.toNat_natCast]; exact arr_cut (by omega)
theorem rd_tab2 {a : Alg} {i j : Nat} (hi : i < 6) (hj : j < 6) : cut (tab1 a i) (((j : Nat) : Int).toNat * 6) 6 = some (vecL (a.T i j)) := by
  rw [Int.toNat_natCast]
  refine (arr_cut (by omega)).trans (congrArg some (arr_ext fun k hk => ?_))
  rw [← algF_T a hi hj hk]; congr 1; omega
theorem rd_stallL {m : Nat} {z l : List D} (hz : z.length = m) (hl : l.length = m) : sub2 ([z].set 0 (splice z 0 l)) 0 0 m = some l := by
  have e : splice z 0 l = l := by
    unfold splice
    rw [List.take_zero, List.nil_append, hl, List.drop_eq_nil_of_le (by omega), List.append_nil]
  rw [e]
  simp only [sub2, cut, List.set_cons_zero, List.getElem?_cons_zero, Option.bind_some, hl, Nat.zero_add, Nat.le_refl, if_true, List.drop_zero]
  rw [List.take_of_length_le (by omega)]
theorem c_tableOk (hV : C_isVector P N) (hN : C_n P N) (hf : isFn P N.impl_Algebra_tableOk (ir_impl_Algebra_tableOk N) = true) : C_tableOk P N := by
  intro sz l e off a hat hb
  have hN' : Can P N.impl_Algebra_n [.pd sz l e off] (.val (.int .i64 a.n)) := hN hat
  refine can_of hf rfl rfl ?_
  (repeat' (conv => whnf)<;>first|exact True.intro|(refine if_ ?_ ?_<;>intro h<;>first|exact h.elim|(exfalso; omega)|skip)|refine vs_ ?_|refine dv_ ?_|exact fin_|(show ∃ _, _ ∧ _; refine ex_ ?_ (by first|with_reducible exact rfl|exact rd_tab hat|exact rd_))|(show ∃ _ _, _ ∧ _; refine ex2_ ?_ (by first|with_reducible exact rfl|exact rd_tab hat|exact rd_)))
  conv => whnf
  refine vc_loop (α := Nat) 0 (fun i => 6 - i) (fun i => i ≤ 6 ∧ ∀ i' : Nat, i' < i → ∀ j : Nat, j < 6 → Small (a.T i' j) a.n a.p ∧ (a.n ≤ (i' : Int) ∨ a.n ≤ (j : Int) → VEq (a.T i' j) Z)) [] (fun i => [(10, .d (.agg (tabC a))), (11, .d (.int .i64 i))]) (fun i => []) lp_ ?_ ?_
  · (repeat' (conv => whnf)<;>first|exact True.intro|(refine if_ ?_ ?_<;>intro h<;>first|exact h.elim|(exfalso; omega)|skip)|refine vs_ ?_|refine dv_ ?_|exact fin_|(show ∃ _, _ ∧ _; refine ex_ ?_)|(show ∃ _ _, _ ∧ _; refine ex2_ ?_))
  · rintro i ⟨hi, hx⟩
    by_cases hlt : i < 6
    · (repeat' (conv => whnf)<;>first|exact True.intro|(refine if_ ?_ ?_<;>intro h<;>first|exact h.elim|(exfalso; omega)|skip)|refine vs_ ?_|refine dv_ ?_|exact fin_|(show ∃ _, _ ∧ _; refine ex_ ?_ (by first|with_reducible exact rfl|exact rd_tab1 (by omega)|exact rd_stallL rfl (arr_len ..)|exact rd_))|(show ∃ _ _, _ ∧ _; refine ex2_ ?_ (by first|with_reducible exact rfl|exact rd_tab1 (by omega)|exact rd_stallL rfl (arr_len ..)|exact rd_)))
      conv => whnf
      refine vc_loop (α := Nat) 0 (fun j => 6 - j) (fun j => j ≤ 6 ∧ ∀ j' : Nat, j' < j → Small (a.T i j') a.n a.p ∧ (a.n ≤ (i : Int) ∨ a.n ≤ (j' : Int) → VEq (a.T i j') Z)) [] (fun j => [(3, .d (.int .i64 i)), (10, .d (.agg (tabC a))), (11, .d (.int .i64 i)), (15, .d (.agg (tab1 a i))), (16, .d (.int .i64 j))]) (fun j => []) lp_ ?_ ?_
      · (repeat' (conv => whnf)<;>first|exact True.intro|(refine if_ ?_ ?_<;>intro h<;>first|exact h.elim|(exfalso; omega)|skip)|refine vs_ ?_|refine dv_ ?_|exact fin_|(show ∃ _, _ ∧ _; refine ex_ ?_)|(show ∃ _ _, _ ∧ _; refine ex2_ ?_))
      · rintro j ⟨hj, hy⟩
        (repeat' (conv => whnf)<;>first|exact True.intro|(refine if_ ?_ ?_<;>intro h<;>first|exact h.elim|(exfalso; omega)|skip)|refine vs_ ?_ (by first|exact ⟨conf_vec _, conf_vec Z⟩|exact sd_)|refine dv_ ?_|exact fin_|(show ∃ _, _ ∧ _; refine ex_ ?_ (by first|with_reducible exact rfl|exact rd_tab2 hlt (by omega)|exact hV (hb.1 i j)|exact hN'|exact eq_vec (w := Z)|exact rd_))|(show ∃ _ _, _ ∧ _; refine ex2_ ?_ (by first|with_reducible exact rfl|exact rd_tab2 hlt (by omega)|exact hV (hb.1 i j)|exact hN'|exact eq_vec (w := Z)|exact rd_)))
        all_goals (conv => whnf)
        all_goals first
          | exact no (fun hs => absurd (hs.1 i j hlt (by omega)).1 ‹_›)
          | exact no (fun hs => absurd ((hs.1 i j hlt (by omega)).2 (by omega)) ‹_›)
          | (have hq : Small (a.T i j) a.n a.p ∧ (a.n ≤ (i : Int) ∨ a.n ≤ (j : Int) → VEq (a.T i j) Z) := ⟨by assumption, fun h9 => by first | assumption | (exfalso; omega)⟩
             refine ⟨j + 1, ⟨by omega, all_succ hy hq⟩, by omega, ?_⟩
             (repeat' (conv => whnf)<;>first|exact True.intro|(refine if_ ?_ ?_<;>intro h<;>first|exact h.elim|(exfalso; omega)|skip)|refine vs_ ?_|refine dv_ ?_|exact fin_|(show ∃ _, _ ∧ _; refine ex_ ?_)|(show ∃ _ _, _ ∧ _; refine ex2_ ?_)))
          | (have h7 : ∀ j' : Nat, j' < 6 → Small (a.T i j') a.n a.p ∧ (a.n ≤ (i : Int) ∨ a.n ≤ (j' : Int) → VEq (a.T i j') Z) := fun j' hj' => hy j' (by omega)
             refine ⟨i + 1, ⟨by omega, all_succ hx h7⟩, by omega, ?_⟩
             (repeat' (conv => whnf)<;>first|exact True.intro|(refine if_ ?_ ?_<;>intro h<;>first|exact h.elim|(exfalso; omega)|skip)|refine vs_ ?_|refine dv_ ?_|exact fin_|(show ∃ _, _ ∧ _; refine ex_ ?_)|(show ∃ _ _, _ ∧ _; refine ex2_ ?_)))
    · have hall : ∀ i' j : Nat, i' < 6 → j < 6 → Small (a.T i' j) a.n a.p ∧ (a.n ≤ (i' : Int) ∨ a.n ≤ (j : Int) → VEq (a.T i' j) Z) := fun i' j h1 h2 => hx i' (by omega) j h2
      by_cases hsm : Small a.f a.n a.p
      · have hv1 : Can P N.impl_isVector [vecD a.f, .int .i64 a.n, .int .i64 a.p] (.val (.bool true)) := by have := hV (n := a.n) (p := a.p) hb.2; rwa [decide_eq_true hsm] at this
        (repeat' (conv => whnf)<;>first|exact True.intro|(refine if_ ?_ ?_<;>intro h<;>first|exact h.elim|(exfalso; omega)|skip)|refine vs_ ?_|refine dv_ ?_|exact fin_|(show ∃ _, _ ∧ _; refine ex_ ?_ (by first|with_reducible exact rfl|exact hv1|exact rd_))|(show ∃ _ _, _ ∧ _; refine ex2_ ?_ (by first|with_reducible exact rfl|exact hv1|exact rd_)))
        conv => whnf
        exact yes ⟨hall, hsm⟩
      · have hv1 : Can P N.impl_isVector [vecD a.f, .int .i64 a.n, .int .i64 a.p] (.val (.bool false)) := by have := hV (n := a.n) (p := a.p) hb.2; rwa [decide_eq_false hsm] at this
        (repeat' (conv => whnf)<;>first|exact True.intro|(refine if_ ?_ ?_<;>intro h<;>first|exact h.elim|(exfalso; omega)|skip)|refine vs_ ?_|refine dv_ ?_|exact fin_|(show ∃ _, _ ∧ _; refine ex_ ?_ (by first|with_reducible exact rfl|exact hv1|exact rd_))|(show ∃ _ _, _ ∧ _; refine ex2_ ?_ (by first|with_reducible exact rfl|exact hv1|exact rd_)))
        conv => whnf
        exact no (fun h => hsm h.2)
end Go.X
namespace Go.X
open Go Go.RowKit
set_option maxRecDepth 100000
set_option maxHeartbeats 8000000
set_option linter.unusedSimpArgs false
set_option linter.unusedVariables false
variable {P : Program} {N : FN}
def tS (a : Alg) (v w : Nat → Int) (i j : Nat) : Nat → Int := fun k => if (k : Int) < a.n then tsum a v w k i + sumN j fun j => v i * w j * a.T i j k else 0
theorem tS_bd {a : Alg} {v w : Nat → Int} (hb : AlgB a) (hv : Byts v) (hw : Byts w) (hn6 : 0 ≤ a.n ∧ a.n ≤ 6) {i j : Nat} (hi : i ≤ 6) (hj : j ≤ 6) (k : Nat) : 0 ≤ tS a v w i j k ∧ tS a v w i j k ≤ 700000000 := by
  unfold tS
  split
  · have hc : ∀ i j, 0 ≤ v i * w j * a.T i j k ∧ v i * w j * a.T i j k ≤ 255 * 255 * 255 := fun i j => mul_bd (mul_bd (hv i) (hw j)) (hb.1 i j k)
    have h1 := sumN_bd (f := fun j => v i * w j * a.T i j k) (hc i) j
    have h2 : ∀ i, 0 ≤ sumN a.n.toNat (fun j => v i * w j * a.T i j k) ∧ sumN a.n.toNat (fun j => v i * w j * a.T i j k) ≤ 100000000 := fun i => by
      have := sumN_bd (f := fun j => v i * w j * a.T i j k) (hc i) a.n.toNat
      omega
    have h3 := sumN_bd h2 i
    unfold tsum
    omega
  · omega
theorem tS_zero {a : Alg} {v w : Nat → Int} {i j : Nat} (h : v i * w j = 0) : cel .i64 6 (tS a v w i j) = cel .i64 6 (tS a v w i (j + 1)) := cel_ext fun k _ => by
  unfold tS; simp only [sumN, h, Int.zero_mul, Int.add_zero]
theorem tS_next {a : Alg} {v w : Nat → Int} {i j k : Nat} (h : (k : Int) < a.n) : tS a v w i j k + v i * w j * a.T i j k = tS a v w i (j + 1) k := by
  unfold tS; simp only [h, if_true, sumN]; omega
theorem tS_prog {a : Alg} {v w : Nat → Int} {i j k : Nat} (h : a.n ≤ (k : Int)) : cel .i64 6 (prog k (tS a v w i (j + 1)) (tS a v w i j)) = cel .i64 6 (tS a v w i (j + 1)) := cel_ext fun q _ => by
  unfold prog
  split
  · rfl
  · unfold tS; rw [if_neg (by omega), if_neg (by omega)]
theorem tS_row {a : Alg} {v w : Nat → Int} {i j : Nat} (h : a.n ≤ (j : Int)) (hj : j ≤ a.n.toNat) : cel .i64 6 (tS a v w i j) = cel .i64 6 (tS a v w (i + 1) 0) := cel_ext fun q _ => by
  have : j = a.n.toNat := by omega
  subst this
  unfold tS tsum; simp only [sumN]; split <;> omega
theorem tS_end {a : Alg} {v w : Nat → Int} {i k : Nat} (h : a.n ≤ (i : Int)) (hi : i ≤ a.n.toNat) : tS a v w i 0 k % a.p = timesV a v w k := by
  have : i = a.n.toNat := by omega
  subst this
  unfold tS timesV; simp only [sumN, Int.add_zero]
  split
  · rfl
  · simp
theorem c_times (hn : C_n P N) (hf : isFn P N.impl_Algebra_times (ir_impl_Algebra_times N) = true) : C_times P N := by
  intro sz l e off a v w ha hb hv hw hp hn6
  refine can_of hf rfl rfl ?_
  (repeat' (conv => whnf)<;>first|exact True.intro|(refine if_ ?_ ?_<;>intro h<;>first|exact h.elim|(exfalso; omega)|skip)|refine vs_ ?_|refine dv_ ?_|exact fin_|(show ∃ _, _ ∧ _; refine ex_ ?_ (by first|with_reducible exact rfl|exact hn ‹_›|exact rd_))|(show ∃ _ _, _ ∧ _; refine ex2_ ?_ (by first|with_reducible exact rfl|exact hn ‹_›|exact rd_)))
  conv => whnf
  refine vc_loop (α := Nat) 0 (fun i => a.n.toNat - i) (fun i => i ≤ a.n.toNat) [] (fun i => [(4, .ptr 5 6 0 0), (5, .ptr 6 6 0 0), (7, .ptr 8 6 0 0), (17, .d (.int .i64 a.n)), (18, .d (.int .i64 i))]) (fun i => [(5, .data 6 [vecL v]), (6, .data 6 [vecL w]), (8, .data 6 [cel .i64 6 (tS a v w i 0)])]) lp_ ?_ ?_
  · (repeat' (conv => whnf)<;>first|exact True.intro|(refine if_ ?_ ?_<;>intro h<;>first|exact h.elim|(exfalso; omega)|skip)|refine vs_ ?_ (by first|exact zeros6 (fun i _ => by simp [tS, tsum, sumN])|exact sd_)|refine dv_ ?_|exact fin_|(show ∃ _, _ ∧ _; refine ex_ ?_)|(show ∃ _ _, _ ∧ _; refine ex2_ ?_))
  · intro i hi
    (repeat' (conv => whnf)<;>first|exact True.intro|(refine if_ ?_ ?_<;>intro h<;>first|exact h.elim|(exfalso; omega)|skip)|refine vs_ ?_|refine dv_ ?_|exact fin_|(show ∃ _, _ ∧ _; refine ex_ ?_ (by first|with_reducible exact rfl|exact hn ‹_›|exact rd_))|(show ∃ _ _, _ ∧ _; refine ex2_ ?_ (by first|with_reducible exact rfl|exact hn ‹_›|exact rd_)))
    · conv => whnf
      refine vc_loop (α := Nat) 0 (fun j => a.n.toNat - j) (fun j => j ≤ a.n.toNat) [] (fun j => [(4, .ptr 5 6 0 0), (5, .ptr 6 6 0 0), (7, .ptr 8 6 0 0), (17, .d (.int .i64 a.n)), (18, .d (.int .i64 i)), (8, .d (.int .i64 i)), (22, .d (.int .i64 a.n)), (23, .d (.int .i64 j))]) (fun j => [(5, .data 6 [vecL v]), (6, .data 6 [vecL w]), (8, .data 6 [cel .i64 6 (tS a v w i j)])]) lp_ ?_ ?_
      · (repeat' (conv => whnf)<;>first|exact True.intro|(refine if_ ?_ ?_<;>intro h<;>first|exact h.elim|(exfalso; omega)|skip)|refine vs_ ?_|refine dv_ ?_|exact fin_|(show ∃ _, _ ∧ _; refine ex_ ?_)|(show ∃ _ _, _ ∧ _; refine ex2_ ?_))
      · intro j hj
        have h1 := hv i
        have h2 := hw j
        have h3 := mul_bd h1 h2
        (repeat' (conv => whnf)<;>first|exact True.intro|(refine if_ ?_ ?_<;>intro h<;>first|exact h.elim|(exfalso; omega)|skip)|refine vs_ ?_|refine dv_ ?_|exact fin_|(show ∃ _, _ ∧ _; refine ex_ ?_ (by first|with_reducible exact rfl|exact hn ‹_›|exact rd_))|(show ∃ _ _, _ ∧ _; refine ex2_ ?_ (by first|with_reducible exact rfl|exact hn ‹_›|exact rd_)))
        · conv => whnf
          refine ⟨j + 1, by omega, by omega, ?_⟩
          (repeat' (conv => whnf)<;>first|exact True.intro|(refine if_ ?_ ?_<;>intro h<;>first|exact h.elim|(exfalso; omega)|skip)|refine vs_ ?_ (by first|exact congrArg (fun x => Chunk.data 6 [x]) (tS_zero ‹_›)|exact sd_)|refine dv_ ?_|exact fin_|(show ∃ _, _ ∧ _; refine ex_ ?_)|(show ∃ _ _, _ ∧ _; refine ex2_ ?_))
        · conv => whnf
          refine vc_loop (α := Nat) 0 (fun k => a.n.toNat - k) (fun k => k ≤ a.n.toNat) [] (fun k => [(4, .ptr 5 6 0 0), (5, .ptr 6 6 0 0), (7, .ptr 8 6 0 0), (17, .d (.int .i64 a.n)), (18, .d (.int .i64 i)), (8, .d (.int .i64 i)), (22, .d (.int .i64 a.n)), (23, .d (.int .i64 j)), (9, .d (.int .i64 j)), (10, .d (.int .i64 (v i * w j))), (38, .d (.int .i64 a.n)), (39, .d (.int .i64 k))]) (fun k => [(5, .data 6 [vecL v]), (6, .data 6 [vecL w]), (8, .data 6 [cel .i64 6 (prog k (tS a v w i (j + 1)) (tS a v w i j))])]) lp_ ?_ ?_
          · (repeat' (conv => whnf)<;>first|exact True.intro|(refine if_ ?_ ?_<;>intro h<;>first|exact h.elim|(exfalso; omega)|skip)|refine vs_ ?_ (by first|exact congrArg (fun x => Chunk.data 6 [x]) cel_prog0.symm|exact sd_)|refine dv_ ?_|exact fin_|(show ∃ _, _ ∧ _; refine ex_ ?_)|(show ∃ _ _, _ ∧ _; refine ex2_ ?_))
          · intro k hk
            have h4 := tS_bd hb hv hw hn6 (i := i) (j := j) (by omega) (by omega) k
            have h5 := mul_bd h3 (hb.1 i j k)
            have h6 := hb.1 i j k
            (repeat' (conv => whnf)<;>first|exact True.intro|(refine if_ ?_ ?_<;>intro h<;>first|exact h.elim|(exfalso; omega)|skip)|refine vs_ ?_|refine dv_ ?_|exact fin_|(show ∃ _, _ ∧ _; refine ex_ ?_)|(show ∃ _ _, _ ∧ _; refine ex2_ ?_))
            · conv => whnf
              refine ⟨k + 1, by omega, by omega, ?_⟩
              (repeat' (conv => whnf)<;>first|exact True.intro|(refine if_ ?_ ?_<;>intro h<;>first|exact h.elim|(exfalso; omega)|skip)|refine vs_ ?_ (by first|exact st_prog (tS_next ‹_›)|exact sd_)|refine dv_ ?_|exact fin_|(show ∃ _, _ ∧ _; refine ex_ ?_)|(show ∃ _ _, _ ∧ _; refine ex2_ ?_))
            · conv => whnf
              refine ⟨j + 1, by omega, by omega, ?_⟩
              (repeat' (conv => whnf)<;>first|exact True.intro|(refine if_ ?_ ?_<;>intro h<;>first|exact h.elim|(exfalso; omega)|skip)|refine vs_ ?_ (by first|exact congrArg (fun x => Chunk.data 6 [x]) (tS_prog ‹_›)|exact sd_)|refine dv_ ?_|exact fin_|(show ∃ _, _ ∧ _; refine ex_ ?_)|(show ∃ _ _, _ ∧ _; refine ex2_ ?_))
        · conv => whnf
          refine ⟨i + 1, by omega, by omega, ?_⟩
          (repeat' (conv => whnf)<;>first|exact True.intro|(refine if_ ?_ ?_<;>intro h<;>first|exact h.elim|(exfalso; omega)|skip)|refine vs_ ?_ (by first|exact congrArg (fun x => Chunk.data 6 [x]) (tS_row ‹_› hj)|exact sd_)|refine dv_ ?_|exact fin_|(show ∃ _, _ ∧ _; refine ex_ ?_)|(show ∃ _ _, _ ∧ _; refine ex2_ ?_))
    · conv => whnf
      refine vc_loop (α := Nat) 0 (fun q => 6 - q) (fun q => q ≤ 6) [] (fun q => [(12, .ptr 13 6 0 0), (64, .d (.agg (cel .i64 6 (tS a v w i 0)))), (65, .d (.int .i64 q))]) (fun q => [(13, .data 6 [vecL (prog q (timesV a v w) Z)])]) lp_ ?_ ?_
      · (repeat' (conv => whnf)<;>first|exact True.intro|(refine if_ ?_ ?_<;>intro h<;>first|exact h.elim|(exfalso; omega)|skip)|refine vs_ ?_ (by first|exact zeros6 (fun i _ => by simp [prog, Z])|exact sd_)|refine dv_ ?_|exact fin_|(show ∃ _, _ ∧ _; refine ex_ ?_)|(show ∃ _ _, _ ∧ _; refine ex2_ ?_))
      · intro q hq
        have h4 := tS_bd hb hv hw hn6 (i := i) (j := 0) (by omega) (by omega) q
        have h5 := mod_bd (tS a v w i 0 q) hp.1
        (repeat' (conv => whnf)<;>first|exact True.intro|(refine if_ ?_ ?_<;>intro h<;>first|exact h.elim|(exfalso; omega)|skip)|refine vs_ ?_|refine dv_ ?_|exact fin_|(show ∃ _, _ ∧ _; refine ex_ ?_)|(show ∃ _ _, _ ∧ _; refine ex2_ ?_))
        · conv => whnf
          refine ⟨q + 1, by omega, by omega, ?_⟩
          (repeat' (conv => whnf)<;>first|exact True.intro|(refine if_ ?_ ?_<;>intro h<;>first|exact h.elim|(exfalso; omega)|skip)|refine vs_ ?_ (by first|exact st_prog (tS_end ‹_› hi)|exact sd_)|refine dv_ ?_|exact fin_|(show ∃ _, _ ∧ _; refine ex_ ?_)|(show ∃ _ _, _ ∧ _; refine ex2_ ?_))
end Go.X
namespace Go.X
open Go Go.RowKit
set_option maxRecDepth 100000
set_option maxHeartbeats 8000000
set_option linter.unusedSimpArgs false
set_option linter.unusedVariables false
variable {P : Program} {N : FN}
theorem basV_byt2 (i : Nat) : Byts (basV i) := fun j => by unfold basV; split <;> omega
theorem c_associative (hN : C_n P N) (hB : C_basis P N) (hT : C_times P N) (hf : isFn P N.impl_Algebra_associative (ir_impl_Algebra_associative N) = true) : C_associative P N := by
  intro sz l e off a hat ha
  have hn := ha.n
  have hp2 := prime_bd ha.p
  have hb := ha.b
  have hbb := basV_byt2
  have hN' : Can P N.impl_Algebra_n [.pd sz l e off] (.val (.int .i64 a.n)) := hN hat
  refine can_of hf rfl rfl ?_
  (repeat' (conv => whnf)<;>first|exact True.intro|(refine if_ ?_ ?_<;>intro h<;>first|exact h.elim|(exfalso; omega)|skip)|refine vs_ ?_|refine dv_ ?_|exact fin_|(show ∃ _, _ ∧ _; refine ex_ ?_ (by first|with_reducible exact rfl|exact hN'|exact rd_))|(show ∃ _ _, _ ∧ _; refine ex2_ ?_ (by first|with_reducible exact rfl|exact hN'|exact rd_)))
  conv => whnf
  refine vc_loop (α := Nat) 0 (fun i => a.n.toNat - i) (fun i => i ≤ a.n.toNat ∧ ∀ i', i' < i → ∀ j k : Nat, (j : Int) < a.n → (k : Int) < a.n → VEq (timesV a (a.T i' j) (basV k)) (timesV a (basV i') (a.T j k))) [] (fun i => [(7, .d (.int .i64 a.n)), (8, .d (.int .i64 i))]) (fun i => []) lp_ ?_ ?_
  · (repeat' (conv => whnf)<;>first|exact True.intro|(refine if_ ?_ ?_<;>intro h<;>first|exact h.elim|(exfalso; omega)|skip)|refine vs_ ?_|refine dv_ ?_|exact fin_|(show ∃ _, _ ∧ _; refine ex_ ?_)|(show ∃ _ _, _ ∧ _; refine ex2_ ?_))
  · rintro i ⟨hi, hx⟩
    (repeat' (conv => whnf)<;>first|exact True.intro|(refine if_ ?_ ?_<;>intro h<;>first|exact h.elim|(exfalso; omega)|skip)|refine vs_ ?_|refine dv_ ?_|exact fin_|(show ∃ _, _ ∧ _; refine ex_ ?_ (by first|with_reducible exact rfl|exact hN'|exact rd_))|(show ∃ _ _, _ ∧ _; refine ex2_ ?_ (by first|with_reducible exact rfl|exact hN'|exact rd_)))
    · conv => whnf
      refine vc_loop (α := Nat) 0 (fun j => a.n.toNat - j) (fun j => j ≤ a.n.toNat ∧ ∀ j', j' < j → ∀ k : Nat, (k : Int) < a.n → VEq (timesV a (a.T i j') (basV k)) (timesV a (basV i) (a.T j' k))) [] (fun j => [(3, .d (.int .i64 i)), (7, .d (.int .i64 a.n)), (8, .d (.int .i64 i)), (12, .d (.int .i64 a.n)), (13, .d (.int .i64 j))]) (fun j => []) lp_ ?_ ?_
      · (repeat' (conv => whnf)<;>first|exact True.intro|(refine if_ ?_ ?_<;>intro h<;>first|exact h.elim|(exfalso; omega)|skip)|refine vs_ ?_|refine dv_ ?_|exact fin_|(show ∃ _, _ ∧ _; refine ex_ ?_)|(show ∃ _ _, _ ∧ _; refine ex2_ ?_))
      · rintro j ⟨hj, hy⟩
        (repeat' (conv => whnf)<;>first|exact True.intro|(refine if_ ?_ ?_<;>intro h<;>first|exact h.elim|(exfalso; omega)|skip)|refine vs_ ?_|refine dv_ ?_|exact fin_|(show ∃ _, _ ∧ _; refine ex_ ?_ (by first|with_reducible exact rfl|exact hN'|exact rd_))|(show ∃ _ _, _ ∧ _; refine ex2_ ?_ (by first|with_reducible exact rfl|exact hN'|exact rd_)))
        · conv => whnf
          refine vc_loop (α := Nat) 0 (fun k => a.n.toNat - k) (fun k => k ≤ a.n.toNat ∧ ∀ k', k' < k → VEq (timesV a (a.T i j) (basV k')) (timesV a (basV i) (a.T j k'))) [] (fun k => [(3, .d (.int .i64 i)), (4, .d (.int .i64 j)), (7, .d (.int .i64 a.n)), (8, .d (.int .i64 i)), (12, .d (.int .i64 a.n)), (13, .d (.int .i64 j)), (17, .d (.int .i64 a.n)), (18, .d (.int .i64 k))]) (fun k => []) lp_ ?_ ?_
          · (repeat' (conv => whnf)<;>first|exact True.intro|(refine if_ ?_ ?_<;>intro h<;>first|exact h.elim|(exfalso; omega)|skip)|refine vs_ ?_|refine dv_ ?_|exact fin_|(show ∃ _, _ ∧ _; refine ex_ ?_)|(show ∃ _ _, _ ∧ _; refine ex2_ ?_))
          · rintro k ⟨hk, hz⟩
            (repeat' (conv => whnf)<;>first|exact True.intro|(refine if_ ?_ ?_<;>intro h<;>first|exact h.elim|(exfalso; omega)|skip)|refine vs_ ?_ (by first|exact ⟨conf_vec _, conf_vec _⟩|exact sd_)|refine dv_ ?_|exact fin_|(show ∃ _, _ ∧ _; refine ex_ ?_ (by first|with_reducible exact rfl|exact hB (by omega)|exact hT hat hb (hb.1 i j) (hbb _) (by omega) (by omega)|exact hT hat hb (hbb _) (hb.1 j k) (by omega) (by omega)|exact eq_vec|exact rd_))|(show ∃ _ _, _ ∧ _; refine ex2_ ?_ (by first|with_reducible exact rfl|exact hB (by omega)|exact hT hat hb (hb.1 i j) (hbb _) (by omega) (by omega)|exact hT hat hb (hbb _) (hb.1 j k) (by omega) (by omega)|exact eq_vec|exact rd_)))
            · conv => whnf
              exact no (fun h => absurd (h i j k (by omega) (by omega) (by omega)) ‹_›)
            · conv => whnf
              refine ⟨k + 1, ⟨by omega, all_succ hz ‹_›⟩, by omega, ?_⟩
              (repeat' (conv => whnf)<;>first|exact True.intro|(refine if_ ?_ ?_<;>intro h<;>first|exact h.elim|(exfalso; omega)|skip)|refine vs_ ?_|refine dv_ ?_|exact fin_|(show ∃ _, _ ∧ _; refine ex_ ?_)|(show ∃ _ _, _ ∧ _; refine ex2_ ?_))
            · conv => whnf
              refine ⟨j + 1, ⟨by omega, all_succ hy (fun k' hk' => hz k' (by omega))⟩, by omega, ?_⟩
              (repeat' (conv => whnf)<;>first|exact True.intro|(refine if_ ?_ ?_<;>intro h<;>first|exact h.elim|(exfalso; omega)|skip)|refine vs_ ?_|refine dv_ ?_|exact fin_|(show ∃ _, _ ∧ _; refine ex_ ?_)|(show ∃ _ _, _ ∧ _; refine ex2_ ?_))
        · conv => whnf
          refine ⟨i + 1, ⟨by omega, all_succ hx (fun j' k' hj' hk' => hy j' (by omega) k' hk')⟩, by omega, ?_⟩
          (repeat' (conv => whnf)<;>first|exact True.intro|(refine if_ ?_ ?_<;>intro h<;>first|exact h.elim|(exfalso; omega)|skip)|refine vs_ ?_|refine dv_ ?_|exact fin_|(show ∃ _, _ ∧ _; refine ex_ ?_)|(show ∃ _ _, _ ∧ _; refine ex2_ ?_))
    · conv => whnf
      exact yes (fun i' j k h1 h2 h3 => hx i' (by omega) j k h2 h3)
end Go.X
namespace Go.X
open Go Go.RowKit
set_option maxRecDepth 100000
set_option maxHeartbeats 8000000
set_option linter.unusedSimpArgs false
set_option linter.unusedVariables false
variable {P : Program} {N : FN}
theorem c_behind (hf : isFn P N.impl_Algebra_behind (ir_impl_Algebra_behind N) = true) : C_behind P N := by
  intro sz l e off w
  refine can_of hf rfl rfl ?_
  (repeat' (conv => whnf)<;>first|exact True.intro|(refine if_ ?_ ?_<;>intro h<;>first|exact h.elim|(exfalso; omega)|skip)|refine vs_ ?_|refine dv_ ?_|exact fin_|(show ∃ _, _ ∧ _; refine ex_ ?_)|(show ∃ _ _, _ ∧ _; refine ex2_ ?_))
theorem c_ahead (hf : isFn P N.impl_Algebra_ahead (ir_impl_Algebra_ahead N) = true) : C_ahead P N := by
  intro sz l e off w
  refine can_of hf rfl rfl ?_
  (repeat' (conv => whnf)<;>first|exact True.intro|(refine if_ ?_ ?_<;>intro h<;>first|exact h.elim|(exfalso; omega)|skip)|refine vs_ ?_|refine dv_ ?_|exact fin_|(show ∃ _, _ ∧ _; refine ex_ ?_)|(show ∃ _ _, _ ∧ _; refine ex2_ ?_))
theorem c_behind1 (hT : C_times P N) (hf : isFn P N.impl_Algebra_behind_1 (ir_impl_Algebra_behind_1 N) = true) : C_behind1 P N := by
  intro sz l e off a v w hat ha hv hw
  have hp2 := prime_bd ha.p
  have hn := ha.n
  refine can_of hf rfl rfl ?_
  (repeat' (conv => whnf)<;>first|exact True.intro|(refine if_ ?_ ?_<;>intro h<;>first|exact h.elim|(exfalso; omega)|skip)|refine vs_ ?_|refine dv_ ?_|exact fin_|(show ∃ _, _ ∧ _; refine ex_ ?_ (by first|with_reducible exact rfl|exact hT hat ha.b hv hw (by omega) (by omega)|exact rd_))|(show ∃ _ _, _ ∧ _; refine ex2_ ?_ (by first|with_reducible exact rfl|exact hT hat ha.b hv hw (by omega) (by omega)|exact rd_)))
theorem c_ahead1 (hT : C_times P N) (hf : isFn P N.impl_Algebra_ahead_1 (ir_impl_Algebra_ahead_1 N) = true) : C_ahead1 P N := by
  intro sz l e off a v w hat ha hv hw
  have hp2 := prime_bd ha.p
  have hn := ha.n
  refine can_of hf rfl rfl ?_
  (repeat' (conv => whnf)<;>first|exact True.intro|(refine if_ ?_ ?_<;>intro h<;>first|exact h.elim|(exfalso; omega)|skip)|refine vs_ ?_|refine dv_ ?_|exact fin_|(show ∃ _, _ ∧ _; refine ex_ ?_ (by first|with_reducible exact rfl|exact hT hat ha.b hw hv (by omega) (by omega)|exact rd_))|(show ∃ _ _, _ ∧ _; refine ex2_ ?_ (by first|with_reducible exact rfl|exact hT hat ha.b hw hv (by omega) (by omega)|exact rd_)))
theorem rd_map {m q : Nat} {g : Nat → FuncId} {c d : Nat → D} (h : q < m) : get2 (mapsL m g c d) ((q : Nat) : Int).toNat 0 = some (.fn (g q) [] [c q, d q]) := by
  simp [get2, mapsL, arr_get h]
theorem mapsL_len (m : Nat) (g : Nat → FuncId) (c d : Nat → D) : (mapsL m g c d).length = m := arr_len ..
theorem nest_putA {f : Nat → List (List D)} {n : Nat} {x y : List (List D)} (hy : y = f n) : Chunk.nest 1 ((arr n f ++ [x]).set (arr n f).length y) none = .nest 1 (arr (n + 1) f) none := by
  subst hy
  rw [arr_succ]
  congr 1
  rw [List.set_append_right _ _ (Nat.le_refl _), Nat.sub_self]; rfl
theorem c_equations (hN : C_n P N) (hB : C_basis P N) (hf : isFn P N.impl_Algebra_equations (ir_impl_Algebra_equations N) = true) : C_equations P N := by
  intro sz l e off a m g c d M hat ha hm hM hmap
  have hn := ha.n
  have hN' : Can P N.impl_Algebra_n [.pd sz l e off] (.val (.int .i64 a.n)) := hN hat
  have hml := mapsL_len m g c d
  refine can_of hf rfl rfl ?_
  (repeat' (conv => whnf)<;>first|exact True.intro|(refine if_ ?_ ?_<;>intro h<;>first|exact h.elim|(exfalso; omega)|skip)|refine vs_ ?_|refine dv_ ?_|exact fin_|(show ∃ _, _ ∧ _; refine ex_ ?_)|(show ∃ _ _, _ ∧ _; refine ex2_ ?_))
  conv => whnf
  generalize hnn : a.n.toNat = n at *
  have hn' : a.n = (n : Int) := by omega
  rw [hn'] at hN'
  refine vc_loop (α := Nat) 0 (fun q => m - q) (fun q => q ≤ m) [] (fun q => [(5, .row 6 1), (12, .d (.lst 1 (mapsL m g c d))), (13, .d (.int .i64 m)), (14, .d (.int .i64 q))]) (fun q => [(6, .nest 1 (arr (q * n) fun r => row n (eqR M n r)) none)]) lp_ ?_ ?_
  · (repeat' (conv => whnf)<;>first|exact True.intro|(refine if_ ?_ ?_<;>intro h<;>first|exact h.elim|(exfalso; omega)|skip)|refine vs_ ?_ (by first|(refine congrArg (fun x => AV.d (D.int .i64 x)) ?_; rw [hml]) | (rw [Nat.zero_mul]; rfl)|exact sd_)|refine dv_ ?_|exact fin_|(show ∃ _, _ ∧ _; refine ex_ ?_)|(show ∃ _ _, _ ∧ _; refine ex2_ ?_))
  · intro q hq
    by_cases hlt : q < m
    · have hmn : (q + 1) * n ≤ m * n := Nat.mul_le_mul_right _ (by omega)
      have hmn2 : m * n ≤ 100 * 6 := Nat.mul_le_mul (by omega) (by omega)
      have hsucc : (q + 1) * n = q * n + n := by rw [Nat.add_mul, Nat.one_mul]
      (repeat' (conv => whnf)<;>first|exact True.intro|(refine if_ ?_ ?_<;>intro h<;>first|exact h.elim|(exfalso; omega)|skip)|refine vs_ ?_ (by first|exact ⟨rfl, by omega, by rw [hml]; omega⟩|exact sd_)|refine dv_ ?_|exact fin_|(show ∃ _, _ ∧ _; refine ex_ ?_ (by first|with_reducible exact rfl|exact rd_map hlt|exact hN'|exact rd_))|(show ∃ _ _, _ ∧ _; refine ex2_ ?_ (by first|with_reducible exact rfl|exact rd_map hlt|exact hN'|exact rd_)))
      conv => whnf
      refine vc_loop (α := Nat) 0 (fun k => n - k) (fun k => k ≤ n) [] (fun k => [(5, .row 6 1), (7, .d (.fn (g q) [] [c q, d q])), (12, .d (.lst 1 (mapsL m g c d))), (13, .d (.int .i64 m)), (14, .d (.int .i64 q)), (19, .d (.int .i64 n)), (20, .d (.int .i64 k))]) (fun k => [(6, .nest 1 (arr (q * n + k) fun r => row n (eqR M n r)) none)]) lp_ ?_ ?_
      · (repeat' (conv => whnf)<;>first|exact True.intro|(refine if_ ?_ ?_<;>intro h<;>first|exact h.elim|(exfalso; omega)|skip)|refine vs_ ?_|refine dv_ ?_|exact fin_|(show ∃ _, _ ∧ _; refine ex_ ?_)|(show ∃ _ _, _ ∧ _; refine ex2_ ?_))
      · intro k hk
        by_cases hlt2 : k < n
        · have hdiv : (q * n + k) / n = q := by rw [Nat.mul_comm, Nat.mul_add_div (by omega), Nat.div_eq_of_lt hlt2, Nat.add_zero]
          have hmod : (q * n + k) % n = k := by rw [Nat.mul_comm, Nat.mul_add_mod, Nat.mod_eq_of_lt hlt2]
          have he : ∀ i, eqR M n (q * n + k) i = M q i k := fun i => by unfold eqR; rw [hdiv, hmod]
          (repeat' (conv => whnf)<;>first|exact True.intro|(refine if_ ?_ ?_<;>intro h<;>first|exact h.elim|(exfalso; omega)|skip)|refine vs_ ?_|refine dv_ ?_|exact fin_|(show ∃ _, _ ∧ _; refine ex_ ?_ (by first|with_reducible exact rfl|exact hN'|exact rd_))|(show ∃ _ _, _ ∧ _; refine ex2_ ?_ (by first|with_reducible exact rfl|exact hN'|exact rd_)))
          conv => whnf
          refine vc_loop (α := Nat) 0 (fun i => n - i) (fun i => i ≤ n) [] (fun i => [(5, .row 6 1), (7, .d (.fn (g q) [] [c q, d q])), (8, .d (.int .i64 k)), (9, .row 10 1), (12, .d (.lst 1 (mapsL m g c d))), (13, .d (.int .i64 m)), (14, .d (.int .i64 q)), (19, .d (.int .i64 n)), (20, .d (.int .i64 k)), (25, .d (.int .i64 n)), (26, .d (.int .i64 i))]) (fun i => [(6, .nest 1 (arr (q * n + k) fun r => row n (eqR M n r)) none), (10, .data 1 (row i (eqR M n (q * n + k))))]) lp_ ?_ ?_
          · (repeat' (conv => whnf)<;>first|exact True.intro|(refine if_ ?_ ?_<;>intro h<;>first|exact h.elim|(exfalso; omega)|skip)|refine vs_ ?_|refine dv_ ?_|exact fin_|(show ∃ _, _ ∧ _; refine ex_ ?_)|(show ∃ _ _, _ ∧ _; refine ex2_ ?_))
          · intro i hi
            have hb := hM q i k
            by_cases hlt3 : i < n
            · (repeat' (conv => whnf)<;>first|exact True.intro|(refine if_ ?_ ?_<;>intro h<;>first|exact h.elim|(exfalso; omega)|skip)|refine vs_ ?_|refine dv_ ?_|exact fin_|(show ∃ _, _ ∧ _; refine ex_ ?_ (by first|with_reducible exact rfl|exact hB (by omega)|exact hmap q i hlt hlt3|exact rd_idx (by omega)|exact rd_))|(show ∃ _ _, _ ∧ _; refine ex2_ ?_ (by first|with_reducible exact rfl|exact hB (by omega)|exact hmap q i hlt hlt3|exact rd_idx (by omega)|exact rd_)))
              conv => whnf
              refine ⟨i + 1, by omega, by omega, ?_⟩
              (repeat' (conv => whnf)<;>first|exact True.intro|(refine if_ ?_ ?_<;>intro h<;>first|exact h.elim|(exfalso; omega)|skip)|refine vs_ ?_ (by first|exact row_app (he i).symm|exact sd_)|refine dv_ ?_|exact fin_|(show ∃ _, _ ∧ _; refine ex_ ?_)|(show ∃ _ _, _ ∧ _; refine ex2_ ?_))
            · have : i = n := by omega
              (repeat' (conv => whnf)<;>first|exact True.intro|(refine if_ ?_ ?_<;>intro h<;>first|exact h.elim|(exfalso; omega)|skip)|refine vs_ ?_|refine dv_ ?_|exact fin_|(show ∃ _, _ ∧ _; refine ex_ ?_)|(show ∃ _ _, _ ∧ _; refine ex2_ ?_))
              conv => whnf
              refine ⟨k + 1, by omega, by omega, ?_⟩
              (repeat' (conv => whnf)<;>first|exact True.intro|(refine if_ ?_ ?_<;>intro h<;>first|exact h.elim|(exfalso; omega)|skip)|refine vs_ ?_ (by first|exact nest_putA (by rw [this])|exact sd_)|refine dv_ ?_|exact fin_|(show ∃ _, _ ∧ _; refine ex_ ?_)|(show ∃ _ _, _ ∧ _; refine ex2_ ?_))
        · have : k = n := by omega
          (repeat' (conv => whnf)<;>first|exact True.intro|(refine if_ ?_ ?_<;>intro h<;>first|exact h.elim|(exfalso; omega)|skip)|refine vs_ ?_|refine dv_ ?_|exact fin_|(show ∃ _, _ ∧ _; refine ex_ ?_)|(show ∃ _ _, _ ∧ _; refine ex2_ ?_))
          conv => whnf
          refine ⟨q + 1, by omega, by omega, ?_⟩
          (repeat' (conv => whnf)<;>first|exact True.intro|(refine if_ ?_ ?_<;>intro h<;>first|exact h.elim|(exfalso; omega)|skip)|refine vs_ ?_ (by first|(rw [this, hsucc])|exact sd_)|refine dv_ ?_|exact fin_|(show ∃ _, _ ∧ _; refine ex_ ?_)|(show ∃ _ _, _ ∧ _; refine ex2_ ?_))
    · have : q = m := by omega
      (repeat' (conv => whnf)<;>first|exact True.intro|(refine if_ ?_ ?_<;>intro h<;>first|exact h.elim|(exfalso; omega)|skip)|refine vs_ ?_|refine dv_ ?_|exact fin_|(show ∃ _, _ ∧ _; refine ex_ ?_)|(show ∃ _ _, _ ∧ _; refine ex2_ ?_))
      conv => whnf
      rw [this]
end Go.X
namespace Go.X
open Go Go.RowKit
set_option maxRecDepth 100000
set_option maxHeartbeats 8000000
set_option linter.unusedSimpArgs false
set_option linter.unusedVariables false
variable {P : Program} {N : FN}
theorem del_rows (h : C_Delete P N) {m : Nat} {L : List Row} {k : Nat} (hk : k < L.length) (hL : L.length ≤ 1000000) :
    Can P N.slices_Delete_LLint64_Lint64 [.ownA 1 (rowsL m L), .int .i64 k, .int .i64 (k + 1)] (.post none (.own 1 (rowsL m (L.take k ++ L.drop (k + 1))))) := by
  have := h (l := rowsL m L) (i := k) (j := k + 1) ⟨by omega, by rw [rowsL_len]; omega, by rw [rowsL_len]; exact hL⟩
  rw [show rowsL m (L.take k ++ L.drop (k + 1)) = (rowsL m L).take k ++ (rowsL m L).drop (k + 1) by simp [rowsL, List.map_take, List.map_drop]]
  exact this
theorem rows_done {m z i : Nat} {g : Row → Row} {L M : List Row} (h : (L.length : Int) ≤ (i : Int)) (hM : M = L.map g) : Chunk.data z (rowsL m (mapN i g L)) = .data z (rowsL m M) := by
  rw [mapN_all (by omega), hM]
theorem c_reduce (hC : C_Clone P N) (hD : C_Delete P N) (hI : C_IdxRows P N) (h1 : C_reduce1 P N) (hv : C_inverse P N) (hs : C_scaled P N) (hl : C_lessTimes P N) (hf : isFn P N.impl_reduce (ir_impl_reduce N) = true) : C_reduce P N := by
  intro m L p hm hL hp hR
  have hp2 := prime_bd hp
  have inv := redN_inv (p := p) (rows := L) (by omega) hR
  refine can_of hf rfl rfl ?_
  (repeat' (conv => whnf)<;>first|exact True.intro|(refine if_ ?_ ?_<;>intro h<;>first|exact h.elim|(exfalso; omega)|skip)|refine vs_ ?_|refine dv_ ?_|exact fin_|(show ∃ _, _ ∧ _; refine ex_ ?_ (by first|with_reducible exact rfl|exact hC ⟨by rw [rowsL_len]; omega, by rw [rowsL_len]; omega⟩|exact rd_rows (i := 0) (by omega)|exact rd_))|(show ∃ _ _, _ ∧ _; refine ex2_ ?_ (by first|with_reducible exact rfl|exact hC ⟨by rw [rowsL_len]; omega, by rw [rowsL_len]; omega⟩|exact rd_rows (i := 0) (by omega)|exact rd_)))
  · conv => whnf
    have : L = [] := List.eq_nil_of_length_eq_zero (by omega)
    subst this
    unfold redF; rw [redN_nil]; rfl
  · conv => whnf
    refine vc_loop (α := Nat) 0 (fun c => m - c) (fun c => c ≤ m) [] (fun c => [(5, .row 6 1), (6, .row 7 1), (24, .d (.int .i64 m)), (25, .d (.int .i64 c))]) (fun c => [(6, .data 1 (rowsL m (redN p L c).2)), (7, .data 1 (rowsL m (redN p L c).1))]) lp_ ?_ ?_
    · (repeat' (conv => whnf)<;>first|exact True.intro|(refine if_ ?_ ?_<;>intro h<;>first|exact h.elim|(exfalso; omega)|skip)|refine vs_ ?_|refine dv_ ?_|exact fin_|(show ∃ _, _ ∧ _; refine ex_ ?_)|(show ∃ _ _, _ ∧ _; refine ex2_ ?_))
    · intro c hc
      obtain ⟨i1, i2, i3⟩ := inv c
      generalize hst : redN p L c = st at *
      obtain ⟨left, out⟩ := st
      dsimp only at *
      rcases idxF_cases (fun i => left.getD i Z c != 0) left.length with ⟨ek, hn⟩ | ⟨k, hk, ek, hq, hn⟩
      · (repeat' (conv => whnf)<;>first|exact True.intro|(refine if_ ?_ ?_<;>intro h<;>first|exact h.elim|(exfalso; omega)|skip)|refine vs_ ?_|refine dv_ ?_|exact fin_|(show ∃ _, _ ∧ _; refine ex_ ?_ (by first|with_reducible exact rfl|exact (ek ▸ hI (q := fun i => left.getD i Z c != 0) (by omega) (fun i _ => h1 (by omega)))|exact rd_))|(show ∃ _ _, _ ∧ _; refine ex2_ ?_ (by first|with_reducible exact rfl|exact (ek ▸ hI (q := fun i => left.getD i Z c != 0) (by omega) (fun i _ => h1 (by omega)))|exact rd_)))
        · conv => whnf
          refine ⟨c + 1, by omega, by omega, ?_⟩
          have e0 : redN p L (c + 1) = (left, out) := by
            rw [redN, hst]; exact redStep_none fun i hi => by simpa using hn i hi
          (repeat' (conv => whnf)<;>first|exact True.intro|(refine if_ ?_ ?_<;>intro h<;>first|exact h.elim|(exfalso; omega)|skip)|refine vs_ ?_ (by first|exact congrArg (fun s => Chunk.data 1 (rowsL m (Prod.fst s))) e0.symm | exact congrArg (fun s => Chunk.data 1 (rowsL m (Prod.snd s))) e0.symm|exact sd_)|refine dv_ ?_|exact fin_|(show ∃ _, _ ∧ _; refine ex_ ?_)|(show ∃ _ _, _ ∧ _; refine ex2_ ?_))
        · conv => whnf
          have : c = m := by omega
          subst this
          unfold redF; rw [hst]
      · have e1 : left.getD k Z c ≠ 0 := by simpa using hq
        have e2 := i1.get (by omega) k
        have e3 := e2 c
        have e4 := inv_mul hp ⟨by omega, e3.2⟩
        have e0 : redN p L (c + 1) = redStep p c (left, out) := by rw [redN, hst]
        rw [redStep_some (s := (left, out)) hk e1 fun i hi => by simpa using hn i hi] at e0
        dsimp only at e0
        generalize hpiv : scaleR p (invF p (left.getD k Z c)) (left.getD k Z) = piv at *
        have rp : Rw p piv := hpiv ▸ scaleR_rw (by omega)
        (repeat' (conv => whnf)<;>first|exact True.intro|(refine if_ ?_ ?_<;>intro h<;>first|exact h.elim|(exfalso; omega)|skip)|refine vs_ ?_|refine dv_ ?_|exact fin_|(show ∃ _, _ ∧ _; refine ex_ ?_ (by first|with_reducible exact rfl|exact (ek ▸ hI (q := fun i => left.getD i Z c != 0) (by omega) (fun i _ => h1 (by omega)))|exact hv hp ⟨by omega, e3.2⟩|exact hpiv ▸ hs (by omega) (e2.bd (by omega)) (by omega) (by omega)|exact del_rows hD hk (by omega)|exact rd_))|(show ∃ _ _, _ ∧ _; refine ex2_ ?_ (by first|with_reducible exact rfl|exact (ek ▸ hI (q := fun i => left.getD i Z c != 0) (by omega) (fun i _ => h1 (by omega)))|exact hv hp ⟨by omega, e3.2⟩|exact hpiv ▸ hs (by omega) (e2.bd (by omega)) (by omega) (by omega)|exact del_rows hD hk (by omega)|exact rd_)))
        · conv => whnf
          have hl2 : (left.take k ++ left.drop (k + 1)).length + 1 = left.length := by simp; omega
          have i4 : RwL p (left.take k ++ left.drop (k + 1)) := fun r hr => by
            rcases List.mem_append.1 hr with h | h
            · exact i1 r (List.mem_of_mem_take h)
            · exact i1 r (List.mem_of_mem_drop h)
          generalize left.take k ++ left.drop (k + 1) = lf at *
          refine vc_loop (α := Nat) 0 (fun i => lf.length - i) (fun i => i ≤ lf.length) [] (fun i => [(5, .row 6 1), (6, .row 7 1), (7, .ptr 8 1 0 0), (9, .d (rowD m piv)), (24, .d (.int .i64 m)), (25, .d (.int .i64 c)), (53, .row 7 1), (54, .d (.int .i64 lf.length)), (55, .d (.int .i64 i))]) (fun i => [(6, .data 1 (rowsL m out)), (7, .data 1 (rowsL m (mapN i (elimR p c piv) lf))), (8, .data 1 [[.int .i64 c]])]) lp_ ?_ ?_
          · (repeat' (conv => whnf)<;>first|exact True.intro|(refine if_ ?_ ?_<;>intro h<;>first|exact h.elim|(exfalso; omega)|skip)|refine vs_ ?_ (by first|exact congrArg (fun x => Chunk.data 1 (rowsL m x)) (mapN_zero _ _).symm|exact sd_)|refine dv_ ?_|exact fin_|(show ∃ _, _ ∧ _; refine ex_ ?_)|(show ∃ _ _, _ ∧ _; refine ex2_ ?_))
          · intro i hi
            have e5 := i4.get (by omega) i
            have e6 := e5 c
            (repeat' (conv => whnf)<;>first|exact True.intro|(refine if_ ?_ ?_<;>intro h<;>first|exact h.elim|(exfalso; omega)|skip)|refine vs_ ?_|refine dv_ ?_|exact fin_|(show ∃ _, _ ∧ _; refine ex_ ?_ (by first|with_reducible exact rfl|exact hl (by omega) (e5.bd (by omega)) (rp.bd (by omega)) (by omega) (by omega)|exact rd_))|(show ∃ _ _, _ ∧ _; refine ex2_ ?_ (by first|with_reducible exact rfl|exact hl (by omega) (e5.bd (by omega)) (rp.bd (by omega)) (by omega) (by omega)|exact rd_)))
            · conv => whnf
              refine ⟨i + 1, by omega, by omega, ?_⟩
              (repeat' (conv => whnf)<;>first|exact True.intro|(refine if_ ?_ ?_<;>intro h<;>first|exact h.elim|(exfalso; omega)|skip)|refine vs_ ?_ (by first|exact rowsL_set (g := elimR p c piv) (by omega) rfl rfl|exact sd_)|refine dv_ ?_|exact fin_|(show ∃ _, _ ∧ _; refine ex_ ?_)|(show ∃ _ _, _ ∧ _; refine ex2_ ?_))
            · conv => whnf
              refine vc_loop (α := Nat) 0 (fun j => out.length - j) (fun j => j ≤ out.length) [] (fun j => [(5, .row 6 1), (6, .row 7 1), (7, .ptr 8 1 0 0), (9, .d (rowD m piv)), (24, .d (.int .i64 m)), (25, .d (.int .i64 c)), (72, .row 6 1), (73, .d (.int .i64 out.length)), (74, .d (.int .i64 j))]) (fun j => [(6, .data 1 (rowsL m (mapN j (elimR p c piv) out))), (7, .data 1 (rowsL m (lf.map (elimR p c piv)))), (8, .data 1 [[.int .i64 c]])]) lp_ ?_ ?_
              · (repeat' (conv => whnf)<;>first|exact True.intro|(refine if_ ?_ ?_<;>intro h<;>first|exact h.elim|(exfalso; omega)|skip)|refine vs_ ?_ (by first|exact congrArg (fun x => Chunk.data 1 (rowsL m x)) (mapN_zero _ _).symm | exact rows_done (by omega) rfl|exact sd_)|refine dv_ ?_|exact fin_|(show ∃ _, _ ∧ _; refine ex_ ?_)|(show ∃ _ _, _ ∧ _; refine ex2_ ?_))
              · intro j hj
                have e7 := i2.get (by omega) j
                have e8 := e7 c
                (repeat' (conv => whnf)<;>first|exact True.intro|(refine if_ ?_ ?_<;>intro h<;>first|exact h.elim|(exfalso; omega)|skip)|refine vs_ ?_|refine dv_ ?_|exact fin_|(show ∃ _, _ ∧ _; refine ex_ ?_ (by first|with_reducible exact rfl|exact hl (by omega) (e7.bd (by omega)) (rp.bd (by omega)) (by omega) (by omega)|exact rd_))|(show ∃ _ _, _ ∧ _; refine ex2_ ?_ (by first|with_reducible exact rfl|exact hl (by omega) (e7.bd (by omega)) (rp.bd (by omega)) (by omega) (by omega)|exact rd_)))
                · conv => whnf
                  refine ⟨j + 1, by omega, by omega, ?_⟩
                  (repeat' (conv => whnf)<;>first|exact True.intro|(refine if_ ?_ ?_<;>intro h<;>first|exact h.elim|(exfalso; omega)|skip)|refine vs_ ?_ (by first|exact rowsL_set (g := elimR p c piv) (by omega) rfl rfl|exact sd_)|refine dv_ ?_|exact fin_|(show ∃ _, _ ∧ _; refine ex_ ?_)|(show ∃ _ _, _ ∧ _; refine ex2_ ?_))
                · have e9 : mapN j (elimR p c piv) out = out.map (elimR p c piv) := mapN_all (by omega)
                  rw [e9]
                  (repeat' (conv => whnf)<;>first|exact True.intro|(refine if_ ?_ ?_<;>intro h<;>first|exact h.elim|(exfalso; omega)|skip)|refine vs_ ?_|refine dv_ ?_|exact fin_|(show ∃ _, _ ∧ _; refine ex_ ?_)|(show ∃ _ _, _ ∧ _; refine ex2_ ?_))
                  conv => whnf
                  refine ⟨c + 1, by omega, by omega, ?_⟩
                  (repeat' (conv => whnf)<;>first|exact True.intro|(refine if_ ?_ ?_<;>intro h<;>first|exact h.elim|(exfalso; omega)|skip)|refine vs_ ?_ (by first|exact congrArg (fun s => Chunk.data 1 (rowsL m (Prod.fst s))) e0.symm | exact rowsL_app.trans (congrArg (fun s => Chunk.data 1 (rowsL m (Prod.snd s))) e0.symm)|exact sd_)|refine dv_ ?_|exact fin_|(show ∃ _, _ ∧ _; refine ex_ ?_)|(show ∃ _ _, _ ∧ _; refine ex2_ ?_))
        · conv => whnf
          have : c = m := by omega
          subst this
          unfold redF; rw [hst]
end Go.X
namespace Go.X
open Go Go.RowKit
set_option maxRecDepth 100000
set_option maxHeartbeats 8000000
set_option linter.unusedSimpArgs false
set_option linter.unusedVariables false
variable {P : Program} {N : FN}
theorem row_upd {m i z : Nat} {f : Nat → Int} {x : Int} : Chunk.data z ((row m f).set ((i : Nat) : Int).toNat (([.int .i64 (f i)] : List D).set 0 (.int .i64 x))) = .data z (row m (upd f i x)) := row_set fun j _ => rfl
theorem repl_row {n : Nat} : List.replicate n ([.int .i64 0] : List D) = row n Z := arr_replicate ..
theorem repl_chunk {n z : Nat} : Chunk.data z (List.replicate ((n : Nat) : Int).toNat ([.int .i64 0] : List D)) = .data z (row n Z) := by rw [Int.toNat_natCast, repl_row]
theorem solN_none {n : Nat} {L : List Row} {i : Nat} (h : solN n L i = none) : ∀ j, i ≤ j → solN n L j = none := by
  intro j hj
  induction j with
  | zero => rw [show 0 = i by omega]; exact h
  | succ j ih =>
    rcases Nat.lt_or_ge i (j + 1) with h1 | h1
    · unfold solN; rw [ih (by omega)]
    · rw [show j + 1 = i by omega]; exact h
theorem c_solve (hR : C_reduce P N) (hL : C_leader P N) (hf : isFn P N.impl_solve (ir_impl_solve N) = true) : C_solve P N := by
  intro n L p hn hLl hp hRL
  have hp2 := prime_bd hp
  obtain ⟨ld, rr⟩ := redF_rr (m := n + 1) hp hRL
  have hR' : Can P N.impl_reduce [rowsD (n + 1) L, .int .i64 p] (.val (rowsD (n + 1) (redF p (n + 1) L))) := hR (by omega) hLl hp hRL
  have hlen : (redF p (n + 1) L).length ≤ 1000 := by have := (redN_inv (p := p) (rows := L) (by omega) hRL (n + 1)).2.2; unfold redF; omega
  refine can_of hf rfl (by cases iSolveF p n L <;> rfl) ?_
  unfold iSolveF
  generalize redF p (n + 1) L = R at *
  (repeat' (conv => whnf)<;>first|exact True.intro|(refine if_ ?_ ?_<;>intro h<;>first|exact h.elim|(exfalso; omega)|skip)|refine vs_ ?_|refine dv_ ?_|exact fin_|(show ∃ _, _ ∧ _; refine ex_ ?_ (by first|with_reducible exact rfl|exact hR'|exact rd_))|(show ∃ _ _, _ ∧ _; refine ex2_ ?_ (by first|with_reducible exact rfl|exact hR'|exact rd_)))
  conv => whnf
  refine vc_loop (α := Nat) 0 (fun i => R.length - i) (fun i => i ≤ R.length ∧ (solN n R i).isSome = true) [] (fun i => [(8, .row 9 1), (16, .d (rowsD (n + 1) R)), (17, .d (.int .i64 R.length)), (18, .d (.int .i64 i))]) (fun i => [(9, .data 1 (row n ((solN n R i).getD Z)))]) lp_ ?_ ?_
  · (repeat' (conv => whnf)<;>first|exact True.intro|(refine if_ ?_ ?_<;>intro h<;>first|exact h.elim|(exfalso; omega)|skip)|refine vs_ ?_ (by first|exact repl_chunk|exact sd_)|refine dv_ ?_|exact fin_|(show ∃ _, _ ∧ _; refine ex_ ?_)|(show ∃ _ _, _ ∧ _; refine ex2_ ?_))
  · rintro i ⟨hi, hs⟩
    obtain ⟨o, ho⟩ := Option.isSome_iff_exists.1 hs
    by_cases hlt : i < R.length
    · have e1 := (rr.lead i hlt).leadF
      have e2 := (rr.lead i hlt).1
      have hl : Can P N.impl_leader [rowD (n + 1) (R.getD i Z)] (.val (.int .i64 (ld i))) := by rw [← e1]; exact hL (by omega)
      have e3 : solN n R (i + 1) = if leadF (n + 1) (R.getD i Z) = n then none else some (upd o (leadF (n + 1) (R.getD i Z)).toNat (R.getD i Z n)) := by
        show (match solN n R i with | none => none | some o => _) = _
        rw [ho]
      rw [e1] at e3
      rw [ho]
      (repeat' (conv => whnf)<;>first|exact True.intro|(refine if_ ?_ ?_<;>intro h<;>first|exact h.elim|(exfalso; omega)|skip)|refine vs_ ?_|refine dv_ ?_|exact fin_|(show ∃ _, _ ∧ _; refine ex_ ?_ (by first|with_reducible exact rfl|exact hl|exact rd_))|(show ∃ _ _, _ ∧ _; refine ex2_ ?_ (by first|with_reducible exact rfl|exact hl|exact rd_)))
      · have e4 : solN n R (i + 1) = none := by rw [e3, if_pos (by omega)]
        rw [solN_none e4 R.length (by omega)]
        (repeat' (conv => whnf)<;>first|exact True.intro|(refine if_ ?_ ?_<;>intro h<;>first|exact h.elim|(exfalso; omega)|skip)|refine vs_ ?_|refine dv_ ?_|exact fin_|(show ∃ _, _ ∧ _; refine ex_ ?_)|(show ∃ _ _, _ ∧ _; refine ex2_ ?_))
      · rw [if_neg (by omega)] at e3
        conv => whnf
        refine ⟨i + 1, ⟨by omega, by rw [e3]; rfl⟩, by omega, ?_⟩
        rw [e3]
        (repeat' (conv => whnf)<;>first|exact True.intro|(refine if_ ?_ ?_<;>intro h<;>first|exact h.elim|(exfalso; omega)|skip)|refine vs_ ?_ (by first|exact row_upd|exact sd_)|refine dv_ ?_|exact fin_|(show ∃ _, _ ∧ _; refine ex_ ?_)|(show ∃ _ _, _ ∧ _; refine ex2_ ?_))
    · have : i = R.length := by omega
      rw [← this, ho]
      (repeat' (conv => whnf)<;>first|exact True.intro|(refine if_ ?_ ?_<;>intro h<;>first|exact h.elim|(exfalso; omega)|skip)|refine vs_ ?_|refine dv_ ?_|exact fin_|(show ∃ _, _ ∧ _; refine ex_ ?_)|(show ∃ _ _, _ ∧ _; refine ex2_ ?_))
end Go.X
