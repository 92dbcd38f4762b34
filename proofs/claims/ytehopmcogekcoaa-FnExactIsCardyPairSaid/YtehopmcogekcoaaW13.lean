import Derived.Test.YtehopmcogekcoaaM3
set_option linter.all false
namespace Go.X
open Go Go.RowKit
set_option maxRecDepth 100000
set_option maxHeartbeats 8000000
set_option linter.unusedSimpArgs false
set_option linter.unusedVariables false
variable {P : Program} {N : FN}
abbrev tabC (a : Alg) : List D := arr 216 fun q => algF a (2 + q)
abbrev tab1 (a : Alg) (i : Nat) : List D := arr 36 fun q => algF a (2 + (i * 36 + q))
theorem rd_tab {l : List (List D)} {e off : Nat} {a : Alg} (h : AlgAt l e off a) : sub2 l e (off + 2) 216 = some (tabC a) :=
  sub2_of (fun q hq => by rw [← h _ (by omega)]; congr 1; omega) (by omega)
theorem rd_tab1 {a : Alg} {i : Nat} (hi : i < 6) : cut (tabC a) (((i : Nat) : Int).toNat * 36) 36 = some (tab1 a i) := by
  rw [Int.toNat_natCast]; exact arr_cut (by omega)
theorem rd_tab2 {a : Alg} {i j : Nat} (hi : i < 6) (hj : j < 6) : cut (tab1 a i) (((j : Nat) : Int).toNat * 6) 6 = some (vecL (a.T i j)) := by
  rw [Int.toNat_natCast]
  refine (arr_cut (by omega)).trans (congrArg some (arr_ext fun k hk => ?_))
  rw [← algF_T a hi hj hk]; congr 1; omega
theorem rd_stallL {m : Nat} {z l : List D} (hz : z.length = m) (hl : l.length = m) : sub2 ([z].set 0 (splice z 0 l)) 0 0 m = some l := by
  have e : splice z 0 l = l := by
    unfold splice
    rw [List.take_zero, List.nil_append, hl, List.drop_eq_nil_of_le (by omega), List.append_nil]
  rw [e]
  simp only [sub2, cut, List.set_cons_zero, List.getElem?_cons_zero, Option.bind_some, hl, Nat.zero_add, Nat.le_refl, if_true, List.drop_zero]
  rw [List.take_of_length_le (by omega)]
theorem c_tableOk (hV : C_isVector P N) (hN : C_n P N) (hf : isFn P N.impl_Algebra_tableOk (ir_impl_Algebra_tableOk N) = true) : C_tableOk P N := by
  intro sz l e off a hat hb
  have hN' : Can P N.impl_Algebra_n [.pd sz l e off] (.val (.int .i64 a.n)) := hN hat
  refine can_of hf rfl rfl ?_
  (repeat' (conv => whnf) <;> first | exact True.intro | (with_reducible show (_ → _) ∧ (_ → _); refine if_ ?_ ?_ <;> intro h <;> first | exact h.elim | (exfalso; omega) | skip) | (show _ ∧ _; refine an_ ?_) | (show ∃ _, _ ∧ _; refine ex_ ?_ (by first | with_reducible exact rfl | exact rd_tab hat | exact rd_)) | (show ∃ _ _, _ ∧ _; refine ex2_ ?_ (by first | with_reducible exact rfl | exact rd_tab hat | exact rd_)) | (show Ar.int _ _ _ _ _; refine ar_ ?_) | (show wrapK _ _ _; refine wk_ ?_) | exact fin_ | fail)
  conv => whnf
  refine vc_loop (α := Nat) 0 (fun i => 6 - i) (fun i => i ≤ 6 ∧ ∀ i' : Nat, i' < i → ∀ j : Nat, j < 6 → Small (a.T i' j) a.n a.p ∧ (a.n ≤ (i' : Int) ∨ a.n ≤ (j : Int) → VEq (a.T i' j) Z)) [] (fun i => [(10, .d (.agg (tabC a))), (11, .d (.int .i64 i))]) (fun i => []) lp_ ?_ ?_
  · (repeat' (conv => whnf) <;> first | exact True.intro | (with_reducible show (_ → _) ∧ (_ → _); refine if_ ?_ ?_ <;> intro h <;> first | exact h.elim | (exfalso; omega) | skip) | (show _ ∧ _; refine an_ ?_) | (show ∃ _, _ ∧ _; refine ex_ ?_) | (show ∃ _ _, _ ∧ _; refine ex2_ ?_) | (show Ar.int _ _ _ _ _; refine ar_ ?_) | (show wrapK _ _ _; refine wk_ ?_) | exact fin_ | fail)
  · rintro i ⟨hi, hx⟩
    by_cases hlt : i < 6
    · (repeat' (conv => whnf) <;> first | exact True.intro | (with_reducible show (_ → _) ∧ (_ → _); refine if_ ?_ ?_ <;> intro h <;> first | exact h.elim | (exfalso; omega) | skip) | (show _ ∧ _; refine an_ ?_) | (show ∃ _, _ ∧ _; refine ex_ ?_ (by first | with_reducible exact rfl | exact rd_tab1 (by omega) | exact rd_stallL rfl (arr_len ..) | exact rd_)) | (show ∃ _ _, _ ∧ _; refine ex2_ ?_ (by first | with_reducible exact rfl | exact rd_tab1 (by omega) | exact rd_stallL rfl (arr_len ..) | exact rd_)) | (show Ar.int _ _ _ _ _; refine ar_ ?_) | (show wrapK _ _ _; refine wk_ ?_) | exact fin_ | fail)
      conv => whnf
      refine vc_loop (α := Nat) 0 (fun j => 6 - j) (fun j => j ≤ 6 ∧ ∀ j' : Nat, j' < j → Small (a.T i j') a.n a.p ∧ (a.n ≤ (i : Int) ∨ a.n ≤ (j' : Int) → VEq (a.T i j') Z)) [] (fun j => [(3, .d (.int .i64 i)), (10, .d (.agg (tabC a))), (11, .d (.int .i64 i)), (15, .d (.agg (tab1 a i))), (16, .d (.int .i64 j))]) (fun j => []) lp_ ?_ ?_
      · (repeat' (conv => whnf) <;> first | exact True.intro | (with_reducible show (_ → _) ∧ (_ → _); refine if_ ?_ ?_ <;> intro h <;> first | exact h.elim | (exfalso; omega) | skip) | (show _ ∧ _; refine an_ ?_) | (show ∃ _, _ ∧ _; refine ex_ ?_) | (show ∃ _ _, _ ∧ _; refine ex2_ ?_) | (show Ar.int _ _ _ _ _; refine ar_ ?_) | (show wrapK _ _ _; refine wk_ ?_) | exact fin_ | fail)
      · rintro j ⟨hj, hy⟩
        (repeat' (conv => whnf) <;> first | exact True.intro | (with_reducible show (_ → _) ∧ (_ → _); refine if_ ?_ ?_ <;> intro h <;> first | exact h.elim | (exfalso; omega) | skip) | (show _ ∧ _; refine an_ ?_ (by first | exact ⟨conf_vec _, conf_vec Z⟩ | exact sd_)) | (show ∃ _, _ ∧ _; refine ex_ ?_ (by first | with_reducible exact rfl | exact rd_tab2 hlt (by omega) | exact hV (hb.1 i j) | exact hN' | exact eq_vec (w := Z) | exact rd_)) | (show ∃ _ _, _ ∧ _; refine ex2_ ?_ (by first | with_reducible exact rfl | exact rd_tab2 hlt (by omega) | exact hV (hb.1 i j) | exact hN' | exact eq_vec (w := Z) | exact rd_)) | (show Ar.int _ _ _ _ _; refine ar_ ?_) | (show wrapK _ _ _; refine wk_ ?_) | exact fin_ | fail)
        all_goals (conv => whnf)
        all_goals first
          | exact no (fun hs => absurd (hs.1 i j hlt (by omega)).1 ‹_›)
          | exact no (fun hs => absurd ((hs.1 i j hlt (by omega)).2 (by omega)) ‹_›)
          | (have hq : Small (a.T i j) a.n a.p ∧ (a.n ≤ (i : Int) ∨ a.n ≤ (j : Int) → VEq (a.T i j) Z) := ⟨by assumption, fun h9 => by first | assumption | (exfalso; omega)⟩
             refine ⟨j + 1, ⟨by omega, all_succ hy hq⟩, by omega, ?_⟩
             (repeat' (conv => whnf) <;> first | exact True.intro | (with_reducible show (_ → _) ∧ (_ → _); refine if_ ?_ ?_ <;> intro h <;> first | exact h.elim | (exfalso; omega) | skip) | (show _ ∧ _; refine an_ ?_) | (show ∃ _, _ ∧ _; refine ex_ ?_) | (show ∃ _ _, _ ∧ _; refine ex2_ ?_) | (show Ar.int _ _ _ _ _; refine ar_ ?_) | (show wrapK _ _ _; refine wk_ ?_) | exact fin_ | fail))
          | (have h7 : ∀ j' : Nat, j' < 6 → Small (a.T i j') a.n a.p ∧ (a.n ≤ (i : Int) ∨ a.n ≤ (j' : Int) → VEq (a.T i j') Z) := fun j' hj' => hy j' (by omega)
             refine ⟨i + 1, ⟨by omega, all_succ hx h7⟩, by omega, ?_⟩
             (repeat' (conv => whnf) <;> first | exact True.intro | (with_reducible show (_ → _) ∧ (_ → _); refine if_ ?_ ?_ <;> intro h <;> first | exact h.elim | (exfalso; omega) | skip) | (show _ ∧ _; refine an_ ?_) | (show ∃ _, _ ∧ _; refine ex_ ?_) | (show ∃ _ _, _ ∧ _; refine ex2_ ?_) | (show Ar.int _ _ _ _ _; refine ar_ ?_) | (show wrapK _ _ _; refine wk_ ?_) | exact fin_ | fail))
    · have hall : ∀ i' j : Nat, i' < 6 → j < 6 → Small (a.T i' j) a.n a.p ∧ (a.n ≤ (i' : Int) ∨ a.n ≤ (j : Int) → VEq (a.T i' j) Z) := fun i' j h1 h2 => hx i' (by omega) j h2
      by_cases hsm : Small a.f a.n a.p
      · have hv1 : Can P N.impl_isVector [vecD a.f, .int .i64 a.n, .int .i64 a.p] (.val (.bool true)) := by have := hV (n := a.n) (p := a.p) hb.2; rwa [decide_eq_true hsm] at this
        (repeat' (conv => whnf) <;> first | exact True.intro | (with_reducible show (_ → _) ∧ (_ → _); refine if_ ?_ ?_ <;> intro h <;> first | exact h.elim | (exfalso; omega) | skip) | (show _ ∧ _; refine an_ ?_) | (show ∃ _, _ ∧ _; refine ex_ ?_ (by first | with_reducible exact rfl | exact hv1 | exact rd_)) | (show ∃ _ _, _ ∧ _; refine ex2_ ?_ (by first | with_reducible exact rfl | exact hv1 | exact rd_)) | (show Ar.int _ _ _ _ _; refine ar_ ?_) | (show wrapK _ _ _; refine wk_ ?_) | exact fin_ | fail)
        conv => whnf
        exact yes ⟨hall, hsm⟩
      · have hv1 : Can P N.impl_isVector [vecD a.f, .int .i64 a.n, .int .i64 a.p] (.val (.bool false)) := by have := hV (n := a.n) (p := a.p) hb.2; rwa [decide_eq_false hsm] at this
        (repeat' (conv => whnf) <;> first | exact True.intro | (with_reducible show (_ → _) ∧ (_ → _); refine if_ ?_ ?_ <;> intro h <;> first | exact h.elim | (exfalso; omega) | skip) | (show _ ∧ _; refine an_ ?_) | (show ∃ _, _ ∧ _; refine ex_ ?_ (by first | with_reducible exact rfl | exact hv1 | exact rd_)) | (show ∃ _ _, _ ∧ _; refine ex2_ ?_ (by first | with_reducible exact rfl | exact hv1 | exact rd_)) | (show Ar.int _ _ _ _ _; refine ar_ ?_) | (show wrapK _ _ _; refine wk_ ?_) | exact fin_ | fail)
        conv => whnf
        exact no (fun h => hsm h.2)
end Go.X
