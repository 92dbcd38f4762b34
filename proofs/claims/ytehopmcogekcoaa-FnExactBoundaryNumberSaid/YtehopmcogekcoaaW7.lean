import Derived.Test.YtehopmcogekcoaaM3
set_option linter.all false
namespace Go.X
open Go Go.RowKit
set_option maxRecDepth 100000
set_option maxHeartbeats 8000000
set_option linter.unusedSimpArgs false
set_option linter.unusedVariables false
variable {P : Program} {N : FN}
theorem rd_zip {x : Pr} {i : Nat} (hi : i < 6) : cut (zipL x) (((i : Nat) : Int).toNat * 6) 6 = some (vecL (x.z i)) := by
  rw [Int.toNat_natCast]
  unfold zipL
  refine (arr_cut (by omega)).trans (congrArg some (arr_ext fun k hk => ?_))
  rw [show (i * 6 + k) / 6 = i by omega, show (i * 6 + k) % 6 = k by omega]
theorem st_allZ {k : IntKind} {m n : Nat} {z : List D} {g : Nat → Int} (hz : z.length = m) : Chunk.data n ([z].set 0 (splice z 0 (cel k m g))) = .data n [cel k m g] := by
  have e : splice z 0 (cel k m g) = cel k m g := by
    unfold splice
    rw [List.take_zero, List.nil_append, cel_len, List.drop_eq_nil_of_le (by omega), List.append_nil]
  rw [e]; rfl
theorem c_IsPair (hA : C_algebrasOk P N) (hV : C_isVector P N) (hN : C_n P N) (hB : C_basis P N) (hT : C_times P N) (hZ : C_zip P N) (hU : C_unit P N) (hf : isFn P N.impl_IsPair (ir_impl_IsPair N) = true) : C_IsPair P N := by
  intro x hi
  have hx := pairAt_one x
  have hA' := hA (sz := (pairL x).length) hx hi
  refine can_of hf rfl rfl ?_
  by_cases g : AlgsP x
  · have g' := can_t hA' g
    have okc := hi.c.alg g.1
    have oko := hi.o.alg g.2.1
    have hp2 := prime_bd oko.p
    have hnc := okc.n
    have hno := oko.n
    have hNc : Can P N.impl_Algebra_n [.pd (pairL x).length [pairL x] 0 (0 + 0)] (.val (.int .i64 x.c.n)) := hN hx.c
    have hNo : Can P N.impl_Algebra_n [.pd (pairL x).length [pairL x] 0 (0 + 224)] (.val (.int .i64 x.o.n)) := hN hx.o
    (repeat' (conv => whnf) <;> first | exact True.intro | (refine if_ ?_ ?_ <;> intro h <;> first | exact h.elim | (exfalso; omega) | skip) | refine vs_ ?_ | refine dv_ ?_ | exact fin_ | (show ∃ _, _ ∧ _; refine ex_ ?_ (by first | with_reducible exact rfl | exact g' | exact hx.zip | exact rd_)) | refine ex2_ ?_ (by first | with_reducible exact rfl | exact g' | exact hx.zip | exact rd_) | fail)
    conv => whnf
    refine vc_loop (α := Nat) 0 (fun i => 6 - i) (fun i => i ≤ 6 ∧ ∀ i', i' < i → ZipP x i') [] (fun i => [(11, .d (.agg (zipL x))), (12, .d (.int .i64 i))]) (fun i => []) lp_ ?_ ?_
    · (repeat' (conv => whnf) <;> first | exact True.intro | (refine if_ ?_ ?_ <;> intro h <;> first | exact h.elim | (exfalso; omega) | skip) | refine vs_ ?_ | refine dv_ ?_ | exact fin_ | (show ∃ _, _ ∧ _; refine ex_ ?_) | refine ex2_ ?_ | fail)
    · rintro i ⟨hi6, hall⟩
      by_cases hlt : i < 6
      · by_cases s1 : Small (x.z i) x.o.n x.o.p
        · by_cases s2 : x.c.n ≤ (i : Int) → VEq (x.z i) Z
          · have hv1 := can_dt (hV (n := x.o.n) (p := x.o.p) (hi.z i)) s1
            by_cases s3 : x.c.n ≤ (i : Int)
            · have s4 := s2 s3
              (repeat' (conv => whnf) <;> first | exact True.intro | (refine if_ ?_ ?_ <;> intro h <;> first | exact h.elim | (exfalso; omega) | skip) | refine vs_ ?_ (by first | exact ⟨conf_vec _, conf_vec Z⟩ | exact sd_) | refine dv_ ?_ | exact fin_ | (show ∃ _, _ ∧ _; refine ex_ ?_ (by first | with_reducible exact rfl | exact rd_zip hlt | exact hx.o.n | exact hx.o.p | exact hv1 | exact hNc | exact hNo | exact eq_t s4 | exact rd_)) | refine ex2_ ?_ (by first | with_reducible exact rfl | exact rd_zip hlt | exact hx.o.n | exact hx.o.p | exact hv1 | exact hNc | exact hNo | exact eq_t s4 | exact rd_) | fail)
              conv => whnf
              refine vc_loop (α := Nat) 0 (fun j => x.o.n.toNat - j) (fun j => j ≤ x.o.n.toNat ∧ ∀ j' : Nat, j' < j → VEq (timesV x.o (x.z i) (basV j')) (timesV x.o (basV j') (x.z i))) [] (fun j => [(3, .d (.int .i64 i)), (4, .ptr 5 6 0 0), (11, .d (.agg (zipL x))), (12, .d (.int .i64 i)), (37, .d (.int .i64 x.o.n)), (38, .d (.int .i64 j))]) (fun j => [(5, .data 6 [vecL (x.z i)])]) lp_ ?_ ?_
              · (repeat' (conv => whnf) <;> first | exact True.intro | (refine if_ ?_ ?_ <;> intro h <;> first | exact h.elim | (exfalso; omega) | skip) | refine vs_ ?_ (by first | exact st_allZ rfl | exact sd_) | refine dv_ ?_ | exact fin_ | (show ∃ _, _ ∧ _; refine ex_ ?_) | refine ex2_ ?_ | fail)
              · rintro j ⟨hj, hy⟩
                by_cases hlt2 : j < x.o.n.toNat
                · (repeat' (conv => whnf) <;> first | exact True.intro | (refine if_ ?_ ?_ <;> intro h <;> first | exact h.elim | (exfalso; omega) | skip) | refine vs_ ?_ (by first | exact ⟨conf_vec _, conf_vec _⟩ | exact sd_) | refine dv_ ?_ | exact fin_ | (show ∃ _, _ ∧ _; refine ex_ ?_ (by first | with_reducible exact rfl | exact hB (by omega) | exact hT hx.o oko.b (hi.z i) (basV_byt _) (by omega) (by omega) | exact hT hx.o oko.b (basV_byt _) (hi.z i) (by omega) (by omega) | exact eq_vec | exact rd_)) | refine ex2_ ?_ (by first | with_reducible exact rfl | exact hB (by omega) | exact hT hx.o oko.b (hi.z i) (basV_byt _) (by omega) (by omega) | exact hT hx.o oko.b (basV_byt _) (hi.z i) (by omega) (by omega) | exact eq_vec | exact rd_) | fail)
                  · conv => whnf
                    exact no (fun h => absurd ((h.2.1 i hlt).2.1 j (by omega)) ‹_›)
                  · conv => whnf
                    have hq : VEq (timesV x.o (x.z i) (basV j)) (timesV x.o (basV j) (x.z i)) := by assumption
                    refine ⟨j + 1, ⟨by omega, all_succ hy hq⟩, by omega, ?_⟩
                    (repeat' (conv => whnf) <;> first | exact True.intro | (refine if_ ?_ ?_ <;> intro h <;> first | exact h.elim | (exfalso; omega) | skip) | refine vs_ ?_ | refine dv_ ?_ | exact fin_ | (show ∃ _, _ ∧ _; refine ex_ ?_) | refine ex2_ ?_ | fail)
                · have hcomm : ∀ j : Nat, (j : Int) < x.o.n → VEq (timesV x.o (x.z i) (basV j)) (timesV x.o (basV j) (x.z i)) := fun j' hj' => hy j' (by omega)
                  (repeat' (conv => whnf) <;> first | exact True.intro | (refine if_ ?_ ?_ <;> intro h <;> first | exact h.elim | (exfalso; omega) | skip) | refine vs_ ?_ | refine dv_ ?_ | exact fin_ | (show ∃ _, _ ∧ _; refine ex_ ?_ (by first | with_reducible exact rfl | exact hx.zip | exact rd_)) | refine ex2_ ?_ (by first | with_reducible exact rfl | exact hx.zip | exact rd_) | fail)
                  conv => whnf
                  refine vc_loop (α := Nat) 0 (fun q => 6 - q) (fun q => q ≤ 6 ∧ ∀ q' : Nat, q' < q → VEq (zipN x.o.p x.z (x.c.T i q') 6) (timesV x.o (x.z i) (x.z q'))) [] (fun q => [(3, .d (.int .i64 i)), (4, .ptr 5 6 0 0), (11, .d (.agg (zipL x))), (12, .d (.int .i64 i)), (54, .d (.agg (zipL x))), (55, .d (.int .i64 q))]) (fun q => [(5, .data 6 [vecL (x.z i)])]) lp_ ?_ ?_
                  · (repeat' (conv => whnf) <;> first | exact True.intro | (refine if_ ?_ ?_ <;> intro h <;> first | exact h.elim | (exfalso; omega) | skip) | refine vs_ ?_ | refine dv_ ?_ | exact fin_ | (show ∃ _, _ ∧ _; refine ex_ ?_) | refine ex2_ ?_ | fail)
                  · rintro q ⟨hq6, hw⟩
                    by_cases hlt3 : q < 6
                    · (repeat' (conv => whnf) <;> first | exact True.intro | (refine if_ ?_ ?_ <;> intro h <;> first | exact h.elim | (exfalso; omega) | skip) | refine vs_ ?_ (by first | exact ⟨conf_vec _, conf_vec _⟩ | exact sd_) | refine dv_ ?_ | exact fin_ | (show ∃ _, _ ∧ _; refine ex_ ?_ (by first | with_reducible exact rfl | exact rd_zip (by omega) | exact AlgAt.vecT hx.c (by omega) (by omega) | exact hZ hx (by omega) hi.z (okc.b.1 i q) | exact hT hx.o oko.b (hi.z i) (hi.z q) (by omega) (by omega) | exact eq_vec | exact rd_)) | refine ex2_ ?_ (by first | with_reducible exact rfl | exact rd_zip (by omega) | exact AlgAt.vecT hx.c (by omega) (by omega) | exact hZ hx (by omega) hi.z (okc.b.1 i q) | exact hT hx.o oko.b (hi.z i) (hi.z q) (by omega) (by omega) | exact eq_vec | exact rd_) | fail)
                      · conv => whnf
                        exact no (fun h => absurd ((h.2.1 i hlt).2.2 q hlt3) ‹_›)
                      · conv => whnf
                        have hq : VEq (zipN x.o.p x.z (x.c.T i q) 6) (timesV x.o (x.z i) (x.z q)) := by assumption
                        refine ⟨q + 1, ⟨by omega, all_succ hw hq⟩, by omega, ?_⟩
                        (repeat' (conv => whnf) <;> first | exact True.intro | (refine if_ ?_ ?_ <;> intro h <;> first | exact h.elim | (exfalso; omega) | skip) | refine vs_ ?_ | refine dv_ ?_ | exact fin_ | (show ∃ _, _ ∧ _; refine ex_ ?_) | refine ex2_ ?_ | fail)
                    · have hz : ZipP x i := ⟨⟨s1, s2⟩, hcomm, fun q' hq' => hw q' (by omega)⟩
                      (repeat' (conv => whnf) <;> first | exact True.intro | (refine if_ ?_ ?_ <;> intro h <;> first | exact h.elim | (exfalso; omega) | skip) | refine vs_ ?_ | refine dv_ ?_ | exact fin_ | (show ∃ _, _ ∧ _; refine ex_ ?_) | refine ex2_ ?_ | fail)
                      conv => whnf
                      refine ⟨i + 1, ⟨by omega, all_succ hall hz⟩, by omega, ?_⟩
                      (repeat' (conv => whnf) <;> first | exact True.intro | (refine if_ ?_ ?_ <;> intro h <;> first | exact h.elim | (exfalso; omega) | skip) | refine vs_ ?_ | refine dv_ ?_ | exact fin_ | (show ∃ _, _ ∧ _; refine ex_ ?_) | refine ex2_ ?_ | fail)
            · (repeat' (conv => whnf) <;> first | exact True.intro | (refine if_ ?_ ?_ <;> intro h <;> first | exact h.elim | (exfalso; omega) | skip) | refine vs_ ?_ (by first | exact ⟨conf_vec _, conf_vec Z⟩ | exact sd_) | refine dv_ ?_ | exact fin_ | (show ∃ _, _ ∧ _; refine ex_ ?_ (by first | with_reducible exact rfl | exact rd_zip hlt | exact hx.o.n | exact hx.o.p | exact hv1 | exact hNc | exact hNo | exact rd_)) | refine ex2_ ?_ (by first | with_reducible exact rfl | exact rd_zip hlt | exact hx.o.n | exact hx.o.p | exact hv1 | exact hNc | exact hNo | exact rd_) | fail)
              conv => whnf
              refine vc_loop (α := Nat) 0 (fun j => x.o.n.toNat - j) (fun j => j ≤ x.o.n.toNat ∧ ∀ j' : Nat, j' < j → VEq (timesV x.o (x.z i) (basV j')) (timesV x.o (basV j') (x.z i))) [] (fun j => [(3, .d (.int .i64 i)), (4, .ptr 5 6 0 0), (11, .d (.agg (zipL x))), (12, .d (.int .i64 i)), (37, .d (.int .i64 x.o.n)), (38, .d (.int .i64 j))]) (fun j => [(5, .data 6 [vecL (x.z i)])]) lp_ ?_ ?_
              · (repeat' (conv => whnf) <;> first | exact True.intro | (refine if_ ?_ ?_ <;> intro h <;> first | exact h.elim | (exfalso; omega) | skip) | refine vs_ ?_ (by first | exact st_allZ rfl | exact sd_) | refine dv_ ?_ | exact fin_ | (show ∃ _, _ ∧ _; refine ex_ ?_) | refine ex2_ ?_ | fail)
              · rintro j ⟨hj, hy⟩
                by_cases hlt2 : j < x.o.n.toNat
                · (repeat' (conv => whnf) <;> first | exact True.intro | (refine if_ ?_ ?_ <;> intro h <;> first | exact h.elim | (exfalso; omega) | skip) | refine vs_ ?_ (by first | exact ⟨conf_vec _, conf_vec _⟩ | exact sd_) | refine dv_ ?_ | exact fin_ | (show ∃ _, _ ∧ _; refine ex_ ?_ (by first | with_reducible exact rfl | exact hB (by omega) | exact hT hx.o oko.b (hi.z i) (basV_byt _) (by omega) (by omega) | exact hT hx.o oko.b (basV_byt _) (hi.z i) (by omega) (by omega) | exact eq_vec | exact rd_)) | refine ex2_ ?_ (by first | with_reducible exact rfl | exact hB (by omega) | exact hT hx.o oko.b (hi.z i) (basV_byt _) (by omega) (by omega) | exact hT hx.o oko.b (basV_byt _) (hi.z i) (by omega) (by omega) | exact eq_vec | exact rd_) | fail)
                  · conv => whnf
                    exact no (fun h => absurd ((h.2.1 i hlt).2.1 j (by omega)) ‹_›)
                  · conv => whnf
                    have hq : VEq (timesV x.o (x.z i) (basV j)) (timesV x.o (basV j) (x.z i)) := by assumption
                    refine ⟨j + 1, ⟨by omega, all_succ hy hq⟩, by omega, ?_⟩
                    (repeat' (conv => whnf) <;> first | exact True.intro | (refine if_ ?_ ?_ <;> intro h <;> first | exact h.elim | (exfalso; omega) | skip) | refine vs_ ?_ | refine dv_ ?_ | exact fin_ | (show ∃ _, _ ∧ _; refine ex_ ?_) | refine ex2_ ?_ | fail)
                · have hcomm : ∀ j : Nat, (j : Int) < x.o.n → VEq (timesV x.o (x.z i) (basV j)) (timesV x.o (basV j) (x.z i)) := fun j' hj' => hy j' (by omega)
                  (repeat' (conv => whnf) <;> first | exact True.intro | (refine if_ ?_ ?_ <;> intro h <;> first | exact h.elim | (exfalso; omega) | skip) | refine vs_ ?_ | refine dv_ ?_ | exact fin_ | (show ∃ _, _ ∧ _; refine ex_ ?_ (by first | with_reducible exact rfl | exact hx.zip | exact rd_)) | refine ex2_ ?_ (by first | with_reducible exact rfl | exact hx.zip | exact rd_) | fail)
                  conv => whnf
                  refine vc_loop (α := Nat) 0 (fun q => 6 - q) (fun q => q ≤ 6 ∧ ∀ q' : Nat, q' < q → VEq (zipN x.o.p x.z (x.c.T i q') 6) (timesV x.o (x.z i) (x.z q'))) [] (fun q => [(3, .d (.int .i64 i)), (4, .ptr 5 6 0 0), (11, .d (.agg (zipL x))), (12, .d (.int .i64 i)), (54, .d (.agg (zipL x))), (55, .d (.int .i64 q))]) (fun q => [(5, .data 6 [vecL (x.z i)])]) lp_ ?_ ?_
                  · (repeat' (conv => whnf) <;> first | exact True.intro | (refine if_ ?_ ?_ <;> intro h <;> first | exact h.elim | (exfalso; omega) | skip) | refine vs_ ?_ | refine dv_ ?_ | exact fin_ | (show ∃ _, _ ∧ _; refine ex_ ?_) | refine ex2_ ?_ | fail)
                  · rintro q ⟨hq6, hw⟩
                    by_cases hlt3 : q < 6
                    · (repeat' (conv => whnf) <;> first | exact True.intro | (refine if_ ?_ ?_ <;> intro h <;> first | exact h.elim | (exfalso; omega) | skip) | refine vs_ ?_ (by first | exact ⟨conf_vec _, conf_vec _⟩ | exact sd_) | refine dv_ ?_ | exact fin_ | (show ∃ _, _ ∧ _; refine ex_ ?_ (by first | with_reducible exact rfl | exact rd_zip (by omega) | exact AlgAt.vecT hx.c (by omega) (by omega) | exact hZ hx (by omega) hi.z (okc.b.1 i q) | exact hT hx.o oko.b (hi.z i) (hi.z q) (by omega) (by omega) | exact eq_vec | exact rd_)) | refine ex2_ ?_ (by first | with_reducible exact rfl | exact rd_zip (by omega) | exact AlgAt.vecT hx.c (by omega) (by omega) | exact hZ hx (by omega) hi.z (okc.b.1 i q) | exact hT hx.o oko.b (hi.z i) (hi.z q) (by omega) (by omega) | exact eq_vec | exact rd_) | fail)
                      · conv => whnf
                        exact no (fun h => absurd ((h.2.1 i hlt).2.2 q hlt3) ‹_›)
                      · conv => whnf
                        have hq : VEq (zipN x.o.p x.z (x.c.T i q) 6) (timesV x.o (x.z i) (x.z q)) := by assumption
                        refine ⟨q + 1, ⟨by omega, all_succ hw hq⟩, by omega, ?_⟩
                        (repeat' (conv => whnf) <;> first | exact True.intro | (refine if_ ?_ ?_ <;> intro h <;> first | exact h.elim | (exfalso; omega) | skip) | refine vs_ ?_ | refine dv_ ?_ | exact fin_ | (show ∃ _, _ ∧ _; refine ex_ ?_) | refine ex2_ ?_ | fail)
                    · have hz : ZipP x i := ⟨⟨s1, s2⟩, hcomm, fun q' hq' => hw q' (by omega)⟩
                      (repeat' (conv => whnf) <;> first | exact True.intro | (refine if_ ?_ ?_ <;> intro h <;> first | exact h.elim | (exfalso; omega) | skip) | refine vs_ ?_ | refine dv_ ?_ | exact fin_ | (show ∃ _, _ ∧ _; refine ex_ ?_) | refine ex2_ ?_ | fail)
                      conv => whnf
                      refine ⟨i + 1, ⟨by omega, all_succ hall hz⟩, by omega, ?_⟩
                      (repeat' (conv => whnf) <;> first | exact True.intro | (refine if_ ?_ ?_ <;> intro h <;> first | exact h.elim | (exfalso; omega) | skip) | refine vs_ ?_ | refine dv_ ?_ | exact fin_ | (show ∃ _, _ ∧ _; refine ex_ ?_) | refine ex2_ ?_ | fail)
          · have hv1 := can_dt (hV (n := x.o.n) (p := x.o.p) (hi.z i)) s1
            have s3 : x.c.n ≤ (i : Int) := by
              by_cases h : x.c.n ≤ (i : Int)
              · exact h
              · exact absurd (fun h9 => absurd h9 h) s2
            have s4 : ¬ VEq (x.z i) Z := fun h => s2 (fun _ => h)
            (repeat' (conv => whnf) <;> first | exact True.intro | (refine if_ ?_ ?_ <;> intro h <;> first | exact h.elim | (exfalso; omega) | skip) | refine vs_ ?_ (by first | exact ⟨conf_vec _, conf_vec Z⟩ | exact sd_) | refine dv_ ?_ | exact fin_ | (show ∃ _, _ ∧ _; refine ex_ ?_ (by first | with_reducible exact rfl | exact rd_zip hlt | exact hx.o.n | exact hx.o.p | exact hv1 | exact hNc | exact hNo | exact eq_f s4 | exact rd_)) | refine ex2_ ?_ (by first | with_reducible exact rfl | exact rd_zip hlt | exact hx.o.n | exact hx.o.p | exact hv1 | exact hNc | exact hNo | exact eq_f s4 | exact rd_) | fail)
            all_goals (conv => whnf)
            all_goals exact no (fun h => s2 (h.2.1 i hlt).1.2)
        · have hv1 := can_df (hV (n := x.o.n) (p := x.o.p) (hi.z i)) s1
          (repeat' (conv => whnf) <;> first | exact True.intro | (refine if_ ?_ ?_ <;> intro h <;> first | exact h.elim | (exfalso; omega) | skip) | refine vs_ ?_ | refine dv_ ?_ | exact fin_ | (show ∃ _, _ ∧ _; refine ex_ ?_ (by first | with_reducible exact rfl | exact rd_zip hlt | exact hx.o.n | exact hx.o.p | exact hv1 | exact rd_)) | refine ex2_ ?_ (by first | with_reducible exact rfl | exact rd_zip hlt | exact hx.o.n | exact hx.o.p | exact hv1 | exact rd_) | fail)
          all_goals (conv => whnf)
          all_goals exact no (fun h => s1 (h.2.1 i hlt).1.1)
      · have hzip : ∀ i : Nat, i < 6 → ZipP x i := fun i' hi' => hall i' (by omega)
        have uc := (iUnit_rw okc).byt (by have := prime_bd okc.p; omega)
        by_cases s5 : VEq (zipN x.o.p x.z (iUnit x.c) 6) (iUnit x.o)
        · (repeat' (conv => whnf) <;> first | exact True.intro | (refine if_ ?_ ?_ <;> intro h <;> first | exact h.elim | (exfalso; omega) | skip) | refine vs_ ?_ (by first | exact ⟨conf_vec _, conf_vec _⟩ | exact sd_) | refine dv_ ?_ | exact fin_ | (show ∃ _, _ ∧ _; refine ex_ ?_ (by first | with_reducible exact rfl | exact hU hx.c okc | exact hU hx.o oko | exact hZ hx (by omega) hi.z uc | exact eq_t s5 | exact rd_)) | refine ex2_ ?_ (by first | with_reducible exact rfl | exact hU hx.c okc | exact hU hx.o oko | exact hZ hx (by omega) hi.z uc | exact eq_t s5 | exact rd_) | fail)
          all_goals (conv => whnf)
          all_goals exact yes ⟨g, hzip, s5⟩
        · (repeat' (conv => whnf) <;> first | exact True.intro | (refine if_ ?_ ?_ <;> intro h <;> first | exact h.elim | (exfalso; omega) | skip) | refine vs_ ?_ (by first | exact ⟨conf_vec _, conf_vec _⟩ | exact sd_) | refine dv_ ?_ | exact fin_ | (show ∃ _, _ ∧ _; refine ex_ ?_ (by first | with_reducible exact rfl | exact hU hx.c okc | exact hU hx.o oko | exact hZ hx (by omega) hi.z uc | exact eq_f s5 | exact rd_)) | refine ex2_ ?_ (by first | with_reducible exact rfl | exact hU hx.c okc | exact hU hx.o oko | exact hZ hx (by omega) hi.z uc | exact eq_f s5 | exact rd_) | fail)
          all_goals (conv => whnf)
          all_goals exact no (fun h => s5 h.2.2)
  · have g' := can_f hA' g
    (repeat' (conv => whnf) <;> first | exact True.intro | (refine if_ ?_ ?_ <;> intro h <;> first | exact h.elim | (exfalso; omega) | skip) | refine vs_ ?_ | refine dv_ ?_ | exact fin_ | (show ∃ _, _ ∧ _; refine ex_ ?_ (by first | with_reducible exact rfl | exact g' | exact rd_)) | refine ex2_ ?_ (by first | with_reducible exact rfl | exact g' | exact rd_) | fail)
    all_goals (conv => whnf)
    all_goals exact no (fun h => g h.1)
end Go.X
namespace Go.X
open Go Go.RowKit
set_option maxRecDepth 100000
set_option maxHeartbeats 8000000
set_option linter.unusedSimpArgs false
set_option linter.unusedVariables false
variable {P : Program} {N : FN}
def copR (a : Alg) (n i j r : Nat) : List (List D) := if r < i then row (n + n) (augR a r) else if r = i then row (n + j) (augR a r) else row n (augR a r)
theorem copR_get {a : Alg} {n i j c : Nat} (h : i < c) : (arr c (copR a n i j))[((i : Nat) : Int).toNat]? = some (row (n + j) (augR a i)) := by
  rw [Int.toNat_natCast, arr_get h]; unfold copR; rw [if_neg (by omega), if_pos rfl]
theorem copR_put {a : Alg} {n i j c : Nat} {x : Int} (hx : x = augR a i (n + j)) :
    Chunk.nest 1 ((arr c (copR a n i j)).set ((i : Nat) : Int).toNat (row (n + j) (augR a i) ++ [[.int .i64 x]])) none = .nest 1 (arr c (copR a n i (j + 1))) none := by
  subst hx
  rw [Int.toNat_natCast, arr_set]
  congr 1
  refine arr_ext fun r hr => ?_
  unfold upd copR
  by_cases e : r = i
  · subst e
    rw [if_pos rfl, if_neg (by omega), if_pos rfl]
    unfold row
    rw [← Nat.add_assoc, arr_succ]
  · rw [if_neg e]
    by_cases h : r < i
    · rw [if_pos h, if_pos h]
    · rw [if_neg h, if_neg e, if_neg h, if_neg e]
theorem copR_next {a : Alg} {n i c : Nat} : arr c (copR a n i n) = arr c (copR a n (i + 1) 0) := arr_ext fun r hr => by
  unfold copR
  by_cases h : r < i
  · rw [if_pos h, if_pos (by omega)]
  · rw [if_neg h]
    by_cases e : r = i
    · rw [if_pos e, if_pos (by omega)]
    · rw [if_neg e, if_neg (by omega)]
      split <;> rfl
theorem copR_end {a : Alg} {n : Nat} : nestD 1 (arr n (copR a n n 0)) = rowsL (n + n) (arr n (augR a)) := by
  unfold nestD rowsL
  rw [arr_map, arr_map]
  refine arr_ext fun r hr => ?_
  unfold copR; rw [if_pos hr]
theorem row_half {n : Nat} {r : Row} : ((row (n + n) r).drop ((n : Nat) : Int).toNat).take (((n + n : Nat) : Int).toNat - ((n : Nat) : Int).toNat) = row n fun j => r (n + j) := by
  simp only [Int.toNat_natCast]
  unfold row
  refine arr_of (by simp [arr_len]) fun i hi => ?_
  rw [List.getElem?_take, if_pos (by omega), List.getElem?_drop, arr_get (by omega)]
theorem row_half2 {n : Nat} {r : Row} : ((row (n + n) r).drop n).take ((((row (n + n) r).length : Nat) : Int).toNat - n) = row n fun j => r (n + j) := by
  have := row_half (n := n) (r := r)
  rw [row_len]; simpa using this
theorem rows_half {n z : Nat} {L : List Row} {r : Row} {l : List (List D)} (h : l = row n fun j => r (n + j)) : Chunk.data z (rowsL n (L.map fun r j => r (n + j)) ++ [[.lst 1 l]]) = .data z (rowsL n ((L ++ [r]).map fun r j => r (n + j))) := by
  subst h
  rw [rowsL_app, List.map_append]; rfl
theorem c_copairing (hN : C_n P N) (hT : C_tableN P N) (hU : C_unitNumber P N) (hR : C_reduce P N) (hf : isFn P N.impl_Algebra_copairing (ir_impl_Algebra_copairing N) = true) : C_copairing P N := by
  intro sz l e off a hat ha
  have hn := ha.n
  have hp2 := prime_bd ha.p
  have hN' : Can P N.impl_Algebra_n [.pd sz l e off] (.val (.int .i64 a.n)) := hN hat
  have hT' := hT (sz := sz) hat ha
  have hR' := hR (m := a.n.toNat + a.n.toNat) (L := augL a) (by omega) (by unfold augL; rw [arr_len]; omega) ha.p (augL_rw ha)
  have hlen := iCop_len ha
  have hau : ∀ i j : Nat, augR a i (a.n.toNat + j) = if i = j then 1 else 0 := fun i j => by
    unfold augR
    rw [if_neg (by omega), show a.n.toNat + j - a.n.toNat = j by omega]
    by_cases h : i = j
    · rw [if_pos h, if_pos h.symm]
    · rw [if_neg h, if_neg (fun e => h e.symm)]
  have htab : (arr a.n.toNat fun i => row a.n.toNat (tabR a i)) = arr a.n.toNat (copR a a.n.toNat 0 0) := arr_ext fun r hr => by
    have e : row a.n.toNat (tabR a r) = row a.n.toNat (augR a r) := row_ext fun j hj => by unfold augR; rw [if_pos hj]
    unfold copR
    rw [if_neg (by omega), e]
    split <;> rfl
  refine can_of hf rfl rfl ?_
  unfold iCop at hlen ⊢
  rw [List.length_map] at hlen
  have hR2 : Can P N.impl_reduce [.lst 1 (nestD 1 (arr a.n.toNat (copR a a.n.toNat a.n.toNat 0))), .int .i64 a.p] (.val (rowsD (a.n.toNat + a.n.toNat) (redF a.p (a.n.toNat + a.n.toNat) (augL a)))) := by rw [copR_end]; exact hR'
  generalize redF a.p (a.n.toNat + a.n.toNat) (augL a) = R at *
  rw [htab] at hT'
  (repeat' (conv => whnf) <;> first | exact True.intro | (refine if_ ?_ ?_ <;> intro h <;> first | exact h.elim | (exfalso; omega) | skip) | refine vs_ ?_ | refine dv_ ?_ | exact fin_ | (show ∃ _, _ ∧ _; refine ex_ ?_ (by first | with_reducible exact rfl | exact hT' | exact rd_)) | refine ex2_ ?_ (by first | with_reducible exact rfl | exact hT' | exact rd_) | fail)
  conv => whnf
  refine vc_loop (α := Nat) 0 (fun i => a.n.toNat - i) (fun i => i ≤ a.n.toNat) [] (fun i => [(3, .row 4 1), (12, .d (.int .i64 a.n.toNat)), (13, .d (.int .i64 i))]) (fun i => [(4, .nest 1 (arr a.n.toNat (copR a a.n.toNat i 0)) none)]) lp_ ?_ ?_
  · (repeat' (conv => whnf) <;> first | exact True.intro | (refine if_ ?_ ?_ <;> intro h <;> first | exact h.elim | (exfalso; omega) | skip) | refine vs_ ?_ | refine dv_ ?_ | exact fin_ | (show ∃ _, _ ∧ _; refine ex_ ?_) | refine ex2_ ?_ | fail)
  · intro i hi
    by_cases hlt : i < a.n.toNat
    · (repeat' (conv => whnf) <;> first | exact True.intro | (refine if_ ?_ ?_ <;> intro h <;> first | exact h.elim | (exfalso; omega) | skip) | refine vs_ ?_ | refine dv_ ?_ | exact fin_ | (show ∃ _, _ ∧ _; refine ex_ ?_) | refine ex2_ ?_ | fail)
      conv => whnf
      refine vc_loop (α := Nat) 0 (fun j => a.n.toNat - j) (fun j => j ≤ a.n.toNat) [] (fun j => [(3, .row 4 1), (4, .d (.int .i64 i)), (12, .d (.int .i64 a.n.toNat)), (13, .d (.int .i64 i)), (17, .d (.int .i64 a.n.toNat)), (18, .d (.int .i64 j))]) (fun j => [(4, .nest 1 (arr a.n.toNat (copR a a.n.toNat i j)) none)]) lp_ ?_ ?_
      · (repeat' (conv => whnf) <;> first | exact True.intro | (refine if_ ?_ ?_ <;> intro h <;> first | exact h.elim | (exfalso; omega) | skip) | refine vs_ ?_ | refine dv_ ?_ | exact fin_ | (show ∃ _, _ ∧ _; refine ex_ ?_) | refine ex2_ ?_ | fail)
      · intro j hj
        by_cases hlt2 : j < a.n.toNat
        · (repeat' (conv => whnf) <;> first | exact True.intro | (refine if_ ?_ ?_ <;> intro h <;> first | exact h.elim | (exfalso; omega) | skip) | refine vs_ ?_ | refine dv_ ?_ | exact fin_ | (show ∃ _, _ ∧ _; refine ex_ ?_ (by first | with_reducible exact rfl | exact copR_get hlt | exact hU | exact rd_)) | refine ex2_ ?_ (by first | with_reducible exact rfl | exact copR_get hlt | exact hU | exact rd_) | fail)
          conv => whnf
          refine ⟨j + 1, by omega, by omega, ?_⟩
          (repeat' (conv => whnf) <;> first | exact True.intro | (refine if_ ?_ ?_ <;> intro h <;> first | exact h.elim | (exfalso; omega) | skip) | refine vs_ ?_ (by first | exact copR_put (hau i j).symm | exact sd_) | refine dv_ ?_ | exact fin_ | (show ∃ _, _ ∧ _; refine ex_ ?_) | refine ex2_ ?_ | fail)
        · have : j = a.n.toNat := by omega
          rw [this, copR_next]
          (repeat' (conv => whnf) <;> first | exact True.intro | (refine if_ ?_ ?_ <;> intro h <;> first | exact h.elim | (exfalso; omega) | skip) | refine vs_ ?_ | refine dv_ ?_ | exact fin_ | (show ∃ _, _ ∧ _; refine ex_ ?_) | refine ex2_ ?_ | fail)
          conv => whnf
          refine ⟨i + 1, by omega, by omega, ?_⟩
          (repeat' (conv => whnf) <;> first | exact True.intro | (refine if_ ?_ ?_ <;> intro h <;> first | exact h.elim | (exfalso; omega) | skip) | refine vs_ ?_ | refine dv_ ?_ | exact fin_ | (show ∃ _, _ ∧ _; refine ex_ ?_) | refine ex2_ ?_ | fail)
    · have : i = a.n.toNat := by omega
      rw [this]
      (repeat' (conv => whnf) <;> first | exact True.intro | (refine if_ ?_ ?_ <;> intro h <;> first | exact h.elim | (exfalso; omega) | skip) | refine vs_ ?_ | refine dv_ ?_ | exact fin_ | (show ∃ _, _ ∧ _; refine ex_ ?_ (by first | with_reducible exact rfl | exact hR2 | exact rd_)) | refine ex2_ ?_ (by first | with_reducible exact rfl | exact hR2 | exact rd_) | fail)
      conv => whnf
      refine vc_loop (α := Nat) 0 (fun q => R.length - q) (fun q => q ≤ R.length) [] (fun q => [(6, .row 7 1), (41, .d (rowsD (a.n.toNat + a.n.toNat) R)), (42, .d (.int .i64 R.length)), (43, .d (.int .i64 q))]) (fun q => [(7, .data 1 (rowsL a.n.toNat ((R.take q).map fun r j => r (a.n.toNat + j))))]) lp_ ?_ ?_
      · (repeat' (conv => whnf) <;> first | exact True.intro | (refine if_ ?_ ?_ <;> intro h <;> first | exact h.elim | (exfalso; omega) | skip) | refine vs_ ?_ | refine dv_ ?_ | exact fin_ | (show ∃ _, _ ∧ _; refine ex_ ?_) | refine ex2_ ?_ | fail)
      · intro q hq
        by_cases hlt3 : q < R.length
        · have hrow := row_half2 (n := a.n.toNat) (r := R.getD q Z)
          have e1 : R.take (q + 1) = R.take q ++ [R.getD q Z] := by rw [List.take_add_one]; simp [hlt3]
          (repeat' (conv => whnf) <;> first | exact True.intro | (refine if_ ?_ ?_ <;> intro h <;> first | exact h.elim | (exfalso; omega) | skip) | refine vs_ ?_ | refine dv_ ?_ | exact fin_ | (show ∃ _, _ ∧ _; refine ex_ ?_ (by first | with_reducible exact rfl | exact hN' | exact rd_)) | refine ex2_ ?_ (by first | with_reducible exact rfl | exact hN' | exact rd_) | fail)
          conv => whnf
          refine ⟨q + 1, by omega, by omega, ?_⟩
          rw [e1]
          (repeat' (conv => whnf) <;> first | exact True.intro | (refine if_ ?_ ?_ <;> intro h <;> first | exact h.elim | (exfalso; omega) | skip) | refine vs_ ?_ (by first | exact rows_half hrow | exact sd_) | refine dv_ ?_ | exact fin_ | (show ∃ _, _ ∧ _; refine ex_ ?_) | refine ex2_ ?_ | fail)
        · have : q = R.length := by omega
          rw [this, List.take_length]
          (repeat' (conv => whnf) <;> first | exact True.intro | (refine if_ ?_ ?_ <;> intro h <;> first | exact h.elim | (exfalso; omega) | skip) | refine vs_ ?_ | refine dv_ ?_ | exact fin_ | (show ∃ _, _ ∧ _; refine ex_ ?_) | refine ex2_ ?_ | fail)
end Go.X
