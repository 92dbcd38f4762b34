import Derived.Test.YtehopmcogekcoaaM3
set_option linter.all false
namespace Go.X
open Go Go.RowKit
set_option maxRecDepth 100000
set_option maxHeartbeats 8000000
set_option linter.unusedSimpArgs false
set_option linter.unusedVariables false
variable {P : Program} {N : FN}
theorem rd_zip {x : Pr} {i : Nat} (hi : i < 6) : cut (zipL x) (((i : Nat) : Int).toNat * 6) 6 = some (vecL (x.z i)) := by
  rw [Int.toNat_natCast]
  unfold zipL
  refine (arr_cut (by omega)).trans (congrArg some (arr_ext fun k hk => ?_))
  rw [show (i * 6 + k) / 6 = i by omega, show (i * 6 + k) % 6 = k by omega]
theorem st_allZ {k : IntKind} {m n : Nat} {z : List D} {g : Nat → Int} (hz : z.length = m) : Chunk.data n ([z].set 0 (splice z 0 (cel k m g))) = .data n [cel k m g] := by
  have e : splice z 0 (cel k m g) = cel k m g := by
    unfold splice
    rw [List.take_zero, List.nil_append, cel_len, List.drop_eq_nil_of_le (by omega), List.append_nil]
  rw [e]; rfl
theorem c_IsPair (hA : C_algebrasOk P N) (hV : C_isVector P N) (hN : C_n P N) (hB : C_basis P N) (hT : C_times P N) (hZ : C_zip P N) (hU : C_unit P N) (hf : isFn P N.impl_IsPair (ir_impl_IsPair N) = true) : C_IsPair P N := by
  intro x hi
  have hx := pairAt_one x
  have hA' := hA (sz := (pairL x).length) hx hi
  refine can_of hf rfl rfl ?_
  by_cases g : AlgsP x
  · have g' := can_t hA' g
    have okc := hi.c.alg g.1
    have oko := hi.o.alg g.2.1
    have hp2 := prime_bd oko.p
    have hnc := okc.n
    have hno := oko.n
    have hNc : Can P N.impl_Algebra_n [.pd (pairL x).length [pairL x] 0 (0 + 0)] (.val (.int .i64 x.c.n)) := hN hx.c
    have hNo : Can P N.impl_Algebra_n [.pd (pairL x).length [pairL x] 0 (0 + 224)] (.val (.int .i64 x.o.n)) := hN hx.o
    (repeat' (conv => whnf) <;> first | exact True.intro | (with_reducible show (_ → _) ∧ (_ → _); refine if_ ?_ ?_ <;> intro h <;> first | exact h.elim | (exfalso; omega) | skip) | (show _ ∧ _; refine an_ ?_) | (show ∃ _, _ ∧ _; refine ex_ ?_ (by first | with_reducible exact rfl | exact g' | exact hx.zip | exact rd_)) | (show ∃ _ _, _ ∧ _; refine ex2_ ?_ (by first | with_reducible exact rfl | exact g' | exact hx.zip | exact rd_)) | (show Ar.int _ _ _ _ _; refine ar_ ?_) | (show wrapK _ _ _; refine wk_ ?_) | exact fin_ | fail)
    conv => whnf
    refine vc_loop (α := Nat) 0 (fun i => 6 - i) (fun i => i ≤ 6 ∧ ∀ i', i' < i → ZipP x i') [] (fun i => [(11, .d (.agg (zipL x))), (12, .d (.int .i64 i))]) (fun i => []) lp_ ?_ ?_
    · (repeat' (conv => whnf) <;> first | exact True.intro | (with_reducible show (_ → _) ∧ (_ → _); refine if_ ?_ ?_ <;> intro h <;> first | exact h.elim | (exfalso; omega) | skip) | (show _ ∧ _; refine an_ ?_) | (show ∃ _, _ ∧ _; refine ex_ ?_) | (show ∃ _ _, _ ∧ _; refine ex2_ ?_) | (show Ar.int _ _ _ _ _; refine ar_ ?_) | (show wrapK _ _ _; refine wk_ ?_) | exact fin_ | fail)
    · rintro i ⟨hi6, hall⟩
      by_cases hlt : i < 6
      · by_cases s1 : Small (x.z i) x.o.n x.o.p
        · by_cases s2 : x.c.n ≤ (i : Int) → VEq (x.z i) Z
          · have hv1 := can_dt (hV (n := x.o.n) (p := x.o.p) (hi.z i)) s1
            by_cases s3 : x.c.n ≤ (i : Int)
            · have s4 := s2 s3
              (repeat' (conv => whnf) <;> first | exact True.intro | (with_reducible show (_ → _) ∧ (_ → _); refine if_ ?_ ?_ <;> intro h <;> first | exact h.elim | (exfalso; omega) | skip) | (show _ ∧ _; refine an_ ?_ (by first | exact ⟨conf_vec _, conf_vec Z⟩ | exact sd_)) | (show ∃ _, _ ∧ _; refine ex_ ?_ (by first | with_reducible exact rfl | exact rd_zip hlt | exact hx.o.n | exact hx.o.p | exact hv1 | exact hNc | exact hNo | exact eq_t s4 | exact rd_)) | (show ∃ _ _, _ ∧ _; refine ex2_ ?_ (by first | with_reducible exact rfl | exact rd_zip hlt | exact hx.o.n | exact hx.o.p | exact hv1 | exact hNc | exact hNo | exact eq_t s4 | exact rd_)) | (show Ar.int _ _ _ _ _; refine ar_ ?_) | (show wrapK _ _ _; refine wk_ ?_) | exact fin_ | fail)
              conv => whnf
              refine vc_loop (α := Nat) 0 (fun j => x.o.n.toNat - j) (fun j => j ≤ x.o.n.toNat ∧ ∀ j' : Nat, j' < j → VEq (timesV x.o (x.z i) (basV j')) (timesV x.o (basV j') (x.z i))) [] (fun j => [(3, .d (.int .i64 i)), (4, .ptr 5 6 0 0), (11, .d (.agg (zipL x))), (12, .d (.int .i64 i)), (37, .d (.int .i64 x.o.n)), (38, .d (.int .i64 j))]) (fun j => [(5, .data 6 [vecL (x.z i)])]) lp_ ?_ ?_
              · (repeat' (conv => whnf) <;> first | exact True.intro | (with_reducible show (_ → _) ∧ (_ → _); refine if_ ?_ ?_ <;> intro h <;> first | exact h.elim | (exfalso; omega) | skip) | (show _ ∧ _; refine an_ ?_ (by first | exact st_allZ rfl | exact sd_)) | (show ∃ _, _ ∧ _; refine ex_ ?_) | (show ∃ _ _, _ ∧ _; refine ex2_ ?_) | (show Ar.int _ _ _ _ _; refine ar_ ?_) | (show wrapK _ _ _; refine wk_ ?_) | exact fin_ | fail)
              · rintro j ⟨hj, hy⟩
                by_cases hlt2 : j < x.o.n.toNat
                · (repeat' (conv => whnf) <;> first | exact True.intro | (with_reducible show (_ → _) ∧ (_ → _); refine if_ ?_ ?_ <;> intro h <;> first | exact h.elim | (exfalso; omega) | skip) | (show _ ∧ _; refine an_ ?_ (by first | exact ⟨conf_vec _, conf_vec _⟩ | exact sd_)) | (show ∃ _, _ ∧ _; refine ex_ ?_ (by first | with_reducible exact rfl | exact hB (by omega) | exact hT hx.o oko.b (hi.z i) (basV_byt _) (by omega) (by omega) | exact hT hx.o oko.b (basV_byt _) (hi.z i) (by omega) (by omega) | exact eq_vec | exact rd_)) | (show ∃ _ _, _ ∧ _; refine ex2_ ?_ (by first | with_reducible exact rfl | exact hB (by omega) | exact hT hx.o oko.b (hi.z i) (basV_byt _) (by omega) (by omega) | exact hT hx.o oko.b (basV_byt _) (hi.z i) (by omega) (by omega) | exact eq_vec | exact rd_)) | (show Ar.int _ _ _ _ _; refine ar_ ?_) | (show wrapK _ _ _; refine wk_ ?_) | exact fin_ | fail)
                  · conv => whnf
                    exact no (fun h => absurd ((h.2.1 i hlt).2.1 j (by omega)) ‹_›)
                  · conv => whnf
                    have hq : VEq (timesV x.o (x.z i) (basV j)) (timesV x.o (basV j) (x.z i)) := by assumption
                    refine ⟨j + 1, ⟨by omega, all_succ hy hq⟩, by omega, ?_⟩
                    (repeat' (conv => whnf) <;> first | exact True.intro | (with_reducible show (_ → _) ∧ (_ → _); refine if_ ?_ ?_ <;> intro h <;> first | exact h.elim | (exfalso; omega) | skip) | (show _ ∧ _; refine an_ ?_) | (show ∃ _, _ ∧ _; refine ex_ ?_) | (show ∃ _ _, _ ∧ _; refine ex2_ ?_) | (show Ar.int _ _ _ _ _; refine ar_ ?_) | (show wrapK _ _ _; refine wk_ ?_) | exact fin_ | fail)
                · have hcomm : ∀ j : Nat, (j : Int) < x.o.n → VEq (timesV x.o (x.z i) (basV j)) (timesV x.o (basV j) (x.z i)) := fun j' hj' => hy j' (by omega)
                  (repeat' (conv => whnf) <;> first | exact True.intro | (with_reducible show (_ → _) ∧ (_ → _); refine if_ ?_ ?_ <;> intro h <;> first | exact h.elim | (exfalso; omega) | skip) | (show _ ∧ _; refine an_ ?_) | (show ∃ _, _ ∧ _; refine ex_ ?_ (by first | with_reducible exact rfl | exact hx.zip | exact rd_)) | (show ∃ _ _, _ ∧ _; refine ex2_ ?_ (by first | with_reducible exact rfl | exact hx.zip | exact rd_)) | (show Ar.int _ _ _ _ _; refine ar_ ?_) | (show wrapK _ _ _; refine wk_ ?_) | exact fin_ | fail)
                  conv => whnf
                  refine vc_loop (α := Nat) 0 (fun q => 6 - q) (fun q => q ≤ 6 ∧ ∀ q' : Nat, q' < q → VEq (zipN x.o.p x.z (x.c.T i q') 6) (timesV x.o (x.z i) (x.z q'))) [] (fun q => [(3, .d (.int .i64 i)), (4, .ptr 5 6 0 0), (11, .d (.agg (zipL x))), (12, .d (.int .i64 i)), (54, .d (.agg (zipL x))), (55, .d (.int .i64 q))]) (fun q => [(5, .data 6 [vecL (x.z i)])]) lp_ ?_ ?_
                  · (repeat' (conv => whnf) <;> first | exact True.intro | (with_reducible show (_ → _) ∧ (_ → _); refine if_ ?_ ?_ <;> intro h <;> first | exact h.elim | (exfalso; omega) | skip) | (show _ ∧ _; refine an_ ?_) | (show ∃ _, _ ∧ _; refine ex_ ?_) | (show ∃ _ _, _ ∧ _; refine ex2_ ?_) | (show Ar.int _ _ _ _ _; refine ar_ ?_) | (show wrapK _ _ _; refine wk_ ?_) | exact fin_ | fail)
                  · rintro q ⟨hq6, hw⟩
                    by_cases hlt3 : q < 6
                    · (repeat' (conv => whnf) <;> first | exact True.intro | (with_reducible show (_ → _) ∧ (_ → _); refine if_ ?_ ?_ <;> intro h <;> first | exact h.elim | (exfalso; omega) | skip) | (show _ ∧ _; refine an_ ?_ (by first | exact ⟨conf_vec _, conf_vec _⟩ | exact sd_)) | (show ∃ _, _ ∧ _; refine ex_ ?_ (by first | with_reducible exact rfl | exact rd_zip (by omega) | exact AlgAt.vecT hx.c (by omega) (by omega) | exact hZ hx (by omega) hi.z (okc.b.1 i q) | exact hT hx.o oko.b (hi.z i) (hi.z q) (by omega) (by omega) | exact eq_vec | exact rd_)) | (show ∃ _ _, _ ∧ _; refine ex2_ ?_ (by first | with_reducible exact rfl | exact rd_zip (by omega) | exact AlgAt.vecT hx.c (by omega) (by omega) | exact hZ hx (by omega) hi.z (okc.b.1 i q) | exact hT hx.o oko.b (hi.z i) (hi.z q) (by omega) (by omega) | exact eq_vec | exact rd_)) | (show Ar.int _ _ _ _ _; refine ar_ ?_) | (show wrapK _ _ _; refine wk_ ?_) | exact fin_ | fail)
                      · conv => whnf
                        exact no (fun h => absurd ((h.2.1 i hlt).2.2 q hlt3) ‹_›)
                      · conv => whnf
                        have hq : VEq (zipN x.o.p x.z (x.c.T i q) 6) (timesV x.o (x.z i) (x.z q)) := by assumption
                        refine ⟨q + 1, ⟨by omega, all_succ hw hq⟩, by omega, ?_⟩
                        (repeat' (conv => whnf) <;> first | exact True.intro | (with_reducible show (_ → _) ∧ (_ → _); refine if_ ?_ ?_ <;> intro h <;> first | exact h.elim | (exfalso; omega) | skip) | (show _ ∧ _; refine an_ ?_) | (show ∃ _, _ ∧ _; refine ex_ ?_) | (show ∃ _ _, _ ∧ _; refine ex2_ ?_) | (show Ar.int _ _ _ _ _; refine ar_ ?_) | (show wrapK _ _ _; refine wk_ ?_) | exact fin_ | fail)
                    · have hz : ZipP x i := ⟨⟨s1, s2⟩, hcomm, fun q' hq' => hw q' (by omega)⟩
                      (repeat' (conv => whnf) <;> first | exact True.intro | (with_reducible show (_ → _) ∧ (_ → _); refine if_ ?_ ?_ <;> intro h <;> first | exact h.elim | (exfalso; omega) | skip) | (show _ ∧ _; refine an_ ?_) | (show ∃ _, _ ∧ _; refine ex_ ?_) | (show ∃ _ _, _ ∧ _; refine ex2_ ?_) | (show Ar.int _ _ _ _ _; refine ar_ ?_) | (show wrapK _ _ _; refine wk_ ?_) | exact fin_ | fail)
                      conv => whnf
                      refine ⟨i + 1, ⟨by omega, all_succ hall hz⟩, by omega, ?_⟩
                      (repeat' (conv => whnf) <;> first | exact True.intro | (with_reducible show (_ → _) ∧ (_ → _); refine if_ ?_ ?_ <;> intro h <;> first | exact h.elim | (exfalso; omega) | skip) | (show _ ∧ _; refine an_ ?_) | (show ∃ _, _ ∧ _; refine ex_ ?_) | (show ∃ _ _, _ ∧ _; refine ex2_ ?_) | (show Ar.int _ _ _ _ _; refine ar_ ?_) | (show wrapK _ _ _; refine wk_ ?_) | exact fin_ | fail)
            · (repeat' (conv => whnf) <;> first | exact True.intro | (with_reducible show (_ → _) ∧ (_ → _); refine if_ ?_ ?_ <;> intro h <;> first | exact h.elim | (exfalso; omega) | skip) | (show _ ∧ _; refine an_ ?_ (by first | exact ⟨conf_vec _, conf_vec Z⟩ | exact sd_)) | (show ∃ _, _ ∧ _; refine ex_ ?_ (by first | with_reducible exact rfl | exact rd_zip hlt | exact hx.o.n | exact hx.o.p | exact hv1 | exact hNc | exact hNo | exact rd_)) | (show ∃ _ _, _ ∧ _; refine ex2_ ?_ (by first | with_reducible exact rfl | exact rd_zip hlt | exact hx.o.n | exact hx.o.p | exact hv1 | exact hNc | exact hNo | exact rd_)) | (show Ar.int _ _ _ _ _; refine ar_ ?_) | (show wrapK _ _ _; refine wk_ ?_) | exact fin_ | fail)
              conv => whnf
              refine vc_loop (α := Nat) 0 (fun j => x.o.n.toNat - j) (fun j => j ≤ x.o.n.toNat ∧ ∀ j' : Nat, j' < j → VEq (timesV x.o (x.z i) (basV j')) (timesV x.o (basV j') (x.z i))) [] (fun j => [(3, .d (.int .i64 i)), (4, .ptr 5 6 0 0), (11, .d (.agg (zipL x))), (12, .d (.int .i64 i)), (37, .d (.int .i64 x.o.n)), (38, .d (.int .i64 j))]) (fun j => [(5, .data 6 [vecL (x.z i)])]) lp_ ?_ ?_
              · (repeat' (conv => whnf) <;> first | exact True.intro | (with_reducible show (_ → _) ∧ (_ → _); refine if_ ?_ ?_ <;> intro h <;> first | exact h.elim | (exfalso; omega) | skip) | (show _ ∧ _; refine an_ ?_ (by first | exact st_allZ rfl | exact sd_)) | (show ∃ _, _ ∧ _; refine ex_ ?_) | (show ∃ _ _, _ ∧ _; refine ex2_ ?_) | (show Ar.int _ _ _ _ _; refine ar_ ?_) | (show wrapK _ _ _; refine wk_ ?_) | exact fin_ | fail)
              · rintro j ⟨hj, hy⟩
                by_cases hlt2 : j < x.o.n.toNat
                · (repeat' (conv => whnf) <;> first | exact True.intro | (with_reducible show (_ → _) ∧ (_ → _); refine if_ ?_ ?_ <;> intro h <;> first | exact h.elim | (exfalso; omega) | skip) | (show _ ∧ _; refine an_ ?_ (by first | exact ⟨conf_vec _, conf_vec _⟩ | exact sd_)) | (show ∃ _, _ ∧ _; refine ex_ ?_ (by first | with_reducible exact rfl | exact hB (by omega) | exact hT hx.o oko.b (hi.z i) (basV_byt _) (by omega) (by omega) | exact hT hx.o oko.b (basV_byt _) (hi.z i) (by omega) (by omega) | exact eq_vec | exact rd_)) | (show ∃ _ _, _ ∧ _; refine ex2_ ?_ (by first | with_reducible exact rfl | exact hB (by omega) | exact hT hx.o oko.b (hi.z i) (basV_byt _) (by omega) (by omega) | exact hT hx.o oko.b (basV_byt _) (hi.z i) (by omega) (by omega) | exact eq_vec | exact rd_)) | (show Ar.int _ _ _ _ _; refine ar_ ?_) | (show wrapK _ _ _; refine wk_ ?_) | exact fin_ | fail)
                  · conv => whnf
                    exact no (fun h => absurd ((h.2.1 i hlt).2.1 j (by omega)) ‹_›)
                  · conv => whnf
                    have hq : VEq (timesV x.o (x.z i) (basV j)) (timesV x.o (basV j) (x.z i)) := by assumption
                    refine ⟨j + 1, ⟨by omega, all_succ hy hq⟩, by omega, ?_⟩
                    (repeat' (conv => whnf) <;> first | exact True.intro | (with_reducible show (_ → _) ∧ (_ → _); refine if_ ?_ ?_ <;> intro h <;> first | exact h.elim | (exfalso; omega) | skip) | (show _ ∧ _; refine an_ ?_) | (show ∃ _, _ ∧ _; refine ex_ ?_) | (show ∃ _ _, _ ∧ _; refine ex2_ ?_) | (show Ar.int _ _ _ _ _; refine ar_ ?_) | (show wrapK _ _ _; refine wk_ ?_) | exact fin_ | fail)
                · have hcomm : ∀ j : Nat, (j : Int) < x.o.n → VEq (timesV x.o (x.z i) (basV j)) (timesV x.o (basV j) (x.z i)) := fun j' hj' => hy j' (by omega)
                  (repeat' (conv => whnf) <;> first | exact True.intro | (with_reducible show (_ → _) ∧ (_ → _); refine if_ ?_ ?_ <;> intro h <;> first | exact h.elim | (exfalso; omega) | skip) | (show _ ∧ _; refine an_ ?_) | (show ∃ _, _ ∧ _; refine ex_ ?_ (by first | with_reducible exact rfl | exact hx.zip | exact rd_)) | (show ∃ _ _, _ ∧ _; refine ex2_ ?_ (by first | with_reducible exact rfl | exact hx.zip | exact rd_)) | (show Ar.int _ _ _ _ _; refine ar_ ?_) | (show wrapK _ _ _; refine wk_ ?_) | exact fin_ | fail)
                  conv => whnf
                  refine vc_loop (α := Nat) 0 (fun q => 6 - q) (fun q => q ≤ 6 ∧ ∀ q' : Nat, q' < q → VEq (zipN x.o.p x.z (x.c.T i q') 6) (timesV x.o (x.z i) (x.z q'))) [] (fun q => [(3, .d (.int .i64 i)), (4, .ptr 5 6 0 0), (11, .d (.agg (zipL x))), (12, .d (.int .i64 i)), (54, .d (.agg (zipL x))), (55, .d (.int .i64 q))]) (fun q => [(5, .data 6 [vecL (x.z i)])]) lp_ ?_ ?_
                  · (repeat' (conv => whnf) <;> first | exact True.intro | (with_reducible show (_ → _) ∧ (_ → _); refine if_ ?_ ?_ <;> intro h <;> first | exact h.elim | (exfalso; omega) | skip) | (show _ ∧ _; refine an_ ?_) | (show ∃ _, _ ∧ _; refine ex_ ?_) | (show ∃ _ _, _ ∧ _; refine ex2_ ?_) | (show Ar.int _ _ _ _ _; refine ar_ ?_) | (show wrapK _ _ _; refine wk_ ?_) | exact fin_ | fail)
                  · rintro q ⟨hq6, hw⟩
                    by_cases hlt3 : q < 6
                    · (repeat' (conv => whnf) <;> first | exact True.intro | (with_reducible show (_ → _) ∧ (_ → _); refine if_ ?_ ?_ <;> intro h <;> first | exact h.elim | (exfalso; omega) | skip) | (show _ ∧ _; refine an_ ?_ (by first | exact ⟨conf_vec _, conf_vec _⟩ | exact sd_)) | (show ∃ _, _ ∧ _; refine ex_ ?_ (by first | with_reducible exact rfl | exact rd_zip (by omega) | exact AlgAt.vecT hx.c (by omega) (by omega) | exact hZ hx (by omega) hi.z (okc.b.1 i q) | exact hT hx.o oko.b (hi.z i) (hi.z q) (by omega) (by omega) | exact eq_vec | exact rd_)) | (show ∃ _ _, _ ∧ _; refine ex2_ ?_ (by first | with_reducible exact rfl | exact rd_zip (by omega) | exact AlgAt.vecT hx.c (by omega) (by omega) | exact hZ hx (by omega) hi.z (okc.b.1 i q) | exact hT hx.o oko.b (hi.z i) (hi.z q) (by omega) (by omega) | exact eq_vec | exact rd_)) | (show Ar.int _ _ _ _ _; refine ar_ ?_) | (show wrapK _ _ _; refine wk_ ?_) | exact fin_ | fail)
                      · conv => whnf
                        exact no (fun h => absurd ((h.2.1 i hlt).2.2 q hlt3) ‹_›)
                      · conv => whnf
                        have hq : VEq (zipN x.o.p x.z (x.c.T i q) 6) (timesV x.o (x.z i) (x.z q)) := by assumption
                        refine ⟨q + 1, ⟨by omega, all_succ hw hq⟩, by omega, ?_⟩
                        (repeat' (conv => whnf) <;> first | exact True.intro | (with_reducible show (_ → _) ∧ (_ → _); refine if_ ?_ ?_ <;> intro h <;> first | exact h.elim | (exfalso; omega) | skip) | (show _ ∧ _; refine an_ ?_) | (show ∃ _, _ ∧ _; refine ex_ ?_) | (show ∃ _ _, _ ∧ _; refine ex2_ ?_) | (show Ar.int _ _ _ _ _; refine ar_ ?_) | (show wrapK _ _ _; refine wk_ ?_) | exact fin_ | fail)
                    · have hz : ZipP x i := ⟨⟨s1, s2⟩, hcomm, fun q' hq' => hw q' (by omega)⟩
                      (repeat' (conv => whnf) <;> first | exact True.intro | (with_reducible show (_ → _) ∧ (_ → _); refine if_ ?_ ?_ <;> intro h <;> first | exact h.elim | (exfalso; omega) | skip) | (show _ ∧ _; refine an_ ?_) | (show ∃ _, _ ∧ _; refine ex_ ?_) | (show ∃ _ _, _ ∧ _; refine ex2_ ?_) | (show Ar.int _ _ _ _ _; refine ar_ ?_) | (show wrapK _ _ _; refine wk_ ?_) | exact fin_ | fail)
                      conv => whnf
                      refine ⟨i + 1, ⟨by omega, all_succ hall hz⟩, by omega, ?_⟩
                      (repeat' (conv => whnf) <;> first | exact True.intro | (with_reducible show (_ → _) ∧ (_ → _); refine if_ ?_ ?_ <;> intro h <;> first | exact h.elim | (exfalso; omega) | skip) | (show _ ∧ _; refine an_ ?_) | (show ∃ _, _ ∧ _; refine ex_ ?_) | (show ∃ _ _, _ ∧ _; refine ex2_ ?_) | (show Ar.int _ _ _ _ _; refine ar_ ?_) | (show wrapK _ _ _; refine wk_ ?_) | exact fin_ | fail)
          · have hv1 := can_dt (hV (n := x.o.n) (p := x.o.p) (hi.z i)) s1
            have s3 : x.c.n ≤ (i : Int) := by
              by_cases h : x.c.n ≤ (i : Int)
              · exact h
              · exact absurd (fun h9 => absurd h9 h) s2
            have s4 : ¬ VEq (x.z i) Z := fun h => s2 (fun _ => h)
            (repeat' (conv => whnf) <;> first | exact True.intro | (with_reducible show (_ → _) ∧ (_ → _); refine if_ ?_ ?_ <;> intro h <;> first | exact h.elim | (exfalso; omega) | skip) | (show _ ∧ _; refine an_ ?_ (by first | exact ⟨conf_vec _, conf_vec Z⟩ | exact sd_)) | (show ∃ _, _ ∧ _; refine ex_ ?_ (by first | with_reducible exact rfl | exact rd_zip hlt | exact hx.o.n | exact hx.o.p | exact hv1 | exact hNc | exact hNo | exact eq_f s4 | exact rd_)) | (show ∃ _ _, _ ∧ _; refine ex2_ ?_ (by first | with_reducible exact rfl | exact rd_zip hlt | exact hx.o.n | exact hx.o.p | exact hv1 | exact hNc | exact hNo | exact eq_f s4 | exact rd_)) | (show Ar.int _ _ _ _ _; refine ar_ ?_) | (show wrapK _ _ _; refine wk_ ?_) | exact fin_ | fail)
            all_goals (conv => whnf)
            all_goals exact no (fun h => s2 (h.2.1 i hlt).1.2)
        · have hv1 := can_df (hV (n := x.o.n) (p := x.o.p) (hi.z i)) s1
          (repeat' (conv => whnf) <;> first | exact True.intro | (with_reducible show (_ → _) ∧ (_ → _); refine if_ ?_ ?_ <;> intro h <;> first | exact h.elim | (exfalso; omega) | skip) | (show _ ∧ _; refine an_ ?_) | (show ∃ _, _ ∧ _; refine ex_ ?_ (by first | with_reducible exact rfl | exact rd_zip hlt | exact hx.o.n | exact hx.o.p | exact hv1 | exact rd_)) | (show ∃ _ _, _ ∧ _; refine ex2_ ?_ (by first | with_reducible exact rfl | exact rd_zip hlt | exact hx.o.n | exact hx.o.p | exact hv1 | exact rd_)) | (show Ar.int _ _ _ _ _; refine ar_ ?_) | (show wrapK _ _ _; refine wk_ ?_) | exact fin_ | fail)
          all_goals (conv => whnf)
          all_goals exact no (fun h => s1 (h.2.1 i hlt).1.1)
      · have hzip : ∀ i : Nat, i < 6 → ZipP x i := fun i' hi' => hall i' (by omega)
        have uc := (iUnit_rw okc).byt (by have := prime_bd okc.p; omega)
        by_cases s5 : VEq (zipN x.o.p x.z (iUnit x.c) 6) (iUnit x.o)
        · (repeat' (conv => whnf) <;> first | exact True.intro | (with_reducible show (_ → _) ∧ (_ → _); refine if_ ?_ ?_ <;> intro h <;> first | exact h.elim | (exfalso; omega) | skip) | (show _ ∧ _; refine an_ ?_ (by first | exact ⟨conf_vec _, conf_vec _⟩ | exact sd_)) | (show ∃ _, _ ∧ _; refine ex_ ?_ (by first | with_reducible exact rfl | exact hU hx.c okc | exact hU hx.o oko | exact hZ hx (by omega) hi.z uc | exact eq_t s5 | exact rd_)) | (show ∃ _ _, _ ∧ _; refine ex2_ ?_ (by first | with_reducible exact rfl | exact hU hx.c okc | exact hU hx.o oko | exact hZ hx (by omega) hi.z uc | exact eq_t s5 | exact rd_)) | (show Ar.int _ _ _ _ _; refine ar_ ?_) | (show wrapK _ _ _; refine wk_ ?_) | exact fin_ | fail)
          all_goals (conv => whnf)
          all_goals exact yes ⟨g, hzip, s5⟩
        · (repeat' (conv => whnf) <;> first | exact True.intro | (with_reducible show (_ → _) ∧ (_ → _); refine if_ ?_ ?_ <;> intro h <;> first | exact h.elim | (exfalso; omega) | skip) | (show _ ∧ _; refine an_ ?_ (by first | exact ⟨conf_vec _, conf_vec _⟩ | exact sd_)) | (show ∃ _, _ ∧ _; refine ex_ ?_ (by first | with_reducible exact rfl | exact hU hx.c okc | exact hU hx.o oko | exact hZ hx (by omega) hi.z uc | exact eq_f s5 | exact rd_)) | (show ∃ _ _, _ ∧ _; refine ex2_ ?_ (by first | with_reducible exact rfl | exact hU hx.c okc | exact hU hx.o oko | exact hZ hx (by omega) hi.z uc | exact eq_f s5 | exact rd_)) | (show Ar.int _ _ _ _ _; refine ar_ ?_) | (show wrapK _ _ _; refine wk_ ?_) | exact fin_ | fail)
          all_goals (conv => whnf)
          all_goals exact no (fun h => s5 h.2.2)
  · have g' := can_f hA' g
    (repeat' (conv => whnf) <;> first | exact True.intro | (with_reducible show (_ → _) ∧ (_ → _); refine if_ ?_ ?_ <;> intro h <;> first | exact h.elim | (exfalso; omega) | skip) | (show _ ∧ _; refine an_ ?_) | (show ∃ _, _ ∧ _; refine ex_ ?_ (by first | with_reducible exact rfl | exact g' | exact rd_)) | (show ∃ _ _, _ ∧ _; refine ex2_ ?_ (by first | with_reducible exact rfl | exact g' | exact rd_)) | (show Ar.int _ _ _ _ _; refine ar_ ?_) | (show wrapK _ _ _; refine wk_ ?_) | exact fin_ | fail)
    all_goals (conv => whnf)
    all_goals exact no (fun h => g h.1)
end Go.X
