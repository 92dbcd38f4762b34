import Derived.Test.YtehopmcogekcoaaKMm
set_option linter.all false
namespace Go.X
open Go Go.RowKit
set_option maxRecDepth 100000
set_option maxHeartbeats 8000000
set_option linter.unusedSimpArgs false
set_option linter.unusedVariables false
variable {P : Program} {N : FN}
theorem algL_len (a : Alg) : (algL a).length = 224 := arr_len ..
theorem splA {a : Alg} {z : List D} (hz : z.length = 224) : splice z 0 (algL a) = algL a := by
  unfold splice
  rw [List.take_zero, List.nil_append, algL_len, List.drop_eq_nil_of_le (by omega), List.append_nil]
theorem c_sIs (hA : C_sAlgebra P N) (hC : C_sCommutative P N) (hF : C_sFrobenius P N) (hS : C_sSymmetric P N) (hV : C_sVector P N) (hB : C_sBasis P N) (hT : C_sTimes P N) (hZ : C_sZip P N) (hU : C_sUnit P N) (hf : isFn P N.spec_l10Is (ir_spec_l10Is N) = true) : C_sIs P N := by
  intro x hi
  have hx := pairAt_one x
  have hAc : Can P N.spec_l01Algebra [algD x.c] (.val (.bool (dB (sAlgP x.c)))) := hA hi.c.b hi.c.ok
  have hAo : Can P N.spec_l01Algebra [algD x.o] (.val (.bool (dB (sAlgP x.o)))) := hA hi.o.b hi.o.ok
  refine can_of hf rfl rfl ?_
  (repeat' (conv => whnf) <;> first | exact True.intro | (with_reducible show (_ → _) ∧ (_ → _); refine if_ ?_ ?_ <;> intro h <;> first | exact h.elim | (exfalso; omega) | skip) | (show _ ∧ _; refine an_ ?_) | (show ∃ _, _ ∧ _; refine ex_ ?_ (by first | with_reducible exact rfl | exact hx.c.all | exact hx.o.all | exact rd_)) | (show ∃ _ _, _ ∧ _; refine ex2_ ?_ (by first | with_reducible exact rfl | exact hx.c.all | exact hx.o.all | exact rd_)) | (show Ar.int _ _ _ _ _; refine ar_ ?_) | (show wrapK _ _ _; refine wk_ ?_) | exact fin_ | fail)
  rw [splA, splA, List.set_cons_zero, List.set_cons_zero]
  rotate_left
  · rfl
  · rfl
  by_cases g1 : sAlgP x.c
  · have g1' := can_t hAc g1
    have okc := hi.c.ok g1.1
    by_cases g2 : sAlgP x.o
    · have g2' := can_t hAo g2
      have oko := hi.o.ok g2.1
      by_cases g3 : x.c.p = x.o.p
      · have hCc : Can P N.spec_l01Commutative [algD x.c] (.val (.bool (dB (sCommP x.c)))) := by
          have := hC (a := x.c)
          rwa [show decide (∀ i : Nat, i < 6 → ∀ j : Nat, j < i → VEq (x.c.T i j) (x.c.T j i)) = dB (sCommP x.c) from by
            rw [Bool.eq_iff_iff, decide_eq_true_eq, dB_iff]; exact Iff.rfl] at this
        by_cases g4 : sCommP x.c
        · have g4' := can_t hCc g4
          have hFc := hF okc
          by_cases g5 : sFrobP x.c
          · have g5' := can_dt hFc g5
            have hFo := hF oko
            by_cases g6 : sFrobP x.o
            · have g6' := can_dt hFo g6
              have hSo := hS oko
              by_cases g7 : SymP x.o
              · have g7' := can_t hSo g7
                have hp2 := prime_bd oko.p
                have hnc := okc.n
                have hno := oko.n
                have hUc : Can P N.spec_l01Unit [algD x.c] (.val (vecD (sUnit x.c))) := hU okc
                have hUo : Can P N.spec_l01Unit [algD x.o] (.val (vecD (sUnit x.o))) := hU oko
                have uc := (sUnit_rw okc).byt (by have := prime_bd okc.p; omega)
                have hzp := hi.z
                (repeat' (conv => whnf) <;> first | exact True.intro | (with_reducible show (_ → _) ∧ (_ → _); refine if_ ?_ ?_ <;> intro h <;> first | exact h.elim | (exfalso; omega) | skip) | (show _ ∧ _; refine an_ ?_) | (show ∃ _, _ ∧ _; refine ex_ ?_ (by first | with_reducible exact rfl | exact g1' | exact g2' | exact g4' | exact g5' | exact g6' | exact g7' | exact rd_)) | (show ∃ _ _, _ ∧ _; refine ex2_ ?_ (by first | with_reducible exact rfl | exact g1' | exact g2' | exact g4' | exact g5' | exact g6' | exact g7' | exact rd_)) | (show Ar.int _ _ _ _ _; refine ar_ ?_) | (show wrapK _ _ _; refine wk_ ?_) | exact fin_ | fail)
                all_goals try (exact absurd g3 ‹_›)
                have ha : sAlgsP x := ⟨g1, g2, g3, g4, g5, g6, g7⟩
                conv => whnf
                refine vc_loop (α := Nat) 0 (fun i => 6 - i) (fun i => i ≤ 6 ∧ ∀ i', i' < i → sZipA x i') [] (fun i => [(5, .d (.int .i64 i))]) (fun i => []) lp_ ?_ ?_
                · (repeat' (conv => whnf) <;> first | exact True.intro | (with_reducible show (_ → _) ∧ (_ → _); refine if_ ?_ ?_ <;> intro h <;> first | exact h.elim | (exfalso; omega) | skip) | (show _ ∧ _; refine an_ ?_) | (show ∃ _, _ ∧ _; refine ex_ ?_) | (show ∃ _ _, _ ∧ _; refine ex2_ ?_) | (show Ar.int _ _ _ _ _; refine ar_ ?_) | (show wrapK _ _ _; refine wk_ ?_) | exact fin_ | fail)
                · rintro i ⟨hi6, hall⟩
                  by_cases hlt : i < 6
                  · have hv := hV (a := x.o) (hzp i)
                    by_cases s1 : Small (x.z i) x.o.n x.o.p
                    · have hv1 := can_dt hv s1
                      by_cases s2 : x.c.n ≤ (i : Int)
                      · by_cases s3 : VEq (x.z i) Z
                        · (repeat' (conv => whnf) <;> first | exact True.intro | (with_reducible show (_ → _) ∧ (_ → _); refine if_ ?_ ?_ <;> intro h <;> first | exact h.elim | (exfalso; omega) | skip) | (show _ ∧ _; refine an_ ?_ (by first | exact ⟨conf_vec _, conf_vec Z⟩ | exact sd_)) | (show ∃ _, _ ∧ _; refine ex_ ?_ (by first | with_reducible exact rfl | exact hx.zv hlt | exact hv1 | exact eq_t s3 | exact rd_)) | (show ∃ _ _, _ ∧ _; refine ex2_ ?_ (by first | with_reducible exact rfl | exact hx.zv hlt | exact hv1 | exact eq_t s3 | exact rd_)) | (show Ar.int _ _ _ _ _; refine ar_ ?_) | (show wrapK _ _ _; refine wk_ ?_) | exact fin_ | fail)
                          conv => whnf
                          refine ⟨i + 1, ⟨by omega, all_succ hall ⟨s1, fun _ => s3⟩⟩, by omega, ?_⟩
                          (repeat' (conv => whnf) <;> first | exact True.intro | (with_reducible show (_ → _) ∧ (_ → _); refine if_ ?_ ?_ <;> intro h <;> first | exact h.elim | (exfalso; omega) | skip) | (show _ ∧ _; refine an_ ?_) | (show ∃ _, _ ∧ _; refine ex_ ?_) | (show ∃ _ _, _ ∧ _; refine ex2_ ?_) | (show Ar.int _ _ _ _ _; refine ar_ ?_) | (show wrapK _ _ _; refine wk_ ?_) | exact fin_ | fail)
                        · (repeat' (conv => whnf) <;> first | exact True.intro | (with_reducible show (_ → _) ∧ (_ → _); refine if_ ?_ ?_ <;> intro h <;> first | exact h.elim | (exfalso; omega) | skip) | (show _ ∧ _; refine an_ ?_ (by first | exact ⟨conf_vec _, conf_vec Z⟩ | exact sd_)) | (show ∃ _, _ ∧ _; refine ex_ ?_ (by first | with_reducible exact rfl | exact hx.zv hlt | exact hv1 | exact eq_f s3 | exact rd_)) | (show ∃ _ _, _ ∧ _; refine ex2_ ?_ (by first | with_reducible exact rfl | exact hx.zv hlt | exact hv1 | exact eq_f s3 | exact rd_)) | (show Ar.int _ _ _ _ _; refine ar_ ?_) | (show wrapK _ _ _; refine wk_ ?_) | exact fin_ | fail)
                          all_goals (conv => whnf)
                          all_goals exact no (fun h => s3 ((h.2.1 i hlt).2 s2))
                      · (repeat' (conv => whnf) <;> first | exact True.intro | (with_reducible show (_ → _) ∧ (_ → _); refine if_ ?_ ?_ <;> intro h <;> first | exact h.elim | (exfalso; omega) | skip) | (show _ ∧ _; refine an_ ?_) | (show ∃ _, _ ∧ _; refine ex_ ?_ (by first | with_reducible exact rfl | exact hx.zv hlt | exact hv1 | exact rd_)) | (show ∃ _ _, _ ∧ _; refine ex2_ ?_ (by first | with_reducible exact rfl | exact hx.zv hlt | exact hv1 | exact rd_)) | (show Ar.int _ _ _ _ _; refine ar_ ?_) | (show wrapK _ _ _; refine wk_ ?_) | exact fin_ | fail)
                        conv => whnf
                        refine ⟨i + 1, ⟨by omega, all_succ hall ⟨s1, fun h => absurd h s2⟩⟩, by omega, ?_⟩
                        (repeat' (conv => whnf) <;> first | exact True.intro | (with_reducible show (_ → _) ∧ (_ → _); refine if_ ?_ ?_ <;> intro h <;> first | exact h.elim | (exfalso; omega) | skip) | (show _ ∧ _; refine an_ ?_) | (show ∃ _, _ ∧ _; refine ex_ ?_) | (show ∃ _ _, _ ∧ _; refine ex2_ ?_) | (show Ar.int _ _ _ _ _; refine ar_ ?_) | (show wrapK _ _ _; refine wk_ ?_) | exact fin_ | fail)
                    · have hv1 := can_df hv s1
                      (repeat' (conv => whnf) <;> first | exact True.intro | (with_reducible show (_ → _) ∧ (_ → _); refine if_ ?_ ?_ <;> intro h <;> first | exact h.elim | (exfalso; omega) | skip) | (show _ ∧ _; refine an_ ?_) | (show ∃ _, _ ∧ _; refine ex_ ?_ (by first | with_reducible exact rfl | exact hx.zv hlt | exact hv1 | exact rd_)) | (show ∃ _ _, _ ∧ _; refine ex2_ ?_ (by first | with_reducible exact rfl | exact hx.zv hlt | exact hv1 | exact rd_)) | (show Ar.int _ _ _ _ _; refine ar_ ?_) | (show wrapK _ _ _; refine wk_ ?_) | exact fin_ | fail)
                      all_goals (conv => whnf)
                      all_goals exact no (fun h => s1 (h.2.1 i hlt).1)
                  · have hall6 : ∀ i', i' < 6 → sZipA x i' := fun i' h => hall i' (by omega)
                    (repeat' (conv => whnf) <;> first | exact True.intro | (with_reducible show (_ → _) ∧ (_ → _); refine if_ ?_ ?_ <;> intro h <;> first | exact h.elim | (exfalso; omega) | skip) | (show _ ∧ _; refine an_ ?_) | (show ∃ _, _ ∧ _; refine ex_ ?_) | (show ∃ _ _, _ ∧ _; refine ex2_ ?_) | (show Ar.int _ _ _ _ _; refine ar_ ?_) | (show wrapK _ _ _; refine wk_ ?_) | exact fin_ | fail)
                    conv => whnf
                    refine vc_loop (α := Nat) 0 (fun i => x.c.n.toNat - i) (fun i => i ≤ x.c.n.toNat ∧ ∀ i' : Nat, i' < i → sZipB x i') [] (fun i => [(6, .d (.int .i64 i))]) (fun i => []) lp_ ?_ ?_
                    · (repeat' (conv => whnf) <;> first | exact True.intro | (with_reducible show (_ → _) ∧ (_ → _); refine if_ ?_ ?_ <;> intro h <;> first | exact h.elim | (exfalso; omega) | skip) | (show _ ∧ _; refine an_ ?_) | (show ∃ _, _ ∧ _; refine ex_ ?_) | (show ∃ _ _, _ ∧ _; refine ex2_ ?_) | (show Ar.int _ _ _ _ _; refine ar_ ?_) | (show wrapK _ _ _; refine wk_ ?_) | exact fin_ | fail)
                    · rintro i ⟨hin, hallB⟩
                      by_cases hlt2 : i < x.c.n.toNat
                      · (repeat' (conv => whnf) <;> first | exact True.intro | (with_reducible show (_ → _) ∧ (_ → _); refine if_ ?_ ?_ <;> intro h <;> first | exact h.elim | (exfalso; omega) | skip) | (show _ ∧ _; refine an_ ?_) | (show ∃ _, _ ∧ _; refine ex_ ?_) | (show ∃ _ _, _ ∧ _; refine ex2_ ?_) | (show Ar.int _ _ _ _ _; refine ar_ ?_) | (show wrapK _ _ _; refine wk_ ?_) | exact fin_ | fail)
                        conv => whnf
                        refine vc_loop (α := Nat) 0 (fun j => x.c.n.toNat - j) (fun j => j ≤ x.c.n.toNat ∧ ∀ j' : Nat, j' < j → VEq (zipN x.o.p x.z (x.c.T i j') x.c.n.toNat) (timesV x.o (x.z i) (x.z j'))) [] (fun j => [(6, .d (.int .i64 i)), (7, .d (.int .i64 j))]) (fun j => []) lp_ ?_ ?_
                        · (repeat' (conv => whnf) <;> first | exact True.intro | (with_reducible show (_ → _) ∧ (_ → _); refine if_ ?_ ?_ <;> intro h <;> first | exact h.elim | (exfalso; omega) | skip) | (show _ ∧ _; refine an_ ?_) | (show ∃ _, _ ∧ _; refine ex_ ?_) | (show ∃ _ _, _ ∧ _; refine ex2_ ?_) | (show Ar.int _ _ _ _ _; refine ar_ ?_) | (show wrapK _ _ _; refine wk_ ?_) | exact fin_ | fail)
                        · rintro j ⟨hjn, hB1⟩
                          by_cases hlt3 : j < x.c.n.toNat
                          · have ht : Can P N.spec_l01Times [algD x.c, vecD (basV i), vecD (basV j)] (.val (vecD (x.c.T i j))) := by
                              have := hT (a := x.c) okc.b (basV_byt i) (basV_byt j) (by omega) (by omega)
                              rwa [show timesV x.c (basV i) (basV j) = x.c.T i j from funext fun k => bas_times okc (by omega) (by omega) k] at this
                            have hz := hZ (x := x) (v := x.c.T i j) (by omega) (by omega) hzp (okc.b.1 i j)
                            have ht2 := hT (a := x.o) oko.b (hzp i) (hzp j) (by omega) (by omega)
                            (repeat' (conv => whnf) <;> first | exact True.intro | (with_reducible show (_ → _) ∧ (_ → _); refine if_ ?_ ?_ <;> intro h <;> first | exact h.elim | (exfalso; omega) | skip) | (show _ ∧ _; refine an_ ?_ (by first | exact ⟨conf_vec _, conf_vec _⟩ | exact sd_)) | (show ∃ _, _ ∧ _; refine ex_ ?_ (by first | with_reducible exact rfl | exact hx.all | exact hB (by omega) | exact ht | exact hz | exact hx.zv (by omega) | exact ht2 | exact eq_vec | exact rd_)) | (show ∃ _ _, _ ∧ _; refine ex2_ ?_ (by first | with_reducible exact rfl | exact hx.all | exact hB (by omega) | exact ht | exact hz | exact hx.zv (by omega) | exact ht2 | exact eq_vec | exact rd_)) | (show Ar.int _ _ _ _ _; refine ar_ ?_) | (show wrapK _ _ _; refine wk_ ?_) | exact fin_ | fail)
                            · conv => whnf
                              exact no (fun h => absurd ((h.2.2.1 i (by omega)).1 j (by omega)) ‹_›)
                            · conv => whnf
                              have hq : VEq (zipN x.o.p x.z (x.c.T i j) x.c.n.toNat) (timesV x.o (x.z i) (x.z j)) := by assumption
                              refine ⟨j + 1, ⟨by omega, all_succ hB1 hq⟩, by omega, ?_⟩
                              (repeat' (conv => whnf) <;> first | exact True.intro | (with_reducible show (_ → _) ∧ (_ → _); refine if_ ?_ ?_ <;> intro h <;> first | exact h.elim | (exfalso; omega) | skip) | (show _ ∧ _; refine an_ ?_) | (show ∃ _, _ ∧ _; refine ex_ ?_) | (show ∃ _ _, _ ∧ _; refine ex2_ ?_) | (show Ar.int _ _ _ _ _; refine ar_ ?_) | (show wrapK _ _ _; refine wk_ ?_) | exact fin_ | fail)
                          · have hB2 : ∀ j : Nat, (j : Int) < x.c.n → VEq (zipN x.o.p x.z (x.c.T i j) x.c.n.toNat) (timesV x.o (x.z i) (x.z j)) := fun j' h => hB1 j' (by omega)
                            (repeat' (conv => whnf) <;> first | exact True.intro | (with_reducible show (_ → _) ∧ (_ → _); refine if_ ?_ ?_ <;> intro h <;> first | exact h.elim | (exfalso; omega) | skip) | (show _ ∧ _; refine an_ ?_) | (show ∃ _, _ ∧ _; refine ex_ ?_) | (show ∃ _ _, _ ∧ _; refine ex2_ ?_) | (show Ar.int _ _ _ _ _; refine ar_ ?_) | (show wrapK _ _ _; refine wk_ ?_) | exact fin_ | fail)
                            conv => whnf
                            refine vc_loop (α := Nat) 0 (fun j => x.o.n.toNat - j) (fun j => j ≤ x.o.n.toNat ∧ ∀ j' : Nat, j' < j → VEq (timesV x.o (x.z i) (basV j')) (timesV x.o (basV j') (x.z i))) [] (fun j => [(6, .d (.int .i64 i)), (8, .d (.int .i64 j))]) (fun j => []) lp_ ?_ ?_
                            · (repeat' (conv => whnf) <;> first | exact True.intro | (with_reducible show (_ → _) ∧ (_ → _); refine if_ ?_ ?_ <;> intro h <;> first | exact h.elim | (exfalso; omega) | skip) | (show _ ∧ _; refine an_ ?_) | (show ∃ _, _ ∧ _; refine ex_ ?_) | (show ∃ _ _, _ ∧ _; refine ex2_ ?_) | (show Ar.int _ _ _ _ _; refine ar_ ?_) | (show wrapK _ _ _; refine wk_ ?_) | exact fin_ | fail)
                            · rintro j ⟨hjn2, hB3⟩
                              by_cases hlt4 : j < x.o.n.toNat
                              · have ht1 := hT (a := x.o) oko.b (hzp i) (basV_byt j) (by omega) (by omega)
                                have ht2 := hT (a := x.o) oko.b (basV_byt j) (hzp i) (by omega) (by omega)
                                (repeat' (conv => whnf) <;> first | exact True.intro | (with_reducible show (_ → _) ∧ (_ → _); refine if_ ?_ ?_ <;> intro h <;> first | exact h.elim | (exfalso; omega) | skip) | (show _ ∧ _; refine an_ ?_ (by first | exact ⟨conf_vec _, conf_vec _⟩ | exact sd_)) | (show ∃ _, _ ∧ _; refine ex_ ?_ (by first | with_reducible exact rfl | exact hB (by omega) | exact hx.zv (by omega) | exact ht1 | exact ht2 | exact eq_vec | exact rd_)) | (show ∃ _ _, _ ∧ _; refine ex2_ ?_ (by first | with_reducible exact rfl | exact hB (by omega) | exact hx.zv (by omega) | exact ht1 | exact ht2 | exact eq_vec | exact rd_)) | (show Ar.int _ _ _ _ _; refine ar_ ?_) | (show wrapK _ _ _; refine wk_ ?_) | exact fin_ | fail)
                                · conv => whnf
                                  exact no (fun h => absurd ((h.2.2.1 i (by omega)).2 j (by omega)) ‹_›)
                                · conv => whnf
                                  have hq : VEq (timesV x.o (x.z i) (basV j)) (timesV x.o (basV j) (x.z i)) := by assumption
                                  refine ⟨j + 1, ⟨by omega, all_succ hB3 hq⟩, by omega, ?_⟩
                                  (repeat' (conv => whnf) <;> first | exact True.intro | (with_reducible show (_ → _) ∧ (_ → _); refine if_ ?_ ?_ <;> intro h <;> first | exact h.elim | (exfalso; omega) | skip) | (show _ ∧ _; refine an_ ?_) | (show ∃ _, _ ∧ _; refine ex_ ?_) | (show ∃ _ _, _ ∧ _; refine ex2_ ?_) | (show Ar.int _ _ _ _ _; refine ar_ ?_) | (show wrapK _ _ _; refine wk_ ?_) | exact fin_ | fail)
                              · have hzb : sZipB x i := ⟨hB2, fun j' h => hB3 j' (by omega)⟩
                                (repeat' (conv => whnf) <;> first | exact True.intro | (with_reducible show (_ → _) ∧ (_ → _); refine if_ ?_ ?_ <;> intro h <;> first | exact h.elim | (exfalso; omega) | skip) | (show _ ∧ _; refine an_ ?_) | (show ∃ _, _ ∧ _; refine ex_ ?_) | (show ∃ _ _, _ ∧ _; refine ex2_ ?_) | (show Ar.int _ _ _ _ _; refine ar_ ?_) | (show wrapK _ _ _; refine wk_ ?_) | exact fin_ | fail)
                                conv => whnf
                                refine ⟨i + 1, ⟨by omega, all_succ hallB hzb⟩, by omega, ?_⟩
                                (repeat' (conv => whnf) <;> first | exact True.intro | (with_reducible show (_ → _) ∧ (_ → _); refine if_ ?_ ?_ <;> intro h <;> first | exact h.elim | (exfalso; omega) | skip) | (show _ ∧ _; refine an_ ?_) | (show ∃ _, _ ∧ _; refine ex_ ?_) | (show ∃ _ _, _ ∧ _; refine ex2_ ?_) | (show Ar.int _ _ _ _ _; refine ar_ ?_) | (show wrapK _ _ _; refine wk_ ?_) | exact fin_ | fail)
                      · have hB4 : ∀ i : Nat, (i : Int) < x.c.n → sZipB x i := fun i' h => hallB i' (by omega)
                        have hz := hZ (x := x) (v := sUnit x.c) (by omega) (by omega) hzp uc
                        by_cases s5 : VEq (zipN x.o.p x.z (sUnit x.c) x.c.n.toNat) (sUnit x.o)
                        · (repeat' (conv => whnf) <;> first | exact True.intro | (with_reducible show (_ → _) ∧ (_ → _); refine if_ ?_ ?_ <;> intro h <;> first | exact h.elim | (exfalso; omega) | skip) | (show _ ∧ _; refine an_ ?_ (by first | exact ⟨conf_vec _, conf_vec _⟩ | exact sd_)) | (show ∃ _, _ ∧ _; refine ex_ ?_ (by first | with_reducible exact rfl | exact hx.all | exact hUc | exact hUo | exact hz | exact eq_t s5 | exact rd_)) | (show ∃ _ _, _ ∧ _; refine ex2_ ?_ (by first | with_reducible exact rfl | exact hx.all | exact hUc | exact hUo | exact hz | exact eq_t s5 | exact rd_)) | (show Ar.int _ _ _ _ _; refine ar_ ?_) | (show wrapK _ _ _; refine wk_ ?_) | exact fin_ | fail)
                          all_goals (conv => whnf)
                          all_goals exact yes ⟨ha, hall6, hB4, s5⟩
                        · (repeat' (conv => whnf) <;> first | exact True.intro | (with_reducible show (_ → _) ∧ (_ → _); refine if_ ?_ ?_ <;> intro h <;> first | exact h.elim | (exfalso; omega) | skip) | (show _ ∧ _; refine an_ ?_ (by first | exact ⟨conf_vec _, conf_vec _⟩ | exact sd_)) | (show ∃ _, _ ∧ _; refine ex_ ?_ (by first | with_reducible exact rfl | exact hx.all | exact hUc | exact hUo | exact hz | exact eq_f s5 | exact rd_)) | (show ∃ _ _, _ ∧ _; refine ex2_ ?_ (by first | with_reducible exact rfl | exact hx.all | exact hUc | exact hUo | exact hz | exact eq_f s5 | exact rd_)) | (show Ar.int _ _ _ _ _; refine ar_ ?_) | (show wrapK _ _ _; refine wk_ ?_) | exact fin_ | fail)
                          all_goals (conv => whnf)
                          all_goals exact no (fun h => s5 h.2.2.2)
              · have g7' := can_f hSo g7
                (repeat' (conv => whnf) <;> first | exact True.intro | (with_reducible show (_ → _) ∧ (_ → _); refine if_ ?_ ?_ <;> intro h <;> first | exact h.elim | (exfalso; omega) | skip) | (show _ ∧ _; refine an_ ?_) | (show ∃ _, _ ∧ _; refine ex_ ?_ (by first | with_reducible exact rfl | exact g1' | exact g2' | exact g4' | exact g5' | exact g6' | exact g7' | exact rd_)) | (show ∃ _ _, _ ∧ _; refine ex2_ ?_ (by first | with_reducible exact rfl | exact g1' | exact g2' | exact g4' | exact g5' | exact g6' | exact g7' | exact rd_)) | (show Ar.int _ _ _ _ _; refine ar_ ?_) | (show wrapK _ _ _; refine wk_ ?_) | exact fin_ | fail)
                all_goals (conv => whnf)
                all_goals exact no (fun h => g7 h.1.2.2.2.2.2.2)
            · have g6' := can_df hFo g6
              (repeat' (conv => whnf) <;> first | exact True.intro | (with_reducible show (_ → _) ∧ (_ → _); refine if_ ?_ ?_ <;> intro h <;> first | exact h.elim | (exfalso; omega) | skip) | (show _ ∧ _; refine an_ ?_) | (show ∃ _, _ ∧ _; refine ex_ ?_ (by first | with_reducible exact rfl | exact g1' | exact g2' | exact g4' | exact g5' | exact g6' | exact rd_)) | (show ∃ _ _, _ ∧ _; refine ex2_ ?_ (by first | with_reducible exact rfl | exact g1' | exact g2' | exact g4' | exact g5' | exact g6' | exact rd_)) | (show Ar.int _ _ _ _ _; refine ar_ ?_) | (show wrapK _ _ _; refine wk_ ?_) | exact fin_ | fail)
              all_goals (conv => whnf)
              all_goals exact no (fun h => g6 h.1.2.2.2.2.2.1)
          · have g5' := can_df hFc g5
            (repeat' (conv => whnf) <;> first | exact True.intro | (with_reducible show (_ → _) ∧ (_ → _); refine if_ ?_ ?_ <;> intro h <;> first | exact h.elim | (exfalso; omega) | skip) | (show _ ∧ _; refine an_ ?_) | (show ∃ _, _ ∧ _; refine ex_ ?_ (by first | with_reducible exact rfl | exact g1' | exact g2' | exact g4' | exact g5' | exact rd_)) | (show ∃ _ _, _ ∧ _; refine ex2_ ?_ (by first | with_reducible exact rfl | exact g1' | exact g2' | exact g4' | exact g5' | exact rd_)) | (show Ar.int _ _ _ _ _; refine ar_ ?_) | (show wrapK _ _ _; refine wk_ ?_) | exact fin_ | fail)
            all_goals (conv => whnf)
            all_goals exact no (fun h => g5 h.1.2.2.2.2.1)
        · have g4' := can_f hCc g4
          (repeat' (conv => whnf) <;> first | exact True.intro | (with_reducible show (_ → _) ∧ (_ → _); refine if_ ?_ ?_ <;> intro h <;> first | exact h.elim | (exfalso; omega) | skip) | (show _ ∧ _; refine an_ ?_) | (show ∃ _, _ ∧ _; refine ex_ ?_ (by first | with_reducible exact rfl | exact g1' | exact g2' | exact g4' | exact rd_)) | (show ∃ _ _, _ ∧ _; refine ex2_ ?_ (by first | with_reducible exact rfl | exact g1' | exact g2' | exact g4' | exact rd_)) | (show Ar.int _ _ _ _ _; refine ar_ ?_) | (show wrapK _ _ _; refine wk_ ?_) | exact fin_ | fail)
          all_goals (conv => whnf)
          all_goals exact no (fun h => g4 h.1.2.2.2.1)
      · (repeat' (conv => whnf) <;> first | exact True.intro | (with_reducible show (_ → _) ∧ (_ → _); refine if_ ?_ ?_ <;> intro h <;> first | exact h.elim | (exfalso; omega) | skip) | (show _ ∧ _; refine an_ ?_) | (show ∃ _, _ ∧ _; refine ex_ ?_ (by first | with_reducible exact rfl | exact g1' | exact g2' | exact rd_)) | (show ∃ _ _, _ ∧ _; refine ex2_ ?_ (by first | with_reducible exact rfl | exact g1' | exact g2' | exact rd_)) | (show Ar.int _ _ _ _ _; refine ar_ ?_) | (show wrapK _ _ _; refine wk_ ?_) | exact fin_ | fail)
        all_goals (conv => whnf)
        all_goals first | exact no (fun h => g3 h.1.2.2.1) | exact absurd ‹_› g3
    · have g2' := can_f hAo g2
      (repeat' (conv => whnf) <;> first | exact True.intro | (with_reducible show (_ → _) ∧ (_ → _); refine if_ ?_ ?_ <;> intro h <;> first | exact h.elim | (exfalso; omega) | skip) | (show _ ∧ _; refine an_ ?_) | (show ∃ _, _ ∧ _; refine ex_ ?_ (by first | with_reducible exact rfl | exact g1' | exact g2' | exact rd_)) | (show ∃ _ _, _ ∧ _; refine ex2_ ?_ (by first | with_reducible exact rfl | exact g1' | exact g2' | exact rd_)) | (show Ar.int _ _ _ _ _; refine ar_ ?_) | (show wrapK _ _ _; refine wk_ ?_) | exact fin_ | fail)
      all_goals (conv => whnf)
      all_goals exact no (fun h => g2 h.1.2.1)
  · have g1' := can_f hAc g1
    (repeat' (conv => whnf) <;> first | exact True.intro | (with_reducible show (_ → _) ∧ (_ → _); refine if_ ?_ ?_ <;> intro h <;> first | exact h.elim | (exfalso; omega) | skip) | (show _ ∧ _; refine an_ ?_) | (show ∃ _, _ ∧ _; refine ex_ ?_ (by first | with_reducible exact rfl | exact g1' | exact rd_)) | (show ∃ _ _, _ ∧ _; refine ex2_ ?_ (by first | with_reducible exact rfl | exact g1' | exact rd_)) | (show Ar.int _ _ _ _ _; refine ar_ ?_) | (show wrapK _ _ _; refine wk_ ?_) | exact fin_ | fail)
    all_goals (conv => whnf)
    all_goals exact no (fun h => g1 h.1.1)
end Go.X
