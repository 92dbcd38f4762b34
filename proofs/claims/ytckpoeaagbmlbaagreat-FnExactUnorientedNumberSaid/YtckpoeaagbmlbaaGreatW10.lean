import Derived.Test.YtckpoeaagbmlbaaGreatK5
set_option linter.all false
namespace Go.X
open Go Go.RowKit
set_option maxRecDepth 100000
set_option maxHeartbeats 8000000
variable {P : Program} {N : FN}
theorem c_starredN (hA : C_add P N) (hf : isFn P N.impl_Algebra_starred (ir_impl_Algebra_starred N) = true) : C_starredN P N := by
  intro sz l e off a m z v hat hp hm hz hv
  have hl : (arr m fun i => vecL (z i)).length = m := arr_len ..
  refine can_of hf rfl rfl ?_
  (repeat' (conv => whnf) <;> first | exact True.intro | (refine if_ ?_ ?_ <;> intro h <;> first | exact h.elim | (exfalso; omega) | skip) | refine vs_ ?_ | refine dv_ ?_ | exact fin_ | (show ∃ _, _ ∧ _; refine ex_ ?_) | (show ∃ _ _, _ ∧ _; refine ex2_ ?_) | fail)
  conv => whnf
  refine vc_loop (α := Nat) 0 (fun i => m - i) (fun i => i ≤ m) [] (fun i => [(5, .ptr 6 6 0 0), (7, .ptr 8 6 0 0), (11, .d (vsD m z)), (12, .d (.int .i64 m)), (13, .d (.int .i64 i))]) (fun i => [(6, .data 6 [vecL v]), (8, .data 6 [vecL (zipN a.p z v i)])]) lp_ ?_ ?_
  · rw [hl]
    (repeat' (conv => whnf) <;> first | exact True.intro | (refine if_ ?_ ?_ <;> intro h <;> first | exact h.elim | (exfalso; omega) | skip) | refine vs_ ?_ (by first | exact zeros6 (fun i _ => rfl) | exact sd_) | refine dv_ ?_ | exact fin_ | (show ∃ _, _ ∧ _; refine ex_ ?_) | (show ∃ _ _, _ ∧ _; refine ex2_ ?_) | fail)
  · intro i hi
    have h1 := hv i
    have h2 := (zipN_rw (p := a.p) (z := z) (v := v) hp.1 i).byt hp.2
    by_cases hlt : i < m
    · (repeat' (conv => whnf) <;> first | exact True.intro | (refine if_ ?_ ?_ <;> intro h <;> first | exact h.elim | (exfalso; omega) | skip) | refine vs_ ?_ | refine dv_ ?_ | exact fin_ | (show ∃ _, _ ∧ _; refine ex_ ?_ (by first | with_reducible exact rfl | with_reducible exact rd_vecs hlt | exact hA hat h2 (hz i) hp (by omega) | exact rd_)) | (show ∃ _ _, _ ∧ _; refine ex2_ ?_ (by first | with_reducible exact rfl | with_reducible exact rd_vecs hlt | exact hA hat h2 (hz i) hp (by omega) | exact rd_)) | fail)
      conv => whnf
      refine ⟨i + 1, by omega, by omega, ?_⟩
      (repeat' (conv => whnf) <;> first | exact True.intro | (refine if_ ?_ ?_ <;> intro h <;> first | exact h.elim | (exfalso; omega) | skip) | refine vs_ ?_ (by first | exact st_all | exact sd_) | refine dv_ ?_ | exact fin_ | (show ∃ _, _ ∧ _; refine ex_ ?_) | (show ∃ _ _, _ ∧ _; refine ex2_ ?_) | fail)
    · have : i = m := by omega
      rw [this]
      (repeat' (conv => whnf) <;> first | exact True.intro | (refine if_ ?_ ?_ <;> intro h <;> first | exact h.elim | (exfalso; omega) | skip) | refine vs_ ?_ | refine dv_ ?_ | exact fin_ | (show ∃ _, _ ∧ _; refine ex_ ?_) | (show ∃ _ _, _ ∧ _; refine ex2_ ?_) | fail)
theorem c_isStar (hS : C_starredN P N) (hB : C_basis P N) (hF : C_form P N) (hT : C_times P N) (hf : isFn P N.impl_Algebra_isStar (ir_impl_Algebra_isStar N) = true) : C_isStar P N := by
  intro sz l e off a s hat ha hs
  have hn := ha.n
  have hp2 := prime_bd ha.p
  obtain ⟨n, hnn⟩ : ∃ n, n = a.n.toNat := ⟨_, rfl⟩
  have hl : (arr n fun i => vecL (s i)).length = n := arr_len ..
  have hn6 : n ≤ 6 := by omega
  unfold iStarP iStar1 iStar2
  rw [← hnn]
  have hS' : ∀ v, Byts v → Can P N.impl_Algebra_starred [.pd sz l e off, vsD n s, vecD v] (.val (vecD (zipN a.p s v n))) := fun v hv => hS hat (by omega) hn6 hs hv
  refine can_of hf rfl rfl ?_
  (repeat' (conv => whnf) <;> first | exact True.intro | (refine if_ ?_ ?_ <;> intro h <;> first | exact h.elim | (exfalso; omega) | skip) | refine vs_ ?_ | refine dv_ ?_ | exact fin_ | (show ∃ _, _ ∧ _; refine ex_ ?_) | (show ∃ _ _, _ ∧ _; refine ex2_ ?_) | fail)
  conv => whnf
  refine vc_loop (α := Nat) 0 (fun i => n - i) (fun i => i ≤ n ∧ ∀ q, q < i → (VEq (zipN a.p s (s q) n) (basV q) ∧ formV a (s q) = a.f q) ∧ ∀ j, j < n → VEq (zipN a.p s (a.T q j) n) (timesV a (s j) (s q))) [] (fun i => [(9, .d (vsD n s)), (10, .d (.int .i64 n)), (11, .d (.int .i64 i))]) (fun i => []) lp_ ?_ ?_
  · rw [hl]
    (repeat' (conv => whnf) <;> first | exact True.intro | (refine if_ ?_ ?_ <;> intro h <;> first | exact h.elim | (exfalso; omega) | skip) | refine vs_ ?_ | refine dv_ ?_ | exact fin_ | (show ∃ _, _ ∧ _; refine ex_ ?_) | (show ∃ _ _, _ ∧ _; refine ex2_ ?_) | fail)
  · rintro i ⟨hi, hall⟩
    by_cases hlt : i < n
    · have hF' := hF (sz := sz) hat ha.b (hs i) (by omega)
      have hfi := ha.b.2 i
      have hSi := hS' (s i) (hs i)
      by_cases c1 : VEq (zipN a.p s (s i) n) (basV i)
      · by_cases c2 : formV a (s i) = a.f i
        · (repeat' (conv => whnf) <;> first | exact True.intro | (refine if_ ?_ ?_ <;> intro h <;> first | exact h.elim | (exfalso; omega) | skip) | refine vs_ ?_ (by first | exact ⟨conf_vec _, conf_vec _⟩ | exact sd_) | refine dv_ ?_ | exact fin_ | (show ∃ _, _ ∧ _; refine ex_ ?_ (by first | with_reducible exact rfl | with_reducible exact rd_vecs (by omega) | exact hSi | exact hB (by omega) | exact hF' | with_reducible exact rd_st6 | exact eq_t c1 | exact rd_)) | (show ∃ _ _, _ ∧ _; refine ex2_ ?_ (by first | with_reducible exact rfl | with_reducible exact rd_vecs (by omega) | exact hSi | exact hB (by omega) | exact hF' | with_reducible exact rd_st6 | exact eq_t c1 | exact rd_)) | fail)
          conv => whnf
          refine vc_loop (α := Nat) 0 (fun j => n - j) (fun j => j ≤ n ∧ ∀ q, q < j → VEq (zipN a.p s (a.T i q) n) (timesV a (s q) (s i))) [] (fun j => [(5, .d (.int .i64 i)), (9, .d (vsD n s)), (10, .d (.int .i64 n)), (11, .d (.int .i64 i)), (36, .d (vsD n s)), (37, .d (.int .i64 n)), (38, .d (.int .i64 j))]) (fun j => [(7, .data 6 [vecL (s i)])]) lp_ ?_ ?_
          · rw [hl]
            (repeat' (conv => whnf) <;> first | exact True.intro | (refine if_ ?_ ?_ <;> intro h <;> first | exact h.elim | (exfalso; omega) | skip) | refine vs_ ?_ (by first | exact st_all (f := Z) | exact sd_) | refine dv_ ?_ | exact fin_ | (show ∃ _, _ ∧ _; refine ex_ ?_) | (show ∃ _ _, _ ∧ _; refine ex2_ ?_) | fail)
          · rintro j ⟨hj, hall2⟩
            have hSj := hS' (a.T i j) (ha.b.1 i j)
            have hTj := hT (sz := sz) hat ha.b (hs j) (hs i) (by omega) (by omega)
            by_cases hlt2 : j < n
            · by_cases c3 : VEq (zipN a.p s (a.T i j) n) (timesV a (s j) (s i))
              · (repeat' (conv => whnf) <;> first | exact True.intro | (refine if_ ?_ ?_ <;> intro h <;> first | exact h.elim | (exfalso; omega) | skip) | refine vs_ ?_ (by first | exact ⟨conf_vec _, conf_vec _⟩ | exact sd_) | refine dv_ ?_ | exact fin_ | (show ∃ _, _ ∧ _; refine ex_ ?_ (by first | with_reducible exact rfl | with_reducible exact rd_vecs (by omega) | exact hSj | exact hTj | with_reducible exact rd_st6 | exact eq_t c3 | exact rd_)) | (show ∃ _ _, _ ∧ _; refine ex2_ ?_ (by first | with_reducible exact rfl | with_reducible exact rd_vecs (by omega) | exact hSj | exact hTj | with_reducible exact rd_st6 | exact eq_t c3 | exact rd_)) | fail)
                all_goals (conv => whnf)
                all_goals (refine ⟨j + 1, ⟨by omega, all_succ hall2 c3⟩, by omega, ?_⟩; (repeat' (conv => whnf) <;> first | exact True.intro | (refine if_ ?_ ?_ <;> intro h <;> first | exact h.elim | (exfalso; omega) | skip) | refine vs_ ?_ | refine dv_ ?_ | exact fin_ | (show ∃ _, _ ∧ _; refine ex_ ?_) | (show ∃ _ _, _ ∧ _; refine ex2_ ?_) | fail))
              · rw [dB_f (fun h => c3 ((h i hlt).2 j hlt2))]
                (repeat' (conv => whnf) <;> first | exact True.intro | (refine if_ ?_ ?_ <;> intro h <;> first | exact h.elim | (exfalso; omega) | skip) | refine vs_ ?_ (by first | exact ⟨conf_vec _, conf_vec _⟩ | exact sd_) | refine dv_ ?_ | exact fin_ | (show ∃ _, _ ∧ _; refine ex_ ?_ (by first | with_reducible exact rfl | with_reducible exact rd_vecs (by omega) | exact hSj | exact hTj | with_reducible exact rd_st6 | exact eq_f c3 | exact rd_)) | (show ∃ _ _, _ ∧ _; refine ex2_ ?_ (by first | with_reducible exact rfl | with_reducible exact rd_vecs (by omega) | exact hSj | exact hTj | with_reducible exact rd_st6 | exact eq_f c3 | exact rd_)) | fail)
            · (repeat' (conv => whnf) <;> first | exact True.intro | (refine if_ ?_ ?_ <;> intro h <;> first | exact h.elim | (exfalso; omega) | skip) | refine vs_ ?_ | refine dv_ ?_ | exact fin_ | (show ∃ _, _ ∧ _; refine ex_ ?_) | (show ∃ _ _, _ ∧ _; refine ex2_ ?_) | fail)
              conv => whnf
              refine ⟨i + 1, ⟨by omega, all_succ hall ⟨⟨c1, c2⟩, fun q hq => hall2 q (by omega)⟩⟩, by omega, ?_⟩
              (repeat' (conv => whnf) <;> first | exact True.intro | (refine if_ ?_ ?_ <;> intro h <;> first | exact h.elim | (exfalso; omega) | skip) | refine vs_ ?_ | refine dv_ ?_ | exact fin_ | (show ∃ _, _ ∧ _; refine ex_ ?_) | (show ∃ _ _, _ ∧ _; refine ex2_ ?_) | fail)
        · rw [dB_f (fun h => c2 (h i hlt).1.2)]
          (repeat' (conv => whnf) <;> first | exact True.intro | (refine if_ ?_ ?_ <;> intro h <;> first | exact h.elim | (exfalso; omega) | skip) | refine vs_ ?_ (by first | exact ⟨conf_vec _, conf_vec _⟩ | exact sd_) | refine dv_ ?_ | exact fin_ | (show ∃ _, _ ∧ _; refine ex_ ?_ (by first | with_reducible exact rfl | with_reducible exact rd_vecs (by omega) | exact hSi | exact hB (by omega) | exact hF' | with_reducible exact rd_st6 | exact eq_t c1 | exact rd_)) | (show ∃ _ _, _ ∧ _; refine ex2_ ?_ (by first | with_reducible exact rfl | with_reducible exact rd_vecs (by omega) | exact hSi | exact hB (by omega) | exact hF' | with_reducible exact rd_st6 | exact eq_t c1 | exact rd_)) | fail)
      · rw [dB_f (fun h => c1 (h i hlt).1.1)]
        (repeat' (conv => whnf) <;> first | exact True.intro | (refine if_ ?_ ?_ <;> intro h <;> first | exact h.elim | (exfalso; omega) | skip) | refine vs_ ?_ (by first | exact ⟨conf_vec _, conf_vec _⟩ | exact sd_) | refine dv_ ?_ | exact fin_ | (show ∃ _, _ ∧ _; refine ex_ ?_ (by first | with_reducible exact rfl | with_reducible exact rd_vecs (by omega) | exact hSi | exact hB (by omega) | exact hF' | with_reducible exact rd_st6 | exact eq_f c1 | exact rd_)) | (show ∃ _ _, _ ∧ _; refine ex2_ ?_ (by first | with_reducible exact rfl | with_reducible exact rd_vecs (by omega) | exact hSi | exact hB (by omega) | exact hF' | with_reducible exact rd_st6 | exact eq_f c1 | exact rd_)) | fail)
    · rw [dB_t (fun q hq => hall q (by omega))]
      (repeat' (conv => whnf) <;> first | exact True.intro | (refine if_ ?_ ?_ <;> intro h <;> first | exact h.elim | (exfalso; omega) | skip) | refine vs_ ?_ | refine dv_ ?_ | exact fin_ | (show ∃ _, _ ∧ _; refine ex_ ?_) | (show ∃ _ _, _ ∧ _; refine ex2_ ?_) | fail)
theorem c_stars (hL : C_listed P N) (hC : C_commutative P N) (hF : C_frobenius P N) (hS : C_isStar P N) (hf : isFn P N.impl_stars (ir_impl_stars N) = true) : C_stars P N := by
  intro a m q s t hi hm hq hs ht
  have hat := algAt_one a
  have hal := hat.all
  have hL' := hL (s := s) (t := t) hi hm hq hs ht
  refine can_of hf rfl rfl ?_
  by_cases g1 : IsAlgP a ∧ AllSm a q t
  · have ha := hi.alg g1.1
    rw [dB_t g1] at hL' ⊢
    by_cases g2 : m = a.n.toNat ∧ AllSm a m s
    · rw [dB_t g2] at hL' ⊢
      change Can P _ _ (.val (.int .i64 0)) at hL'
      obtain ⟨rfl, g2⟩ := g2
      have hC' := hC (sz := (algL a).length) hat ha.n
      have hF' := hF (sz := (algL a).length) hat ha
      have hS' := hS (sz := (algL a).length) hat ha hs
      by_cases c1 : CommP a
      · by_cases c2 : FrobP a
        · have hC2 := can_t hC' c1
          have hF2 := can_dt hF' c2
          by_cases c3 : iStarP a s
          · rw [dB_t ⟨c1, c2, c3⟩]
            rw [dB_t c3] at hS'
            (repeat' (conv => whnf) <;> first | exact True.intro | (refine if_ ?_ ?_ <;> intro h <;> first | exact h.elim | (exfalso; omega) | skip) | refine vs_ ?_ | refine dv_ ?_ | exact fin_ | (show ∃ _, _ ∧ _; refine ex_ ?_ (by first | with_reducible exact rfl | with_reducible exact hal | exact hL' | exact hC2 | exact hF2 | exact hS' | exact rd_)) | (show ∃ _ _, _ ∧ _; refine ex2_ ?_ (by first | with_reducible exact rfl | with_reducible exact hal | exact hL' | exact hC2 | exact hF2 | exact hS' | exact rd_)) | fail)
          · rw [dB_f (fun h => c3 h.2.2)]
            rw [dB_f c3] at hS'
            (repeat' (conv => whnf) <;> first | exact True.intro | (refine if_ ?_ ?_ <;> intro h <;> first | exact h.elim | (exfalso; omega) | skip) | refine vs_ ?_ | refine dv_ ?_ | exact fin_ | (show ∃ _, _ ∧ _; refine ex_ ?_ (by first | with_reducible exact rfl | with_reducible exact hal | exact hL' | exact hC2 | exact hF2 | exact hS' | exact rd_)) | (show ∃ _ _, _ ∧ _; refine ex2_ ?_ (by first | with_reducible exact rfl | with_reducible exact hal | exact hL' | exact hC2 | exact hF2 | exact hS' | exact rd_)) | fail)
        · have hC2 := can_t hC' c1
          have hF2 := can_df hF' c2
          rw [dB_f (fun h => c2 h.2.1)]
          (repeat' (conv => whnf) <;> first | exact True.intro | (refine if_ ?_ ?_ <;> intro h <;> first | exact h.elim | (exfalso; omega) | skip) | refine vs_ ?_ | refine dv_ ?_ | exact fin_ | (show ∃ _, _ ∧ _; refine ex_ ?_ (by first | with_reducible exact rfl | with_reducible exact hal | exact hL' | exact hC2 | exact hF2 | exact rd_)) | (show ∃ _ _, _ ∧ _; refine ex2_ ?_ (by first | with_reducible exact rfl | with_reducible exact hal | exact hL' | exact hC2 | exact hF2 | exact rd_)) | fail)
      · have hC2 := can_f hC' c1
        rw [dB_f (fun h => c1 h.1)]
        (repeat' (conv => whnf) <;> first | exact True.intro | (refine if_ ?_ ?_ <;> intro h <;> first | exact h.elim | (exfalso; omega) | skip) | refine vs_ ?_ | refine dv_ ?_ | exact fin_ | (show ∃ _, _ ∧ _; refine ex_ ?_ (by first | with_reducible exact rfl | with_reducible exact hal | exact hL' | exact hC2 | exact rd_)) | (show ∃ _ _, _ ∧ _; refine ex2_ ?_ (by first | with_reducible exact rfl | with_reducible exact hal | exact hL' | exact hC2 | exact rd_)) | fail)
    · rw [dB_f g2] at hL' ⊢
      change Can P _ _ (.val (.int .i64 2)) at hL'
      (repeat' (conv => whnf) <;> first | exact True.intro | (refine if_ ?_ ?_ <;> intro h <;> first | exact h.elim | (exfalso; omega) | skip) | refine vs_ ?_ | refine dv_ ?_ | exact fin_ | (show ∃ _, _ ∧ _; refine ex_ ?_ (by first | with_reducible exact rfl | with_reducible exact hal | exact hL' | exact rd_)) | (show ∃ _ _, _ ∧ _; refine ex2_ ?_ (by first | with_reducible exact rfl | with_reducible exact hal | exact hL' | exact rd_)) | fail)
  · rw [dB_f g1] at hL' ⊢
    change Can P _ _ (.val (.int .i64 1)) at hL'
    (repeat' (conv => whnf) <;> first | exact True.intro | (refine if_ ?_ ?_ <;> intro h <;> first | exact h.elim | (exfalso; omega) | skip) | refine vs_ ?_ | refine dv_ ?_ | exact fin_ | (show ∃ _, _ ∧ _; refine ex_ ?_ (by first | with_reducible exact rfl | with_reducible exact hal | exact hL' | exact rd_)) | (show ∃ _ _, _ ∧ _; refine ex2_ ?_ (by first | with_reducible exact rfl | with_reducible exact hal | exact hL' | exact rd_)) | fail)
theorem c_klein1 (hB : C_basis P N) (hT : C_times P N) (hf : isFn P N.impl_Algebra_klein_1 (ir_impl_Algebra_klein_1 N) = true) : C_klein1 P N := by
  intro sz l e off a m s k j hat ha hs hk hj
  have hl : (arr m fun i => vecL (s i)).length = m := arr_len ..
  have hn := ha.n
  have hp2 := prime_bd ha.p
  have hT' := hT (sz := sz) hat ha.b (hs k) (basV_byt j) (by omega) (by omega)
  refine can_of hf rfl rfl ?_
  (repeat' (conv => whnf) <;> first | exact True.intro | (refine if_ ?_ ?_ <;> intro h <;> first | exact h.elim | (exfalso; omega) | skip) | refine vs_ ?_ | refine dv_ ?_ | exact fin_ | (show ∃ _, _ ∧ _; refine ex_ ?_ (by first | with_reducible exact rfl | with_reducible exact rd_vecs (by omega) | exact hB hj | exact hT' | exact rd_)) | (show ∃ _ _, _ ∧ _; refine ex2_ ?_ (by first | with_reducible exact rfl | with_reducible exact rd_vecs (by omega) | exact hB hj | exact hT' | exact rd_)) | fail)
theorem c_klein (hP : C_paired P N) (h1 : C_klein1 P N) (hf : isFn P N.impl_Algebra_klein (ir_impl_Algebra_klein N) = true) : C_klein P N := by
  intro sz l e off a s hat ha hs
  have hn := ha.n
  have hp2 := prime_bd ha.p
  have hlen := iCop_len ha
  have hP' := hP (sz := sz) (g := N.impl_Algebra_klein_1) (c := .pd 1 [[.pd sz l e off]] 0 0) (d := .pd 1 [[vsD a.n.toNat s]] 0 0) (of := kleinO a s) hat ha (fun k j => (times_rw (by omega) _ _).byt (by omega)) (fun k j hk hj => h1 hat ha hs (by omega) (by omega))
  refine can_of hf rfl rfl ?_
  (repeat' (conv => whnf) <;> first | exact True.intro | (refine if_ ?_ ?_ <;> intro h <;> first | exact h.elim | (exfalso; omega) | skip) | refine vs_ ?_ | refine dv_ ?_ | exact fin_ | (show ∃ _, _ ∧ _; refine ex_ ?_ (by first | with_reducible exact rfl | exact hP' | exact rd_)) | (show ∃ _ _, _ ∧ _; refine ex2_ ?_ (by first | with_reducible exact rfl | exact hP' | exact rd_)) | fail)
theorem c_crossCap (hT : C_times P N) (hB : C_basis P N) (hS : C_starredN P N) (hf : isFn P N.impl_Algebra_crossCap (ir_impl_Algebra_crossCap N) = true) : C_crossCap P N := by
  intro sz l e off a s kl t hat ha hs ht
  have hn := ha.n
  have hp2 := prime_bd ha.p
  obtain ⟨n, hnn⟩ : ∃ n, n = a.n.toNat := ⟨_, rfl⟩
  have hl : (arr n fun i => vecL (s i)).length = n := arr_len ..
  have hn6 : n ≤ 6 := by omega
  unfold crossP
  rw [← hnn]
  have hTt := hT (sz := sz) hat ha.b ht ht (by omega) (by omega)
  refine can_of hf rfl rfl ?_
  by_cases c0 : VEq (timesV a t t) kl
  · (repeat' (conv => whnf) <;> first | exact True.intro | (refine if_ ?_ ?_ <;> intro h <;> first | exact h.elim | (exfalso; omega) | skip) | refine vs_ ?_ (by first | exact ⟨conf_vec _, conf_vec _⟩ | exact sd_) | refine dv_ ?_ | exact fin_ | (show ∃ _, _ ∧ _; refine ex_ ?_ (by first | with_reducible exact rfl | exact hTt | exact eq_t c0 | exact rd_)) | (show ∃ _ _, _ ∧ _; refine ex2_ ?_ (by first | with_reducible exact rfl | exact hTt | exact eq_t c0 | exact rd_)) | fail)
    all_goals (conv => whnf)
    refine vc_loop (α := Nat) 0 (fun i => n - i) (fun i => i ≤ n ∧ ∀ q, q < i → VEq (zipN a.p s (timesV a t (basV q)) n) (timesV a t (basV q))) [] (fun i => [(17, .d (vsD n s)), (18, .d (.int .i64 n)), (19, .d (.int .i64 i))]) (fun i => []) lp_ ?_ ?_
    · rw [hl]
      (repeat' (conv => whnf) <;> first | exact True.intro | (refine if_ ?_ ?_ <;> intro h <;> first | exact h.elim | (exfalso; omega) | skip) | refine vs_ ?_ | refine dv_ ?_ | exact fin_ | (show ∃ _, _ ∧ _; refine ex_ ?_) | (show ∃ _ _, _ ∧ _; refine ex2_ ?_) | fail)
    · rintro i ⟨hi, hall⟩
      by_cases hlt : i < n
      · have hTi := hT (sz := sz) hat ha.b ht (basV_byt i) (by omega) (by omega)
        have hSi := hS (sz := sz) hat (by omega) hn6 hs ((times_rw (a := a) (by omega) t (basV i)).byt (by omega))
        by_cases c1 : VEq (zipN a.p s (timesV a t (basV i)) n) (timesV a t (basV i))
        · (repeat' (conv => whnf) <;> first | exact True.intro | (refine if_ ?_ ?_ <;> intro h <;> first | exact h.elim | (exfalso; omega) | skip) | refine vs_ ?_ (by first | exact ⟨conf_vec _, conf_vec _⟩ | exact sd_) | refine dv_ ?_ | exact fin_ | (show ∃ _, _ ∧ _; refine ex_ ?_ (by first | with_reducible exact rfl | exact hB (by omega) | exact hTi | exact hSi | with_reducible exact rd_st6 | exact eq_t c1 | exact rd_)) | (show ∃ _ _, _ ∧ _; refine ex2_ ?_ (by first | with_reducible exact rfl | exact hB (by omega) | exact hTi | exact hSi | with_reducible exact rd_st6 | exact eq_t c1 | exact rd_)) | fail)
          all_goals (conv => whnf)
          all_goals (refine ⟨i + 1, ⟨by omega, all_succ hall c1⟩, by omega, ?_⟩; (repeat' (conv => whnf) <;> first | exact True.intro | (refine if_ ?_ ?_ <;> intro h <;> first | exact h.elim | (exfalso; omega) | skip) | refine vs_ ?_ | refine dv_ ?_ | exact fin_ | (show ∃ _, _ ∧ _; refine ex_ ?_) | (show ∃ _ _, _ ∧ _; refine ex2_ ?_) | fail))
        · rw [dB_f (fun h => c1 (h.2 i hlt))]
          (repeat' (conv => whnf) <;> first | exact True.intro | (refine if_ ?_ ?_ <;> intro h <;> first | exact h.elim | (exfalso; omega) | skip) | refine vs_ ?_ (by first | exact ⟨conf_vec _, conf_vec _⟩ | exact sd_) | refine dv_ ?_ | exact fin_ | (show ∃ _, _ ∧ _; refine ex_ ?_ (by first | with_reducible exact rfl | exact hB (by omega) | exact hTi | exact hSi | with_reducible exact rd_st6 | exact eq_f c1 | exact rd_)) | (show ∃ _ _, _ ∧ _; refine ex2_ ?_ (by first | with_reducible exact rfl | exact hB (by omega) | exact hTi | exact hSi | with_reducible exact rd_st6 | exact eq_f c1 | exact rd_)) | fail)
      · rw [dB_t ⟨c0, fun q hq => hall q (by omega)⟩]
        (repeat' (conv => whnf) <;> first | exact True.intro | (refine if_ ?_ ?_ <;> intro h <;> first | exact h.elim | (exfalso; omega) | skip) | refine vs_ ?_ | refine dv_ ?_ | exact fin_ | (show ∃ _, _ ∧ _; refine ex_ ?_) | (show ∃ _ _, _ ∧ _; refine ex2_ ?_) | fail)
  · rw [dB_f (fun h => c0 h.1)]
    (repeat' (conv => whnf) <;> first | exact True.intro | (refine if_ ?_ ?_ <;> intro h <;> first | exact h.elim | (exfalso; omega) | skip) | refine vs_ ?_ (by first | exact ⟨conf_vec _, conf_vec _⟩ | exact sd_) | refine dv_ ?_ | exact fin_ | (show ∃ _, _ ∧ _; refine ex_ ?_ (by first | with_reducible exact rfl | exact hTt | exact eq_f c0 | exact rd_)) | (show ∃ _ _, _ ∧ _; refine ex2_ ?_ (by first | with_reducible exact rfl | exact hTt | exact eq_f c0 | exact rd_)) | fail)
end Go.X
