import Derived.Test.YtckpoeaagbmlbaaK8
set_option linter.all false
namespace Go.X
open Go Go.RowKit
set_option maxRecDepth 100000
set_option maxHeartbeats 8000000
variable {P : Program} {N : FN}
theorem div_pow' {x p : Int} {q : Nat} (hp : 1 ≤ p) : x / p ^ q / p = x / p ^ (q + 1) := by
  rw [Int.ediv_ediv_of_nonneg (Int.pow_nonneg (by omega)), Int.pow_succ]
theorem dq_0 {p x : Int} {n : Nat} : ∀ i, i < 6 → vecR n (digQ p n x 0) i = 0 := fun i _ => by
  unfold vecR digQ
  split
  · rw [if_neg (by omega)]
  · rfl
theorem dq_s {p x : Int} {n q : Nat} (hq : q < n) : upd (vecR n (digQ p n x q)) (n - 1 - q) (x / p ^ q % p) = vecR n (digQ p n x (q + 1)) := funext fun j => by
  unfold upd vecR digQ digV
  by_cases c : j = n - 1 - q
  · rw [if_pos c, if_pos (by omega), if_pos (by omega), show n - 1 - j = q by omega]
  · rw [if_neg c]
    by_cases g0 : j < n
    · rw [if_pos g0, if_pos g0]
      by_cases g : n - q ≤ j
      · rw [if_pos g, if_pos (by omega)]
      · rw [if_neg g, if_neg (by omega)]
    · rw [if_neg g0, if_neg g0]
theorem dq_st {p x : Int} {n q : Nat} (hq : q < n) : Chunk.data 6 ([vecL (vecR n (digQ p n x q))].set 0 ((vecL (vecR n (digQ p n x q))).set (0 + ((n - 1 - q : Nat) : Int).toNat * 1) (.int .u8 (x / p ^ q % p)))) = Chunk.data 6 [vecL (vecR n (digQ p n x (q + 1)))] := by
  rw [Int.toNat_natCast, Nat.zero_add, Nat.mul_one, List.set_cons_zero, cel_set, dq_s hq]
theorem dq_n {a : Alg} {x : Nat} : vecR a.n.toNat (digQ a.p a.n.toNat x a.n.toNat) = dgv a x := funext fun j => by
  unfold dgv vecR digQ
  split
  · rw [if_pos (by omega)]
  · rfl
theorem c_sCrossCapsOf (hS : C_sStars P N) (hK : C_sKlein P N) (hX : C_sCrossCap P N) (hf : isFn P N.spec_CrossCapsOf (ir_spec_CrossCapsOf N) = true) : C_sCrossCapsOf P N := by
  intro a m s hi hm hs hcol
  have hat := algAt_one a
  have hal := hat.all
  have hS' : Can P N.spec_l08Code [algD a, vsD m s, .emp] (.val (.int .i64 (sCode a m s))) := can_emp2 (hS (q := 0) (t := fun _ => Z) hi hm (by omega) hs (fun _ _ => by show (0 : Int) ≤ 0 ∧ (0 : Int) ≤ 255; omega)) rfl
  unfold capR capL capC
  by_cases g : sCode a m s = 0
  · obtain ⟨g1, ⟨g2, g3⟩, g4⟩ := scode_0 g
    rw [g] at hS' ⊢
    clear g
    subst g2
    have ha := hi.ok g1.1.1
    have hn := ha.n
    have hp2 := prime_bd ha.p
    have hpw := pow_bdn ha
    have hK' := hK ha (hcol g1.1 g4.2.1) hs
    obtain ⟨kl, hkl⟩ : ∃ kl, kl = sKlein a s := ⟨_, rfl⟩
    rw [← hkl] at hK' ⊢
    obtain ⟨M, hM⟩ : ∃ M : Nat, a.p ^ a.n.toNat = (M : Int) := ⟨(a.p ^ a.n.toNat).toNat, by omega⟩
    rw [hM, Int.toNat_natCast]
    rw [hM] at hpw
    have hX' : ∀ x : Nat, Can P N.spec_l08CrossCap [algD a, vsD a.n.toNat s, vecD (dgv a x), vecD kl] (.val (.bool (dB (crossP a s kl (dgv a x))))) := fun x => hX ha hs (dgv_byt ha x)
    by_cases g5 : (M : Int) ≤ 20000
    · by_cases g6 : (hitF a s kl M).length ≤ 200
      · rw [if_pos ⟨rfl, g5, g6⟩, if_pos rfl, if_pos ⟨g5, g6⟩]
        refine can_of hf rfl rfl ?_
        (repeat' (conv => whnf) <;> first | exact True.intro | (refine if_ ?_ ?_ <;> intro h <;> first | exact h.elim | (exfalso; omega) | skip) | refine vs_ ?_ | refine dv_ ?_ | exact fin_ | (show ∃ _, _ ∧ _; refine ex_ ?_ (by first | with_reducible exact rfl | with_reducible exact hal | exact hS' | exact rd_)) | (show ∃ _ _, _ ∧ _; refine ex2_ ?_ (by first | with_reducible exact rfl | with_reducible exact hal | exact hS' | exact rd_)) | fail)
        conv => whnf
        refine vc_loop (α := Nat) 0 (fun i => a.n.toNat - i) (fun i => i ≤ a.n.toNat) [] (fun i => [(7, .d (.int .i64 (a.p ^ i))), (8, .d (.int .i64 i))]) (fun i => []) lp_ ?_ ?_
        · rw [Int.pow_zero]
          (repeat' (conv => whnf) <;> first | exact True.intro | (refine if_ ?_ ?_ <;> intro h <;> first | exact h.elim | (exfalso; omega) | skip) | refine vs_ ?_ | refine dv_ ?_ | exact fin_ | (show ∃ _, _ ∧ _; refine ex_ ?_) | (show ∃ _ _, _ ∧ _; refine ex2_ ?_) | fail)
        · intro i hi2
          have h1 := pow_bd ha.p (k := i) (by omega)
          by_cases hlt : i < a.n.toNat
          · have h2 := pow_bd ha.p (k := i + 1) (by omega)
            have e : a.p ^ (i + 1) = a.p ^ i * a.p := Int.pow_succ ..
            rw [e] at h2
            (repeat' (conv => whnf) <;> first | exact True.intro | (refine if_ ?_ ?_ <;> intro h <;> first | exact h.elim | (exfalso; omega) | skip) | refine vs_ ?_ | refine dv_ ?_ | exact fin_ | (show ∃ _, _ ∧ _; refine ex_ ?_ (by first | with_reducible exact rfl | with_reducible exact hat.p | with_reducible exact hat.n | exact rd_)) | (show ∃ _ _, _ ∧ _; refine ex2_ ?_ (by first | with_reducible exact rfl | with_reducible exact hat.p | with_reducible exact hat.n | exact rd_)) | fail)
            conv => whnf
            refine ⟨i + 1, by omega, by omega, ?_⟩
            rw [e]
            (repeat' (conv => whnf) <;> first | exact True.intro | (refine if_ ?_ ?_ <;> intro h <;> first | exact h.elim | (exfalso; omega) | skip) | refine vs_ ?_ | refine dv_ ?_ | exact fin_ | (show ∃ _, _ ∧ _; refine ex_ ?_) | (show ∃ _ _, _ ∧ _; refine ex2_ ?_) | fail)
          · have : i = a.n.toNat := by omega
            subst this
            rw [hM]
            (repeat' (conv => whnf) <;> first | exact True.intro | (refine if_ ?_ ?_ <;> intro h <;> first | exact h.elim | (exfalso; omega) | skip) | refine vs_ ?_ | refine dv_ ?_ | exact fin_ | (show ∃ _, _ ∧ _; refine ex_ ?_ (by first | with_reducible exact rfl | with_reducible exact hal | exact hK' | exact rd_)) | (show ∃ _ _, _ ∧ _; refine ex2_ ?_ (by first | with_reducible exact rfl | with_reducible exact hal | exact hK' | exact rd_)) | fail)
            have h0 : (hitF a s kl 0).length ≤ 200 := Nat.zero_le _
            conv => whnf
            refine vc_loop (α := Nat) 0 (fun x => M - x) (fun x => x ≤ M ∧ (hitF a s kl x).length ≤ 200) [] (fun x => [(7, .d (.int .i64 M)), (9, .ptr 10 6 0 0), (10, .row 11 6), (11, .d (.int .i64 x))]) (fun x => [(10, .data 6 [vecL kl]), (11, .data 6 ((hitF a s kl x).map vecL))]) lp_ ?_ ?_
            · (repeat' (conv => whnf) <;> first | exact True.intro | (refine if_ ?_ ?_ <;> intro h <;> first | exact h.elim | (exfalso; omega) | skip) | refine vs_ ?_ (by first | exact st_all (f := Z) | exact sd_) | refine dv_ ?_ | exact fin_ | (show ∃ _, _ ∧ _; refine ex_ ?_) | (show ∃ _ _, _ ∧ _; refine ex2_ ?_) | fail)
            · rintro x ⟨hx, hx2⟩
              have hml : ((hitF a s kl x).map vecL).length = (hitF a s kl x).length := List.length_map ..
              by_cases hlt : x < M
              · (repeat' (conv => whnf) <;> first | exact True.intro | (refine if_ ?_ ?_ <;> intro h <;> first | exact h.elim | (exfalso; omega) | skip) | refine vs_ ?_ | refine dv_ ?_ | exact fin_ | (show ∃ _, _ ∧ _; refine ex_ ?_) | (show ∃ _ _, _ ∧ _; refine ex2_ ?_) | fail)
                conv => whnf
                refine vc_loop (α := Nat) 0 (fun q => a.n.toNat - q) (fun q => q ≤ a.n.toNat) [] (fun q => [(12, .ptr 13 6 0 0), (13, .d (.int .i64 ((x : Int) / a.p ^ q))), (14, .d (.int .i64 ((a.n.toNat : Int) - 1 - q)))]) (fun q => [(13, .data 6 [vecL (vecR a.n.toNat (digQ a.p a.n.toNat x q))])]) lp_ ?_ ?_
                · rw [Int.pow_zero, Int.ediv_one]
                  (repeat' (conv => whnf) <;> first | exact True.intro | (refine if_ ?_ ?_ <;> intro h <;> first | exact h.elim | (exfalso; omega) | skip) | refine vs_ ?_ (by first | exact zeros6 dq_0 | exact sd_) | refine dv_ ?_ | exact fin_ | (show ∃ _, _ ∧ _; refine ex_ ?_) | (show ∃ _ _, _ ∧ _; refine ex2_ ?_) | fail)
                · intro q hq
                  have hpp := pow_bd ha.p (k := q) (by omega)
                  have hd0 : 0 ≤ (x : Int) / a.p ^ q := Int.ediv_nonneg (by omega) (by omega)
                  have hd1 : (x : Int) / a.p ^ q ≤ x := Int.ediv_le_self _ (by omega)
                  have hd2 : 0 ≤ (x : Int) / a.p ^ q % a.p := Int.emod_nonneg _ (by omega)
                  have hd3 : (x : Int) / a.p ^ q % a.p < a.p := Int.emod_lt_of_pos _ (by omega)
                  by_cases hlt2 : q < a.n.toNat
                  · have e : (a.n.toNat : Int) - 1 - q = ((a.n.toNat - 1 - q : Nat) : Int) := by omega
                    rw [e]
                    (repeat' (conv => whnf) <;> first | exact True.intro | (refine if_ ?_ ?_ <;> intro h <;> first | exact h.elim | (exfalso; omega) | skip) | refine vs_ ?_ | refine dv_ ?_ | exact fin_ | (show ∃ _, _ ∧ _; refine ex_ ?_ (by first | with_reducible exact rfl | with_reducible exact hat.p | with_reducible exact hat.n | exact rd_)) | (show ∃ _ _, _ ∧ _; refine ex2_ ?_ (by first | with_reducible exact rfl | with_reducible exact hat.p | with_reducible exact hat.n | exact rd_)) | fail)
                    conv => whnf
                    refine ⟨q + 1, by omega, by omega, ?_⟩
                    rw [← div_pow' (q := q) (x := x) (show 1 ≤ a.p by omega)]
                    (repeat' (conv => whnf) <;> first | exact True.intro | (refine if_ ?_ ?_ <;> intro h <;> first | exact h.elim | (exfalso; omega) | skip) | refine vs_ ?_ (by first | exact dq_st hlt2 | exact sd_) | refine dv_ ?_ | exact fin_ | (show ∃ _, _ ∧ _; refine ex_ ?_) | (show ∃ _ _, _ ∧ _; refine ex2_ ?_) | fail)
                  · have : q = a.n.toNat := by omega
                    subst this
                    rw [dq_n]
                    have hmo := hit_mono (a := a) (s := s) (kl := kl) (x := x + 1) (y := M) (by omega)
                    have hml2 : ((hitF a s kl x).map vecL ++ [vecL (dgv a x)]).length = (hitF a s kl x).length + 1 := by rw [List.length_append, hml]; rfl
                    by_cases c : crossP a s kl (dgv a x)
                    · have hXx := hX' x
                      rw [dB_t c] at hXx
                      rw [hit_t c, List.length_append] at hmo
                      simp only [List.length_cons, List.length_nil] at hmo
                      (repeat' (conv => whnf) <;> first | exact True.intro | (refine if_ ?_ ?_ <;> intro h <;> first | exact h.elim | (exfalso; omega) | skip) | refine vs_ ?_ (by first | exact ⟨by (simp only [List.length_cons, List.length_nil, hml, maxRow]; omega), by decide, by decide⟩ | exact sd_) | refine dv_ ?_ | exact fin_ | (show ∃ _, _ ∧ _; refine ex_ ?_ (by first | with_reducible exact rfl | with_reducible exact hal | exact hXx | with_reducible exact hat.p | with_reducible exact hat.n | with_reducible exact rd_st6 | exact rd_)) | (show ∃ _ _, _ ∧ _; refine ex2_ ?_ (by first | with_reducible exact rfl | with_reducible exact hal | exact hXx | with_reducible exact hat.p | with_reducible exact hat.n | with_reducible exact rd_st6 | exact rd_)) | fail)
                      conv => whnf
                      refine ⟨x + 1, ⟨by omega, by rw [hit_t c, List.length_append]; simp only [List.length_cons, List.length_nil]; omega⟩, by omega, ?_⟩
                      rw [hit_t c, ← vcs_app]
                      (repeat' (conv => whnf) <;> first | exact True.intro | (refine if_ ?_ ?_ <;> intro h <;> first | exact h.elim | (exfalso; omega) | skip) | refine vs_ ?_ | refine dv_ ?_ | exact fin_ | (show ∃ _, _ ∧ _; refine ex_ ?_) | (show ∃ _ _, _ ∧ _; refine ex2_ ?_) | fail)
                    · have hXx := hX' x
                      rw [dB_f c] at hXx
                      (repeat' (conv => whnf) <;> first | exact True.intro | (refine if_ ?_ ?_ <;> intro h <;> first | exact h.elim | (exfalso; omega) | skip) | refine vs_ ?_ | refine dv_ ?_ | exact fin_ | (show ∃ _, _ ∧ _; refine ex_ ?_ (by first | with_reducible exact rfl | with_reducible exact hal | exact hXx | with_reducible exact hat.p | with_reducible exact hat.n | with_reducible exact rd_st6 | exact rd_)) | (show ∃ _ _, _ ∧ _; refine ex2_ ?_ (by first | with_reducible exact rfl | with_reducible exact hal | exact hXx | with_reducible exact hat.p | with_reducible exact hat.n | with_reducible exact rd_st6 | exact rd_)) | fail)
                      conv => whnf
                      refine ⟨x + 1, ⟨by omega, by rw [hit_f c]; omega⟩, by omega, ?_⟩
                      rw [hit_f c]
                      (repeat' (conv => whnf) <;> first | exact True.intro | (refine if_ ?_ ?_ <;> intro h <;> first | exact h.elim | (exfalso; omega) | skip) | refine vs_ ?_ | refine dv_ ?_ | exact fin_ | (show ∃ _, _ ∧ _; refine ex_ ?_) | (show ∃ _ _, _ ∧ _; refine ex2_ ?_) | fail)
              · have : x = M := by omega
                subst this
                (repeat' (conv => whnf) <;> first | exact True.intro | (refine if_ ?_ ?_ <;> intro h <;> first | exact h.elim | (exfalso; omega) | skip) | refine vs_ ?_ | refine dv_ ?_ | exact fin_ | (show ∃ _, _ ∧ _; refine ex_ ?_) | (show ∃ _ _, _ ∧ _; refine ex2_ ?_) | fail)
                exact Nat.le_refl 2
      · rw [if_neg (fun h => g6 h.2.2), if_pos rfl, if_neg (fun h => g6 h.2)]
        refine can_tupO_emp (can_of hf rfl rfl ?_)
        (repeat' (conv => whnf) <;> first | exact True.intro | (refine if_ ?_ ?_ <;> intro h <;> first | exact h.elim | (exfalso; omega) | skip) | refine vs_ ?_ | refine dv_ ?_ | exact fin_ | (show ∃ _, _ ∧ _; refine ex_ ?_ (by first | with_reducible exact rfl | with_reducible exact hal | exact hS' | exact rd_)) | (show ∃ _ _, _ ∧ _; refine ex2_ ?_ (by first | with_reducible exact rfl | with_reducible exact hal | exact hS' | exact rd_)) | fail)
        conv => whnf
        refine vc_loop (α := Nat) 0 (fun i => a.n.toNat - i) (fun i => i ≤ a.n.toNat) [] (fun i => [(7, .d (.int .i64 (a.p ^ i))), (8, .d (.int .i64 i))]) (fun i => []) lp_ ?_ ?_
        · rw [Int.pow_zero]
          (repeat' (conv => whnf) <;> first | exact True.intro | (refine if_ ?_ ?_ <;> intro h <;> first | exact h.elim | (exfalso; omega) | skip) | refine vs_ ?_ | refine dv_ ?_ | exact fin_ | (show ∃ _, _ ∧ _; refine ex_ ?_) | (show ∃ _ _, _ ∧ _; refine ex2_ ?_) | fail)
        · intro i hi2
          have h1 := pow_bd ha.p (k := i) (by omega)
          by_cases hlt : i < a.n.toNat
          · have h2 := pow_bd ha.p (k := i + 1) (by omega)
            have e : a.p ^ (i + 1) = a.p ^ i * a.p := Int.pow_succ ..
            rw [e] at h2
            (repeat' (conv => whnf) <;> first | exact True.intro | (refine if_ ?_ ?_ <;> intro h <;> first | exact h.elim | (exfalso; omega) | skip) | refine vs_ ?_ | refine dv_ ?_ | exact fin_ | (show ∃ _, _ ∧ _; refine ex_ ?_ (by first | with_reducible exact rfl | with_reducible exact hat.p | with_reducible exact hat.n | exact rd_)) | (show ∃ _ _, _ ∧ _; refine ex2_ ?_ (by first | with_reducible exact rfl | with_reducible exact hat.p | with_reducible exact hat.n | exact rd_)) | fail)
            conv => whnf
            refine ⟨i + 1, by omega, by omega, ?_⟩
            rw [e]
            (repeat' (conv => whnf) <;> first | exact True.intro | (refine if_ ?_ ?_ <;> intro h <;> first | exact h.elim | (exfalso; omega) | skip) | refine vs_ ?_ | refine dv_ ?_ | exact fin_ | (show ∃ _, _ ∧ _; refine ex_ ?_) | (show ∃ _ _, _ ∧ _; refine ex2_ ?_) | fail)
          · have : i = a.n.toNat := by omega
            subst this
            rw [hM]
            (repeat' (conv => whnf) <;> first | exact True.intro | (refine if_ ?_ ?_ <;> intro h <;> first | exact h.elim | (exfalso; omega) | skip) | refine vs_ ?_ | refine dv_ ?_ | exact fin_ | (show ∃ _, _ ∧ _; refine ex_ ?_ (by first | with_reducible exact rfl | with_reducible exact hal | exact hK' | exact rd_)) | (show ∃ _ _, _ ∧ _; refine ex2_ ?_ (by first | with_reducible exact rfl | with_reducible exact hal | exact hK' | exact rd_)) | fail)
            have h0 : (hitF a s kl 0).length ≤ 200 := Nat.zero_le _
            conv => whnf
            refine vc_loop (α := Nat) 0 (fun x => M - x) (fun x => x ≤ M ∧ (hitF a s kl x).length ≤ 200) [] (fun x => [(7, .d (.int .i64 M)), (9, .ptr 10 6 0 0), (10, .row 11 6), (11, .d (.int .i64 x))]) (fun x => [(10, .data 6 [vecL kl]), (11, .data 6 ((hitF a s kl x).map vecL))]) lp_ ?_ ?_
            · (repeat' (conv => whnf) <;> first | exact True.intro | (refine if_ ?_ ?_ <;> intro h <;> first | exact h.elim | (exfalso; omega) | skip) | refine vs_ ?_ (by first | exact st_all (f := Z) | exact sd_) | refine dv_ ?_ | exact fin_ | (show ∃ _, _ ∧ _; refine ex_ ?_) | (show ∃ _ _, _ ∧ _; refine ex2_ ?_) | fail)
            · rintro x ⟨hx, hx2⟩
              have hml : ((hitF a s kl x).map vecL).length = (hitF a s kl x).length := List.length_map ..
              by_cases hlt : x < M
              · (repeat' (conv => whnf) <;> first | exact True.intro | (refine if_ ?_ ?_ <;> intro h <;> first | exact h.elim | (exfalso; omega) | skip) | refine vs_ ?_ | refine dv_ ?_ | exact fin_ | (show ∃ _, _ ∧ _; refine ex_ ?_) | (show ∃ _ _, _ ∧ _; refine ex2_ ?_) | fail)
                conv => whnf
                refine vc_loop (α := Nat) 0 (fun q => a.n.toNat - q) (fun q => q ≤ a.n.toNat) [] (fun q => [(12, .ptr 13 6 0 0), (13, .d (.int .i64 ((x : Int) / a.p ^ q))), (14, .d (.int .i64 ((a.n.toNat : Int) - 1 - q)))]) (fun q => [(13, .data 6 [vecL (vecR a.n.toNat (digQ a.p a.n.toNat x q))])]) lp_ ?_ ?_
                · rw [Int.pow_zero, Int.ediv_one]
                  (repeat' (conv => whnf) <;> first | exact True.intro | (refine if_ ?_ ?_ <;> intro h <;> first | exact h.elim | (exfalso; omega) | skip) | refine vs_ ?_ (by first | exact zeros6 dq_0 | exact sd_) | refine dv_ ?_ | exact fin_ | (show ∃ _, _ ∧ _; refine ex_ ?_) | (show ∃ _ _, _ ∧ _; refine ex2_ ?_) | fail)
                · intro q hq
                  have hpp := pow_bd ha.p (k := q) (by omega)
                  have hd0 : 0 ≤ (x : Int) / a.p ^ q := Int.ediv_nonneg (by omega) (by omega)
                  have hd1 : (x : Int) / a.p ^ q ≤ x := Int.ediv_le_self _ (by omega)
                  have hd2 : 0 ≤ (x : Int) / a.p ^ q % a.p := Int.emod_nonneg _ (by omega)
                  have hd3 : (x : Int) / a.p ^ q % a.p < a.p := Int.emod_lt_of_pos _ (by omega)
                  by_cases hlt2 : q < a.n.toNat
                  · have e : (a.n.toNat : Int) - 1 - q = ((a.n.toNat - 1 - q : Nat) : Int) := by omega
                    rw [e]
                    (repeat' (conv => whnf) <;> first | exact True.intro | (refine if_ ?_ ?_ <;> intro h <;> first | exact h.elim | (exfalso; omega) | skip) | refine vs_ ?_ | refine dv_ ?_ | exact fin_ | (show ∃ _, _ ∧ _; refine ex_ ?_ (by first | with_reducible exact rfl | with_reducible exact hat.p | with_reducible exact hat.n | exact rd_)) | (show ∃ _ _, _ ∧ _; refine ex2_ ?_ (by first | with_reducible exact rfl | with_reducible exact hat.p | with_reducible exact hat.n | exact rd_)) | fail)
                    conv => whnf
                    refine ⟨q + 1, by omega, by omega, ?_⟩
                    rw [← div_pow' (q := q) (x := x) (show 1 ≤ a.p by omega)]
                    (repeat' (conv => whnf) <;> first | exact True.intro | (refine if_ ?_ ?_ <;> intro h <;> first | exact h.elim | (exfalso; omega) | skip) | refine vs_ ?_ (by first | exact dq_st hlt2 | exact sd_) | refine dv_ ?_ | exact fin_ | (show ∃ _, _ ∧ _; refine ex_ ?_) | (show ∃ _ _, _ ∧ _; refine ex2_ ?_) | fail)
                  · have : q = a.n.toNat := by omega
                    subst this
                    rw [dq_n]
                    have hmo := hit_mono (a := a) (s := s) (kl := kl) (x := x + 1) (y := M) (by omega)
                    have hml2 : ((hitF a s kl x).map vecL ++ [vecL (dgv a x)]).length = (hitF a s kl x).length + 1 := by rw [List.length_append, hml]; rfl
                    by_cases c : crossP a s kl (dgv a x)
                    · have hXx := hX' x
                      rw [dB_t c] at hXx
                      rw [hit_t c, List.length_append] at hmo
                      simp only [List.length_cons, List.length_nil] at hmo
                      (repeat' (conv => whnf) <;> first | exact True.intro | (refine if_ ?_ ?_ <;> intro h <;> first | exact h.elim | (exfalso; omega) | skip) | refine vs_ ?_ (by first | exact ⟨by (simp only [List.length_cons, List.length_nil, hml, maxRow]; omega), by decide, by decide⟩ | exact sd_) | refine dv_ ?_ | exact fin_ | (show ∃ _, _ ∧ _; refine ex_ ?_ (by first | with_reducible exact rfl | with_reducible exact hal | exact hXx | with_reducible exact hat.p | with_reducible exact hat.n | with_reducible exact rd_st6 | exact rd_)) | (show ∃ _ _, _ ∧ _; refine ex2_ ?_ (by first | with_reducible exact rfl | with_reducible exact hal | exact hXx | with_reducible exact hat.p | with_reducible exact hat.n | with_reducible exact rd_st6 | exact rd_)) | fail)
                      conv => whnf
                      refine ⟨x + 1, ⟨by omega, by rw [hit_t c, List.length_append]; simp only [List.length_cons, List.length_nil]; omega⟩, by omega, ?_⟩
                      rw [hit_t c, ← vcs_app]
                      (repeat' (conv => whnf) <;> first | exact True.intro | (refine if_ ?_ ?_ <;> intro h <;> first | exact h.elim | (exfalso; omega) | skip) | refine vs_ ?_ | refine dv_ ?_ | exact fin_ | (show ∃ _, _ ∧ _; refine ex_ ?_) | (show ∃ _ _, _ ∧ _; refine ex2_ ?_) | fail)
                    · have hXx := hX' x
                      rw [dB_f c] at hXx
                      (repeat' (conv => whnf) <;> first | exact True.intro | (refine if_ ?_ ?_ <;> intro h <;> first | exact h.elim | (exfalso; omega) | skip) | refine vs_ ?_ | refine dv_ ?_ | exact fin_ | (show ∃ _, _ ∧ _; refine ex_ ?_ (by first | with_reducible exact rfl | with_reducible exact hal | exact hXx | with_reducible exact hat.p | with_reducible exact hat.n | with_reducible exact rd_st6 | exact rd_)) | (show ∃ _ _, _ ∧ _; refine ex2_ ?_ (by first | with_reducible exact rfl | with_reducible exact hal | exact hXx | with_reducible exact hat.p | with_reducible exact hat.n | with_reducible exact rd_st6 | exact rd_)) | fail)
                      conv => whnf
                      refine ⟨x + 1, ⟨by omega, by rw [hit_f c]; omega⟩, by omega, ?_⟩
                      rw [hit_f c]
                      (repeat' (conv => whnf) <;> first | exact True.intro | (refine if_ ?_ ?_ <;> intro h <;> first | exact h.elim | (exfalso; omega) | skip) | refine vs_ ?_ | refine dv_ ?_ | exact fin_ | (show ∃ _, _ ∧ _; refine ex_ ?_) | (show ∃ _ _, _ ∧ _; refine ex2_ ?_) | fail)
              · have : x = M := by omega
                subst this
                exact absurd hx2 g6
    · rw [if_neg (fun h => g5 h.2.1), if_pos rfl, if_neg (fun h => g5 h.1)]
      refine can_tupO_emp (can_of hf rfl rfl ?_)
      (repeat' (conv => whnf) <;> first | exact True.intro | (refine if_ ?_ ?_ <;> intro h <;> first | exact h.elim | (exfalso; omega) | skip) | refine vs_ ?_ | refine dv_ ?_ | exact fin_ | (show ∃ _, _ ∧ _; refine ex_ ?_ (by first | with_reducible exact rfl | with_reducible exact hal | exact hS' | exact rd_)) | (show ∃ _ _, _ ∧ _; refine ex2_ ?_ (by first | with_reducible exact rfl | with_reducible exact hal | exact hS' | exact rd_)) | fail)
      conv => whnf
      refine vc_loop (α := Nat) 0 (fun i => a.n.toNat - i) (fun i => i ≤ a.n.toNat) [] (fun i => [(7, .d (.int .i64 (a.p ^ i))), (8, .d (.int .i64 i))]) (fun i => []) lp_ ?_ ?_
      · rw [Int.pow_zero]
        (repeat' (conv => whnf) <;> first | exact True.intro | (refine if_ ?_ ?_ <;> intro h <;> first | exact h.elim | (exfalso; omega) | skip) | refine vs_ ?_ | refine dv_ ?_ | exact fin_ | (show ∃ _, _ ∧ _; refine ex_ ?_) | (show ∃ _ _, _ ∧ _; refine ex2_ ?_) | fail)
      · intro i hi2
        have h1 := pow_bd ha.p (k := i) (by omega)
        by_cases hlt : i < a.n.toNat
        · have h2 := pow_bd ha.p (k := i + 1) (by omega)
          have e : a.p ^ (i + 1) = a.p ^ i * a.p := Int.pow_succ ..
          rw [e] at h2
          (repeat' (conv => whnf) <;> first | exact True.intro | (refine if_ ?_ ?_ <;> intro h <;> first | exact h.elim | (exfalso; omega) | skip) | refine vs_ ?_ | refine dv_ ?_ | exact fin_ | (show ∃ _, _ ∧ _; refine ex_ ?_ (by first | with_reducible exact rfl | with_reducible exact hat.p | with_reducible exact hat.n | exact rd_)) | (show ∃ _ _, _ ∧ _; refine ex2_ ?_ (by first | with_reducible exact rfl | with_reducible exact hat.p | with_reducible exact hat.n | exact rd_)) | fail)
          conv => whnf
          refine ⟨i + 1, by omega, by omega, ?_⟩
          rw [e]
          (repeat' (conv => whnf) <;> first | exact True.intro | (refine if_ ?_ ?_ <;> intro h <;> first | exact h.elim | (exfalso; omega) | skip) | refine vs_ ?_ | refine dv_ ?_ | exact fin_ | (show ∃ _, _ ∧ _; refine ex_ ?_) | (show ∃ _ _, _ ∧ _; refine ex2_ ?_) | fail)
        · have : i = a.n.toNat := by omega
          subst this
          rw [hM]
          (repeat' (conv => whnf) <;> first | exact True.intro | (refine if_ ?_ ?_ <;> intro h <;> first | exact h.elim | (exfalso; omega) | skip) | refine vs_ ?_ | refine dv_ ?_ | exact fin_ | (show ∃ _, _ ∧ _; refine ex_ ?_ (by first | with_reducible exact rfl | with_reducible exact hal | exact rd_)) | (show ∃ _ _, _ ∧ _; refine ex2_ ?_ (by first | with_reducible exact rfl | with_reducible exact hal | exact rd_)) | fail)
  · rw [if_neg (fun h => g h.1), if_neg g]
    have hb : 0 ≤ sCode a m s ∧ sCode a m s ≤ 5 := scode_bd ..
    refine can_tupO_emp (can_of hf rfl rfl ?_)
    (repeat' (conv => whnf) <;> first | exact True.intro | (refine if_ ?_ ?_ <;> intro h <;> first | exact h.elim | (exfalso; omega) | skip) | refine vs_ ?_ | refine dv_ ?_ | exact fin_ | (show ∃ _, _ ∧ _; refine ex_ ?_ (by first | with_reducible exact rfl | with_reducible exact hal | exact hS' | exact rd_)) | (show ∃ _ _, _ ∧ _; refine ex2_ ?_ (by first | with_reducible exact rfl | with_reducible exact hal | exact hS' | exact rd_)) | fail)
end Go.X
namespace Go.X
open Go Go.RowKit
set_option maxRecDepth 100000
set_option maxHeartbeats 8000000
variable {P : Program} {N : FN}
theorem c_CrossCapsOf (hS : C_stars P N) (hW : C_powerAll P N) (hK : C_klein P N) (hD : C_digits P N) (hV : C_vector P N) (hX : C_crossCap P N) (hf : isFn P N.impl_CrossCapsOf (ir_impl_CrossCapsOf N) = true) : C_CrossCapsOf P N := by
  intro a m s hi hm hs
  have hat := algAt_one a
  have hal := hat.all
  have hS' : Can P N.impl_stars [algD a, vsD m s, .emp] (.val (.int .i64 (iCode a m s))) := can_emp2 (hS (q := 0) (t := fun _ => Z) hi hm (by omega) hs (fun _ _ => by show (0 : Int) ≤ 0 ∧ (0 : Int) ≤ 255; omega)) rfl
  unfold capR capL capC
  by_cases g : iCode a m s = 0
  · obtain ⟨g1, ⟨g2, g3⟩, g4⟩ := scode_0 g
    rw [g] at hS' ⊢
    clear g
    subst g2
    have ha := hi.alg g1.1
    have hn := ha.n
    have hp2 := prime_bd ha.p
    have hpw := pow_bdn ha
    have hK' := hK (sz := 224) hat ha hs
    obtain ⟨kl, hkl⟩ : ∃ kl, kl = iKlein a s := ⟨_, rfl⟩
    rw [← hkl] at hK' ⊢
    obtain ⟨M, hM⟩ : ∃ M : Nat, a.p ^ a.n.toNat = (M : Int) := ⟨(a.p ^ a.n.toNat).toNat, by omega⟩
    have hnn : ((a.n.toNat : Nat) : Int) = a.n := by omega
    have hW' : Can P N.impl_powerAll [.int .i64 a.p, .int .i64 a.n] (.val (.int .i64 (M : Int))) := by
      have := hW (k := a.n.toNat) ha.p (by omega)
      rwa [hnn, hM] at this
    rw [hM, Int.toNat_natCast]
    rw [hM] at hpw
    have hD' : ∀ x : Nat, x < M → Can P N.impl_digits [.int .i64 x, .int .i64 a.p, .int .i64 a.n] (.val (rowD a.n.toNat (digV a.p a.n.toNat x))) := fun x hx => by
      have := hD (x := x) (n := a.n.toNat) ha.p (by omega) (by omega)
      rwa [hnn] at this
    have hV' : ∀ x : Nat, Can P N.impl_vector [rowD a.n.toNat (digV a.p a.n.toNat x)] (.val (vecD (dgv a x))) := fun x => hV (by omega) (dig_bd ha x)
    have hX' : ∀ x : Nat, Can P N.impl_Algebra_crossCap [.pd 224 [algL a] 0 0, vsD a.n.toNat s, vecD kl, vecD (dgv a x)] (.val (.bool (dB (crossP a s kl (dgv a x))))) := fun x => hX hat ha hs (dgv_byt ha x)
    by_cases g5 : (M : Int) ≤ 20000
    · by_cases g6 : (hitF a s kl M).length ≤ 200
      · rw [if_pos ⟨rfl, g5, g6⟩, if_pos rfl, if_pos ⟨g5, g6⟩]
        refine can_of hf rfl rfl ?_
        (repeat' (conv => whnf) <;> first | exact True.intro | (refine if_ ?_ ?_ <;> intro h <;> first | exact h.elim | (exfalso; omega) | skip) | refine vs_ ?_ | refine dv_ ?_ | exact fin_ | (show ∃ _, _ ∧ _; refine ex_ ?_ (by first | with_reducible exact rfl | with_reducible exact hal | exact hS' | exact hW' | exact hK' | with_reducible exact hat.p | with_reducible exact hat.n | exact rd_)) | (show ∃ _ _, _ ∧ _; refine ex2_ ?_ (by first | with_reducible exact rfl | with_reducible exact hal | exact hS' | exact hW' | exact hK' | with_reducible exact hat.p | with_reducible exact hat.n | exact rd_)) | fail)
        conv => whnf
        refine vc_loop (α := Nat) 0 (fun x => M - x) (fun x => x ≤ M) [] (fun x => [(8, .ptr 9 6 0 0), (9, .row 10 6), (29, .d (.int .i64 x))]) (fun x => [(9, .data 6 [vecL kl]), (10, .data 6 ((hitF a s kl x).map vecL))]) lp_ ?_ ?_
        · (repeat' (conv => whnf) <;> first | exact True.intro | (refine if_ ?_ ?_ <;> intro h <;> first | exact h.elim | (exfalso; omega) | skip) | refine vs_ ?_ (by first | exact st_all (f := Z) | exact sd_) | refine dv_ ?_ | exact fin_ | (show ∃ _, _ ∧ _; refine ex_ ?_) | (show ∃ _ _, _ ∧ _; refine ex2_ ?_) | fail)
        · intro x hx
          have hml : ((hitF a s kl x).map vecL).length = (hitF a s kl x).length := List.length_map ..
          have hle := hit_len (a := a) (s := s) (kl := kl) x
          by_cases hlt : x < M
          · have hDx := hD' x hlt
            have hVx := hV' x
            by_cases c : crossP a s kl (dgv a x)
            · have hXx := hX' x
              rw [dB_t c] at hXx
              (repeat' (conv => whnf) <;> first | exact True.intro | (refine if_ ?_ ?_ <;> intro h <;> first | exact h.elim | (exfalso; omega) | skip) | refine vs_ ?_ (by first | exact ⟨by (simp only [List.length_cons, List.length_nil, hml, maxRow]; omega), by decide, by decide⟩ | exact sd_) | refine dv_ ?_ | exact fin_ | (show ∃ _, _ ∧ _; refine ex_ ?_ (by first | with_reducible exact rfl | exact hDx | exact hVx | exact hXx | with_reducible exact hat.p | with_reducible exact hat.n | with_reducible exact rd_st6 | exact rd_)) | (show ∃ _ _, _ ∧ _; refine ex2_ ?_ (by first | with_reducible exact rfl | exact hDx | exact hVx | exact hXx | with_reducible exact hat.p | with_reducible exact hat.n | with_reducible exact rd_st6 | exact rd_)) | fail)
              conv => whnf
              refine ⟨x + 1, by omega, by omega, ?_⟩
              rw [hit_t c, ← vcs_app]
              (repeat' (conv => whnf) <;> first | exact True.intro | (refine if_ ?_ ?_ <;> intro h <;> first | exact h.elim | (exfalso; omega) | skip) | refine vs_ ?_ | refine dv_ ?_ | exact fin_ | (show ∃ _, _ ∧ _; refine ex_ ?_) | (show ∃ _ _, _ ∧ _; refine ex2_ ?_) | fail)
            · have hXx := hX' x
              rw [dB_f c] at hXx
              (repeat' (conv => whnf) <;> first | exact True.intro | (refine if_ ?_ ?_ <;> intro h <;> first | exact h.elim | (exfalso; omega) | skip) | refine vs_ ?_ | refine dv_ ?_ | exact fin_ | (show ∃ _, _ ∧ _; refine ex_ ?_ (by first | with_reducible exact rfl | exact hDx | exact hVx | exact hXx | with_reducible exact hat.p | with_reducible exact hat.n | with_reducible exact rd_st6 | exact rd_)) | (show ∃ _ _, _ ∧ _; refine ex2_ ?_ (by first | with_reducible exact rfl | exact hDx | exact hVx | exact hXx | with_reducible exact hat.p | with_reducible exact hat.n | with_reducible exact rd_st6 | exact rd_)) | fail)
              conv => whnf
              refine ⟨x + 1, by omega, by omega, ?_⟩
              rw [hit_f c]
              (repeat' (conv => whnf) <;> first | exact True.intro | (refine if_ ?_ ?_ <;> intro h <;> first | exact h.elim | (exfalso; omega) | skip) | refine vs_ ?_ | refine dv_ ?_ | exact fin_ | (show ∃ _, _ ∧ _; refine ex_ ?_) | (show ∃ _ _, _ ∧ _; refine ex2_ ?_) | fail)
          · have : x = M := by omega
            subst this
            (repeat' (conv => whnf) <;> first | exact True.intro | (refine if_ ?_ ?_ <;> intro h <;> first | exact h.elim | (exfalso; omega) | skip) | refine vs_ ?_ | refine dv_ ?_ | exact fin_ | (show ∃ _, _ ∧ _; refine ex_ ?_) | (show ∃ _ _, _ ∧ _; refine ex2_ ?_) | fail)
            exact Nat.le_refl 2
      · rw [if_neg (fun h => g6 h.2.2), if_pos rfl, if_neg (fun h => g6 h.2)]
        refine can_tupO_emp (can_of hf rfl rfl ?_)
        (repeat' (conv => whnf) <;> first | exact True.intro | (refine if_ ?_ ?_ <;> intro h <;> first | exact h.elim | (exfalso; omega) | skip) | refine vs_ ?_ | refine dv_ ?_ | exact fin_ | (show ∃ _, _ ∧ _; refine ex_ ?_ (by first | with_reducible exact rfl | with_reducible exact hal | exact hS' | exact hW' | exact hK' | with_reducible exact hat.p | with_reducible exact hat.n | exact rd_)) | (show ∃ _ _, _ ∧ _; refine ex2_ ?_ (by first | with_reducible exact rfl | with_reducible exact hal | exact hS' | exact hW' | exact hK' | with_reducible exact hat.p | with_reducible exact hat.n | exact rd_)) | fail)
        conv => whnf
        refine vc_loop (α := Nat) 0 (fun x => M - x) (fun x => x ≤ M) [] (fun x => [(8, .ptr 9 6 0 0), (9, .row 10 6), (29, .d (.int .i64 x))]) (fun x => [(9, .data 6 [vecL kl]), (10, .data 6 ((hitF a s kl x).map vecL))]) lp_ ?_ ?_
        · (repeat' (conv => whnf) <;> first | exact True.intro | (refine if_ ?_ ?_ <;> intro h <;> first | exact h.elim | (exfalso; omega) | skip) | refine vs_ ?_ (by first | exact st_all (f := Z) | exact sd_) | refine dv_ ?_ | exact fin_ | (show ∃ _, _ ∧ _; refine ex_ ?_) | (show ∃ _ _, _ ∧ _; refine ex2_ ?_) | fail)
        · intro x hx
          have hml : ((hitF a s kl x).map vecL).length = (hitF a s kl x).length := List.length_map ..
          have hle := hit_len (a := a) (s := s) (kl := kl) x
          by_cases hlt : x < M
          · have hDx := hD' x hlt
            have hVx := hV' x
            by_cases c : crossP a s kl (dgv a x)
            · have hXx := hX' x
              rw [dB_t c] at hXx
              (repeat' (conv => whnf) <;> first | exact True.intro | (refine if_ ?_ ?_ <;> intro h <;> first | exact h.elim | (exfalso; omega) | skip) | refine vs_ ?_ (by first | exact ⟨by (simp only [List.length_cons, List.length_nil, hml, maxRow]; omega), by decide, by decide⟩ | exact sd_) | refine dv_ ?_ | exact fin_ | (show ∃ _, _ ∧ _; refine ex_ ?_ (by first | with_reducible exact rfl | exact hDx | exact hVx | exact hXx | with_reducible exact hat.p | with_reducible exact hat.n | with_reducible exact rd_st6 | exact rd_)) | (show ∃ _ _, _ ∧ _; refine ex2_ ?_ (by first | with_reducible exact rfl | exact hDx | exact hVx | exact hXx | with_reducible exact hat.p | with_reducible exact hat.n | with_reducible exact rd_st6 | exact rd_)) | fail)
              conv => whnf
              refine ⟨x + 1, by omega, by omega, ?_⟩
              rw [hit_t c, ← vcs_app]
              (repeat' (conv => whnf) <;> first | exact True.intro | (refine if_ ?_ ?_ <;> intro h <;> first | exact h.elim | (exfalso; omega) | skip) | refine vs_ ?_ | refine dv_ ?_ | exact fin_ | (show ∃ _, _ ∧ _; refine ex_ ?_) | (show ∃ _ _, _ ∧ _; refine ex2_ ?_) | fail)
            · have hXx := hX' x
              rw [dB_f c] at hXx
              (repeat' (conv => whnf) <;> first | exact True.intro | (refine if_ ?_ ?_ <;> intro h <;> first | exact h.elim | (exfalso; omega) | skip) | refine vs_ ?_ | refine dv_ ?_ | exact fin_ | (show ∃ _, _ ∧ _; refine ex_ ?_ (by first | with_reducible exact rfl | exact hDx | exact hVx | exact hXx | with_reducible exact hat.p | with_reducible exact hat.n | with_reducible exact rd_st6 | exact rd_)) | (show ∃ _ _, _ ∧ _; refine ex2_ ?_ (by first | with_reducible exact rfl | exact hDx | exact hVx | exact hXx | with_reducible exact hat.p | with_reducible exact hat.n | with_reducible exact rd_st6 | exact rd_)) | fail)
              conv => whnf
              refine ⟨x + 1, by omega, by omega, ?_⟩
              rw [hit_f c]
              (repeat' (conv => whnf) <;> first | exact True.intro | (refine if_ ?_ ?_ <;> intro h <;> first | exact h.elim | (exfalso; omega) | skip) | refine vs_ ?_ | refine dv_ ?_ | exact fin_ | (show ∃ _, _ ∧ _; refine ex_ ?_) | (show ∃ _ _, _ ∧ _; refine ex2_ ?_) | fail)
          · have : x = M := by omega
            subst this
            (repeat' (conv => whnf) <;> first | exact True.intro | (refine if_ ?_ ?_ <;> intro h <;> first | exact h.elim | (exfalso; omega) | skip) | refine vs_ ?_ | refine dv_ ?_ | exact fin_ | (show ∃ _, _ ∧ _; refine ex_ ?_) | (show ∃ _ _, _ ∧ _; refine ex2_ ?_) | fail)
    · rw [if_neg (fun h => g5 h.2.1), if_pos rfl, if_neg (fun h => g5 h.1)]
      refine can_tupO_emp (can_of hf rfl rfl ?_)
      (repeat' (conv => whnf) <;> first | exact True.intro | (refine if_ ?_ ?_ <;> intro h <;> first | exact h.elim | (exfalso; omega) | skip) | refine vs_ ?_ | refine dv_ ?_ | exact fin_ | (show ∃ _, _ ∧ _; refine ex_ ?_ (by first | with_reducible exact rfl | with_reducible exact hal | exact hS' | exact hW' | exact hK' | with_reducible exact hat.p | with_reducible exact hat.n | exact rd_)) | (show ∃ _ _, _ ∧ _; refine ex2_ ?_ (by first | with_reducible exact rfl | with_reducible exact hal | exact hS' | exact hW' | exact hK' | with_reducible exact hat.p | with_reducible exact hat.n | exact rd_)) | fail)
  · rw [if_neg (fun h => g h.1), if_neg g]
    have hb : 0 ≤ iCode a m s ∧ iCode a m s ≤ 5 := scode_bd ..
    refine can_tupO_emp (can_of hf rfl rfl ?_)
    (repeat' (conv => whnf) <;> first | exact True.intro | (refine if_ ?_ ?_ <;> intro h <;> first | exact h.elim | (exfalso; omega) | skip) | refine vs_ ?_ | refine dv_ ?_ | exact fin_ | (show ∃ _, _ ∧ _; refine ex_ ?_ (by first | with_reducible exact rfl | with_reducible exact hal | exact hS' | exact rd_)) | (show ∃ _ _, _ ∧ _; refine ex2_ ?_ (by first | with_reducible exact rfl | with_reducible exact hal | exact hS' | exact rd_)) | fail)
end Go.X
