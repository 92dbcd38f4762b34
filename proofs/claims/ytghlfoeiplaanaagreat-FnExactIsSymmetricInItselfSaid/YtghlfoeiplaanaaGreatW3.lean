import Derived.Test.YtghlfoeiplaanaaGreatM2
set_option linter.all false
namespace Go.X
open Go Go.RowKit
set_option maxRecDepth 100000
set_option maxHeartbeats 8000000
set_option linter.unusedSimpArgs false
set_option linter.unusedVariables false
variable {P : Program} {N : FN}
theorem findR_rw {a : Alg} (h : AlgOk a) (i k : Nat) : Rw a.p (findR a i k) := fun j => by
  have := prime_bd h.p
  unfold findR
  split
  · exact h.T j i k
  · split <;> omega
theorem findIn_rw {a : Alg} (h : AlgOk a) (i : Nat) : ∀ k, RwL a.p (findIn a i k)
  | 0 => fun r hr => by cases hr
  | k + 1 => fun r hr => by
    rcases List.mem_append.1 hr with hr | hr
    · exact findIn_rw h i k r hr
    · simp only [List.mem_singleton] at hr; subst hr; exact findR_rw h i k
theorem findOut_rw {a : Alg} (h : AlgOk a) : ∀ i, RwL a.p (findOut a i)
  | 0 => fun r hr => by cases hr
  | i + 1 => fun r hr => by
    rcases List.mem_append.1 hr with hr | hr
    · exact findOut_rw h i r hr
    · exact findIn_rw h i _ r hr
theorem sq_le {n : Nat} (h : n ≤ 6) : n * n ≤ 36 := by
  have : n = 0 ∨ n = 1 ∨ n = 2 ∨ n = 3 ∨ n = 4 ∨ n = 5 ∨ n = 6 := by omega
  rcases this with rfl | rfl | rfl | rfl | rfl | rfl | rfl <;> omega
theorem sol_rw {p : Int} {n : Nat} {L : List Row} {r : Row} (hp : p ∈ primes) (hR : RwL p L) (h : sSolveF p n L = some r) : Rw p r := by
  have hp2 := prime_bd hp
  unfold sSolveF at h
  split at h
  · simp only [Option.some.injEq] at h; subst h
    obtain ⟨⟨ld, rr⟩, _⟩ := echN_rr (m := n + 1) hp hR _ (Nat.le_refl _)
    exact fun i => (rr.rw.get (by omega) i) n
  · cases h
theorem rowsL_appR {m z : Nat} {L : List Row} {l : List (List D)} {r : Row} (e : l = row m r) : Chunk.data z (rowsL m L ++ [[.lst 1 l]]) = .data z (rowsL m (L ++ [r])) := by subst e; exact rowsL_app
theorem row_app' {m : Nat} {f : Nat → Int} {x : Int} (hx : x = f m) : row m f ++ [[.int .i64 x]] = row (m + 1) f := by
  subst hx; unfold row; rw [arr_succ]
theorem vec_prog {m : Nat} {r : Row} : vecL (prog m (vecR m r) Z) = vecL (vecR m r) := cel_ext fun j _ => by
  unfold prog vecR Z
  split
  · rfl
  · rfl
theorem c_sFind (hS : C_sSolve P N) (hB : C_sBasis P N) (hT : C_sTimes P N) (hf : isFn P N.spec_l01Find (ir_spec_l01Find N) = true) : C_sFind P N := by
  intro a ha
  have hp2 := prime_bd ha.p
  have hn := ha.n
  have hRL := findOut_rw ha a.n.toNat
  have hlen : (findOut a a.n.toNat).length ≤ 36 := by rw [findOut_len]; exact sq_le (by omega)
  have hS' := hS (n := a.n.toNat) (L := findOut a a.n.toNat) (by omega) (by omega) ha.p hRL
  refine can_of hf rfl (by cases findF a <;> rfl) ?_
  (repeat' (conv => whnf) <;> first | exact True.intro | (refine if_ ?_ ?_ <;> intro h <;> first | exact h.elim | (exfalso; omega) | skip) | refine vs_ ?_ | refine dv_ ?_ | exact fin_ | (show ∃ _, _ ∧ _; refine ex_ ?_) | (show ∃ _ _, _ ∧ _; refine ex2_ ?_) | fail)
  conv => whnf
  refine vc_loop (α := Nat) 0 (fun i => a.n.toNat - i) (fun i => i ≤ a.n.toNat) [] (fun i => [(4, .row 5 1), (5, .d (.int .i64 i))]) (fun i => [(5, .data 1 (rowsL (a.n.toNat + 1) (findOut a i)))]) lp_ ?_ ?_
  · (repeat' (conv => whnf) <;> first | exact True.intro | (refine if_ ?_ ?_ <;> intro h <;> first | exact h.elim | (exfalso; omega) | skip) | refine vs_ ?_ | refine dv_ ?_ | exact fin_ | (show ∃ _, _ ∧ _; refine ex_ ?_) | (show ∃ _ _, _ ∧ _; refine ex2_ ?_) | fail)
  · intro i hi
    by_cases hlt : i < a.n.toNat
    · have hlo : (findOut a i).length ≤ 36 := by
        rw [findOut_len]
        exact Nat.le_trans (Nat.mul_le_mul_right _ (by omega)) (sq_le (show a.n.toNat ≤ 6 by omega))
      (repeat' (conv => whnf) <;> first | exact True.intro | (refine if_ ?_ ?_ <;> intro h <;> first | exact h.elim | (exfalso; omega) | skip) | refine vs_ ?_ | refine dv_ ?_ | exact fin_ | (show ∃ _, _ ∧ _; refine ex_ ?_) | (show ∃ _ _, _ ∧ _; refine ex2_ ?_) | fail)
      conv => whnf
      refine vc_loop (α := Nat) 0 (fun k => a.n.toNat - k) (fun k => k ≤ a.n.toNat) [] (fun k => [(4, .row 5 1), (5, .d (.int .i64 i)), (6, .d (.int .i64 k))]) (fun k => [(5, .data 1 (rowsL (a.n.toNat + 1) (findOut a i ++ findIn a i k)))]) lp_ ?_ ?_
      · (repeat' (conv => whnf) <;> first | exact True.intro | (refine if_ ?_ ?_ <;> intro h <;> first | exact h.elim | (exfalso; omega) | skip) | refine vs_ ?_ (by first | exact congrArg (fun x => Chunk.data 1 (rowsL (a.n.toNat + 1) x)) (List.append_nil _).symm | exact sd_) | refine dv_ ?_ | exact fin_ | (show ∃ _, _ ∧ _; refine ex_ ?_) | (show ∃ _ _, _ ∧ _; refine ex2_ ?_) | fail)
      · intro k hk
        have hli := findIn_len a i k
        by_cases hlt2 : k < a.n.toNat
        · (repeat' (conv => whnf) <;> first | exact True.intro | (refine if_ ?_ ?_ <;> intro h <;> first | exact h.elim | (exfalso; omega) | skip) | refine vs_ ?_ | refine dv_ ?_ | exact fin_ | (show ∃ _, _ ∧ _; refine ex_ ?_) | (show ∃ _ _, _ ∧ _; refine ex2_ ?_) | fail)
          conv => whnf
          refine vc_loop (α := Nat) 0 (fun j => a.n.toNat - j) (fun j => j ≤ a.n.toNat) [] (fun j => [(4, .row 5 1), (5, .d (.int .i64 i)), (6, .d (.int .i64 k)), (7, .row 8 1), (8, .d (.int .i64 j))]) (fun j => [(5, .data 1 (rowsL (a.n.toNat + 1) (findOut a i ++ findIn a i k))), (8, .data 1 (row j (findR a i k)))]) lp_ ?_ ?_
          · (repeat' (conv => whnf) <;> first | exact True.intro | (refine if_ ?_ ?_ <;> intro h <;> first | exact h.elim | (exfalso; omega) | skip) | refine vs_ ?_ | refine dv_ ?_ | exact fin_ | (show ∃ _, _ ∧ _; refine ex_ ?_) | (show ∃ _ _, _ ∧ _; refine ex2_ ?_) | fail)
          · intro j hj
            have h3 := ha.T j i k
            (repeat' (conv => whnf) <;> first | exact True.intro | (refine if_ ?_ ?_ <;> intro h <;> first | exact h.elim | (exfalso; omega) | skip) | refine vs_ ?_ | refine dv_ ?_ | exact fin_ | (show ∃ _, _ ∧ _; refine ex_ ?_) | (show ∃ _ _, _ ∧ _; refine ex2_ ?_) | fail)
            · conv => whnf
              refine ⟨j + 1, by omega, by omega, ?_⟩
              (repeat' (conv => whnf) <;> first | exact True.intro | (refine if_ ?_ ?_ <;> intro h <;> first | exact h.elim | (exfalso; omega) | skip) | refine vs_ ?_ (by first | exact row_app (by unfold findR; rw [if_pos (by omega)]) | exact sd_) | refine dv_ ?_ | exact fin_ | (show ∃ _, _ ∧ _; refine ex_ ?_) | (show ∃ _ _, _ ∧ _; refine ex2_ ?_) | fail)
            · have : j = a.n.toNat := by omega
              conv => whnf
              refine ⟨k + 1, by omega, by omega, ?_⟩
              have e1 : (row j (findR a i k) ++ [[.int .i64 1]] : List (List D)) = row (a.n.toNat + 1) (findR a i k) := by
                rw [this]; exact row_app' (by unfold findR; rw [if_neg (by omega), if_pos (by omega)])
              (repeat' (conv => whnf) <;> first | exact True.intro | (refine if_ ?_ ?_ <;> intro h <;> first | exact h.elim | (exfalso; omega) | skip) | refine vs_ ?_ (by first | exact (rowsL_appR e1).trans (congrArg (fun x => Chunk.data 1 (rowsL (a.n.toNat + 1) x)) (List.append_assoc ..)) | exact sd_) | refine dv_ ?_ | exact fin_ | (show ∃ _, _ ∧ _; refine ex_ ?_) | (show ∃ _ _, _ ∧ _; refine ex2_ ?_) | fail)
            · have : j = a.n.toNat := by omega
              conv => whnf
              refine ⟨k + 1, by omega, by omega, ?_⟩
              have e1 : (row j (findR a i k) ++ [[.int .i64 0]] : List (List D)) = row (a.n.toNat + 1) (findR a i k) := by
                rw [this]; exact row_app' (by unfold findR; rw [if_neg (by omega), if_neg (by omega)])
              (repeat' (conv => whnf) <;> first | exact True.intro | (refine if_ ?_ ?_ <;> intro h <;> first | exact h.elim | (exfalso; omega) | skip) | refine vs_ ?_ (by first | exact (rowsL_appR e1).trans (congrArg (fun x => Chunk.data 1 (rowsL (a.n.toNat + 1) x)) (List.append_assoc ..)) | exact sd_) | refine dv_ ?_ | exact fin_ | (show ∃ _, _ ∧ _; refine ex_ ?_) | (show ∃ _ _, _ ∧ _; refine ex2_ ?_) | fail)
        · have : k = a.n.toNat := by omega
          subst this
          (repeat' (conv => whnf) <;> first | exact True.intro | (refine if_ ?_ ?_ <;> intro h <;> first | exact h.elim | (exfalso; omega) | skip) | refine vs_ ?_ | refine dv_ ?_ | exact fin_ | (show ∃ _, _ ∧ _; refine ex_ ?_) | (show ∃ _ _, _ ∧ _; refine ex2_ ?_) | fail)
          conv => whnf
          refine ⟨i + 1, by omega, by omega, ?_⟩
          (repeat' (conv => whnf) <;> first | exact True.intro | (refine if_ ?_ ?_ <;> intro h <;> first | exact h.elim | (exfalso; omega) | skip) | refine vs_ ?_ | refine dv_ ?_ | exact fin_ | (show ∃ _, _ ∧ _; refine ex_ ?_) | (show ∃ _ _, _ ∧ _; refine ex2_ ?_) | fail)
    · have : i = a.n.toNat := by omega
      subst this
      cases hsol : sSolveF a.p a.n.toNat (findOut a a.n.toNat) with
      | none =>
        have e1 : findF a = none := by unfold findF; rw [hsol]
        rw [hsol] at hS'
        rw [e1]
        (repeat' (conv => whnf) <;> first | exact True.intro | (refine if_ ?_ ?_ <;> intro h <;> first | exact h.elim | (exfalso; omega) | skip) | refine vs_ ?_ | refine dv_ ?_ | exact fin_ | (show ∃ _, _ ∧ _; refine ex_ ?_ (by first | with_reducible exact rfl | exact hS' | exact rd_)) | (show ∃ _ _, _ ∧ _; refine ex2_ ?_ (by first | with_reducible exact rfl | exact hS' | exact rd_)) | fail)
      | some r =>
        have hr := sol_rw ha.p hRL hsol
        have hvb : Byts (vecR a.n.toNat r) := fun q => by
          have := hr q
          unfold vecR; split <;> omega
        rw [hsol] at hS'
        have hbb := basV_byt
        have common : ∀ (x : Option (Nat → Int)), findF a = x → (x = some (vecR a.n.toNat r) ∧ (∀ i : Nat, i < a.n.toNat → VEq (timesV a (basV i) (vecR a.n.toNat r)) (basV i)) ∨ x = none ∧ ¬ ∀ i : Nat, i < a.n.toNat → VEq (timesV a (basV i) (vecR a.n.toNat r)) (basV i)) := by
          rintro x rfl
          unfold findF
          rw [hsol]; dsimp only
          by_cases hall : ∀ i : Nat, i < a.n.toNat → VEq (timesV a (basV i) (vecR a.n.toNat r)) (basV i)
          · left; rw [if_pos hall]; exact ⟨rfl, hall⟩
          · right; rw [if_neg hall]; exact ⟨rfl, hall⟩
        (repeat' (conv => whnf) <;> first | exact True.intro | (refine if_ ?_ ?_ <;> intro h <;> first | exact h.elim | (exfalso; omega) | skip) | refine vs_ ?_ | refine dv_ ?_ | exact fin_ | (show ∃ _, _ ∧ _; refine ex_ ?_ (by first | with_reducible exact rfl | exact hS' | exact rd_)) | (show ∃ _ _, _ ∧ _; refine ex2_ ?_ (by first | with_reducible exact rfl | exact hS' | exact rd_)) | fail)
        conv => whnf
        refine vc_loop (α := Nat) 0 (fun i => a.n.toNat - i) (fun i => i ≤ a.n.toNat) [] (fun i => [(9, .d (rowD a.n.toNat r)), (11, .ptr 12 6 0 0), (12, .d (.int .i64 i))]) (fun i => [(12, .data 6 [vecL (prog i (vecR a.n.toNat r) Z)])]) lp_ ?_ ?_
        · (repeat' (conv => whnf) <;> first | exact True.intro | (refine if_ ?_ ?_ <;> intro h <;> first | exact h.elim | (exfalso; omega) | skip) | refine vs_ ?_ (by first | exact zeros6 (fun i _ => by simp [prog, Z]) | exact sd_) | refine dv_ ?_ | exact fin_ | (show ∃ _, _ ∧ _; refine ex_ ?_) | (show ∃ _ _, _ ∧ _; refine ex2_ ?_) | fail)
        · intro i hi
          have h1 := hr i
          by_cases hlt2 : i < a.n.toNat
          · (repeat' (conv => whnf) <;> first | exact True.intro | (refine if_ ?_ ?_ <;> intro h <;> first | exact h.elim | (exfalso; omega) | skip) | refine vs_ ?_ | refine dv_ ?_ | exact fin_ | (show ∃ _, _ ∧ _; refine ex_ ?_) | (show ∃ _ _, _ ∧ _; refine ex2_ ?_) | fail)
            conv => whnf
            refine ⟨i + 1, by omega, by omega, ?_⟩
            (repeat' (conv => whnf) <;> first | exact True.intro | (refine if_ ?_ ?_ <;> intro h <;> first | exact h.elim | (exfalso; omega) | skip) | refine vs_ ?_ (by first | exact st_prog (by unfold vecR; rw [if_pos hlt2]) | exact sd_) | refine dv_ ?_ | exact fin_ | (show ∃ _, _ ∧ _; refine ex_ ?_) | (show ∃ _ _, _ ∧ _; refine ex2_ ?_) | fail)
          · have : i = a.n.toNat := by omega
            rw [this, vec_prog]
            (repeat' (conv => whnf) <;> first | exact True.intro | (refine if_ ?_ ?_ <;> intro h <;> first | exact h.elim | (exfalso; omega) | skip) | refine vs_ ?_ | refine dv_ ?_ | exact fin_ | (show ∃ _, _ ∧ _; refine ex_ ?_) | (show ∃ _ _, _ ∧ _; refine ex2_ ?_) | fail)
            conv => whnf
            refine vc_loop (α := Nat) 0 (fun j => a.n.toNat - j) (fun j => j ≤ a.n.toNat ∧ ∀ j', j' < j → VEq (timesV a (basV j') (vecR a.n.toNat r)) (basV j')) [] (fun j => [(13, .d (.int .i64 j))]) (fun j => []) lp_ ?_ ?_
            · (repeat' (conv => whnf) <;> first | exact True.intro | (refine if_ ?_ ?_ <;> intro h <;> first | exact h.elim | (exfalso; omega) | skip) | refine vs_ ?_ | refine dv_ ?_ | exact fin_ | (show ∃ _, _ ∧ _; refine ex_ ?_) | (show ∃ _ _, _ ∧ _; refine ex2_ ?_) | fail)
            · rintro j ⟨hj, hx⟩
              (repeat' (conv => whnf) <;> first | exact True.intro | (refine if_ ?_ ?_ <;> intro h <;> first | exact h.elim | (exfalso; omega) | skip) | refine vs_ ?_ (by first | exact ⟨conf_vec _, conf_vec _⟩ | exact sd_) | refine dv_ ?_ | exact fin_ | (show ∃ _, _ ∧ _; refine ex_ ?_ (by first | with_reducible exact rfl | exact hB (by omega) | exact hT ha.b (hbb _) hvb (by omega) (by omega) | exact eq_vec | exact rd_)) | (show ∃ _ _, _ ∧ _; refine ex2_ ?_ (by first | with_reducible exact rfl | exact hB (by omega) | exact hT ha.b (hbb _) hvb (by omega) (by omega) | exact eq_vec | exact rd_)) | fail)
              · conv => whnf
                rcases common _ rfl with ⟨e, h⟩ | ⟨e, h⟩
                · exact absurd (h j (by omega)) ‹_›
                · rw [e]; rfl
              · conv => whnf
                refine ⟨j + 1, ⟨by omega, all_succ hx ‹_›⟩, by omega, ?_⟩
                (repeat' (conv => whnf) <;> first | exact True.intro | (refine if_ ?_ ?_ <;> intro h <;> first | exact h.elim | (exfalso; omega) | skip) | refine vs_ ?_ | refine dv_ ?_ | exact fin_ | (show ∃ _, _ ∧ _; refine ex_ ?_) | (show ∃ _ _, _ ∧ _; refine ex2_ ?_) | fail)
              · conv => whnf
                rcases common _ rfl with ⟨e, h⟩ | ⟨e, h⟩
                · rw [e]; rfl
                · exact absurd (fun j' hj' => hx j' (by omega)) h
end Go.X
namespace Go.X
open Go Go.RowKit
set_option maxRecDepth 100000
set_option maxHeartbeats 8000000
set_option linter.unusedSimpArgs false
set_option linter.unusedVariables false
variable {P : Program} {N : FN}
theorem c_sUnit (hF : C_sFind P N) (hf : isFn P N.spec_l01Unit (ir_spec_l01Unit N) = true) : C_sUnit P N := by
  intro a ha
  have hF' := hF ha
  cases hu : findF a with
  | none =>
    rw [hu] at hF'
    refine can_of hf rfl rfl ?_
    (repeat' (conv => whnf) <;> first | exact True.intro | (refine if_ ?_ ?_ <;> intro h <;> first | exact h.elim | (exfalso; omega) | skip) | refine vs_ ?_ | refine dv_ ?_ | exact fin_ | (show ∃ _, _ ∧ _; refine ex_ ?_ (by first | with_reducible exact rfl | exact hF' | exact rd_)) | (show ∃ _ _, _ ∧ _; refine ex2_ ?_ (by first | with_reducible exact rfl | exact hF' | exact rd_)) | fail)
  | some u =>
    rw [hu] at hF'
    refine can_of hf rfl rfl ?_
    (repeat' (conv => whnf) <;> first | exact True.intro | (refine if_ ?_ ?_ <;> intro h <;> first | exact h.elim | (exfalso; omega) | skip) | refine vs_ ?_ | refine dv_ ?_ | exact fin_ | (show ∃ _, _ ∧ _; refine ex_ ?_ (by first | with_reducible exact rfl | exact hF' | exact rd_)) | (show ∃ _ _, _ ∧ _; refine ex2_ ?_ (by first | with_reducible exact rfl | exact hF' | exact rd_)) | fail)
theorem basV_byt1 (i : Nat) : Byts (basV i) := fun j => by unfold basV; split <;> omega
theorem c_sAlgebra (hSh : C_sShape P N) (hF : C_sFind P N) (hB : C_sBasis P N) (hT : C_sTimes P N) (hf : isFn P N.spec_l01Algebra (ir_spec_l01Algebra N) = true) : C_sAlgebra P N := by
  intro a hb hok
  refine can_of hf rfl rfl ?_
  by_cases hs : ShapeP a
  · have ha := hok hs
    have hn := ha.n
    have hp2 := prime_bd ha.p
    have hbb := basV_byt1
    have hF' := hF ha
    have hsb : Can P N.spec_l01Shape [algD a] (.val (.bool true)) := by have := hSh hb; rwa [dB_t hs] at this
    (repeat' (conv => whnf) <;> first | exact True.intro | (refine if_ ?_ ?_ <;> intro h <;> first | exact h.elim | (exfalso; omega) | skip) | refine vs_ ?_ | refine dv_ ?_ | exact fin_ | (show ∃ _, _ ∧ _; refine ex_ ?_ (by first | with_reducible exact rfl | exact hsb | exact rd_)) | (show ∃ _ _, _ ∧ _; refine ex2_ ?_ (by first | with_reducible exact rfl | exact hsb | exact rd_)) | fail)
    conv => whnf
    refine vc_loop (α := Nat) 0 (fun i => a.n.toNat - i) (fun i => i ≤ a.n.toNat ∧ ∀ i', i' < i → ∀ j k : Nat, (j : Int) < a.n → (k : Int) < a.n → VEq (timesV a (a.T i' j) (basV k)) (timesV a (basV i') (a.T j k))) [] (fun i => [(3, .d (.int .i64 i))]) (fun i => []) lp_ ?_ ?_
    · (repeat' (conv => whnf) <;> first | exact True.intro | (refine if_ ?_ ?_ <;> intro h <;> first | exact h.elim | (exfalso; omega) | skip) | refine vs_ ?_ | refine dv_ ?_ | exact fin_ | (show ∃ _, _ ∧ _; refine ex_ ?_) | (show ∃ _ _, _ ∧ _; refine ex2_ ?_) | fail)
    · rintro i ⟨hi, hx⟩
      by_cases hlt : i < a.n.toNat
      · (repeat' (conv => whnf) <;> first | exact True.intro | (refine if_ ?_ ?_ <;> intro h <;> first | exact h.elim | (exfalso; omega) | skip) | refine vs_ ?_ | refine dv_ ?_ | exact fin_ | (show ∃ _, _ ∧ _; refine ex_ ?_) | (show ∃ _ _, _ ∧ _; refine ex2_ ?_) | fail)
        conv => whnf
        refine vc_loop (α := Nat) 0 (fun j => a.n.toNat - j) (fun j => j ≤ a.n.toNat ∧ ∀ j', j' < j → ∀ k : Nat, (k : Int) < a.n → VEq (timesV a (a.T i j') (basV k)) (timesV a (basV i) (a.T j' k))) [] (fun j => [(3, .d (.int .i64 i)), (4, .d (.int .i64 j))]) (fun j => []) lp_ ?_ ?_
        · (repeat' (conv => whnf) <;> first | exact True.intro | (refine if_ ?_ ?_ <;> intro h <;> first | exact h.elim | (exfalso; omega) | skip) | refine vs_ ?_ | refine dv_ ?_ | exact fin_ | (show ∃ _, _ ∧ _; refine ex_ ?_) | (show ∃ _ _, _ ∧ _; refine ex2_ ?_) | fail)
        · rintro j ⟨hj, hy⟩
          (repeat' (conv => whnf) <;> first | exact True.intro | (refine if_ ?_ ?_ <;> intro h <;> first | exact h.elim | (exfalso; omega) | skip) | refine vs_ ?_ | refine dv_ ?_ | exact fin_ | (show ∃ _, _ ∧ _; refine ex_ ?_) | (show ∃ _ _, _ ∧ _; refine ex2_ ?_) | fail)
          · conv => whnf
            refine vc_loop (α := Nat) 0 (fun k => a.n.toNat - k) (fun k => k ≤ a.n.toNat ∧ ∀ k', k' < k → VEq (timesV a (a.T i j) (basV k')) (timesV a (basV i) (a.T j k'))) [] (fun k => [(3, .d (.int .i64 i)), (4, .d (.int .i64 j)), (5, .d (.int .i64 k))]) (fun k => []) lp_ ?_ ?_
            · (repeat' (conv => whnf) <;> first | exact True.intro | (refine if_ ?_ ?_ <;> intro h <;> first | exact h.elim | (exfalso; omega) | skip) | refine vs_ ?_ | refine dv_ ?_ | exact fin_ | (show ∃ _, _ ∧ _; refine ex_ ?_) | (show ∃ _ _, _ ∧ _; refine ex2_ ?_) | fail)
            · rintro k ⟨hk, hz⟩
              (repeat' (conv => whnf) <;> first | exact True.intro | (refine if_ ?_ ?_ <;> intro h <;> first | exact h.elim | (exfalso; omega) | skip) | refine vs_ ?_ (by first | exact ⟨conf_vec _, conf_vec _⟩ | exact sd_) | refine dv_ ?_ | exact fin_ | (show ∃ _, _ ∧ _; refine ex_ ?_ (by first | with_reducible exact rfl | exact hB (by omega) | exact hT hb (hb.1 i j) (hbb _) (by omega) (by omega) | exact hT hb (hbb _) (hb.1 j k) (by omega) (by omega) | exact eq_vec | exact rd_)) | (show ∃ _ _, _ ∧ _; refine ex2_ ?_ (by first | with_reducible exact rfl | exact hB (by omega) | exact hT hb (hb.1 i j) (hbb _) (by omega) (by omega) | exact hT hb (hbb _) (hb.1 j k) (by omega) (by omega) | exact eq_vec | exact rd_)) | fail)
              · conv => whnf
                exact no (fun h => absurd (h.2.1 i j k (by omega) (by omega) (by omega)) ‹_›)
              · conv => whnf
                refine ⟨k + 1, ⟨by omega, all_succ hz ‹_›⟩, by omega, ?_⟩
                (repeat' (conv => whnf) <;> first | exact True.intro | (refine if_ ?_ ?_ <;> intro h <;> first | exact h.elim | (exfalso; omega) | skip) | refine vs_ ?_ | refine dv_ ?_ | exact fin_ | (show ∃ _, _ ∧ _; refine ex_ ?_) | (show ∃ _ _, _ ∧ _; refine ex2_ ?_) | fail)
              · conv => whnf
                refine ⟨j + 1, ⟨by omega, all_succ hy (fun k' hk' => hz k' (by omega))⟩, by omega, ?_⟩
                (repeat' (conv => whnf) <;> first | exact True.intro | (refine if_ ?_ ?_ <;> intro h <;> first | exact h.elim | (exfalso; omega) | skip) | refine vs_ ?_ | refine dv_ ?_ | exact fin_ | (show ∃ _, _ ∧ _; refine ex_ ?_) | (show ∃ _ _, _ ∧ _; refine ex2_ ?_) | fail)
          · conv => whnf
            refine ⟨i + 1, ⟨by omega, all_succ hx (fun j' k' hj' hk' => hy j' (by omega) k' hk')⟩, by omega, ?_⟩
            (repeat' (conv => whnf) <;> first | exact True.intro | (refine if_ ?_ ?_ <;> intro h <;> first | exact h.elim | (exfalso; omega) | skip) | refine vs_ ?_ | refine dv_ ?_ | exact fin_ | (show ∃ _, _ ∧ _; refine ex_ ?_) | (show ∃ _ _, _ ∧ _; refine ex2_ ?_) | fail)
      · have hass : AssocP a := fun i' j k h1 h2 h3 => hx i' (by omega) j k h2 h3
        cases hu : findF a with
        | none =>
          rw [hu] at hF'
          (repeat' (conv => whnf) <;> first | exact True.intro | (refine if_ ?_ ?_ <;> intro h <;> first | exact h.elim | (exfalso; omega) | skip) | refine vs_ ?_ | refine dv_ ?_ | exact fin_ | (show ∃ _, _ ∧ _; refine ex_ ?_ (by first | with_reducible exact rfl | exact hF' | exact rd_)) | (show ∃ _ _, _ ∧ _; refine ex2_ ?_ (by first | with_reducible exact rfl | exact hF' | exact rd_)) | fail)
          all_goals (conv => whnf)
          all_goals exact no (fun h => by simp at h)
        | some u =>
          rw [hu] at hF'
          (repeat' (conv => whnf) <;> first | exact True.intro | (refine if_ ?_ ?_ <;> intro h <;> first | exact h.elim | (exfalso; omega) | skip) | refine vs_ ?_ | refine dv_ ?_ | exact fin_ | (show ∃ _, _ ∧ _; refine ex_ ?_ (by first | with_reducible exact rfl | exact hF' | exact rd_)) | (show ∃ _ _, _ ∧ _; refine ex2_ ?_ (by first | with_reducible exact rfl | exact hF' | exact rd_)) | fail)
          all_goals (conv => whnf)
          all_goals exact yes ⟨hs, hass, rfl⟩
  · have hsb : Can P N.spec_l01Shape [algD a] (.val (.bool false)) := by have := hSh hb; rwa [dB_f hs] at this
    (repeat' (conv => whnf) <;> first | exact True.intro | (refine if_ ?_ ?_ <;> intro h <;> first | exact h.elim | (exfalso; omega) | skip) | refine vs_ ?_ | refine dv_ ?_ | exact fin_ | (show ∃ _, _ ∧ _; refine ex_ ?_ (by first | with_reducible exact rfl | exact hsb | exact rd_)) | (show ∃ _ _, _ ∧ _; refine ex2_ ?_ (by first | with_reducible exact rfl | exact hsb | exact rd_)) | fail)
    conv => whnf
    exact no (fun h => hs h.1)
end Go.X
namespace Go.X
open Go Go.RowKit
set_option maxRecDepth 100000
set_option maxHeartbeats 8000000
set_option linter.unusedSimpArgs false
set_option linter.unusedVariables false
variable {P : Program} {N : FN}
theorem c_behind (hf : isFn P N.impl_Algebra_behind (ir_impl_Algebra_behind N) = true) : C_behind P N := by
  intro sz l e off w
  refine can_of hf rfl rfl ?_
  (repeat' (conv => whnf) <;> first | exact True.intro | (refine if_ ?_ ?_ <;> intro h <;> first | exact h.elim | (exfalso; omega) | skip) | refine vs_ ?_ | refine dv_ ?_ | exact fin_ | (show ∃ _, _ ∧ _; refine ex_ ?_) | (show ∃ _ _, _ ∧ _; refine ex2_ ?_) | fail)
theorem c_ahead (hf : isFn P N.impl_Algebra_ahead (ir_impl_Algebra_ahead N) = true) : C_ahead P N := by
  intro sz l e off w
  refine can_of hf rfl rfl ?_
  (repeat' (conv => whnf) <;> first | exact True.intro | (refine if_ ?_ ?_ <;> intro h <;> first | exact h.elim | (exfalso; omega) | skip) | refine vs_ ?_ | refine dv_ ?_ | exact fin_ | (show ∃ _, _ ∧ _; refine ex_ ?_) | (show ∃ _ _, _ ∧ _; refine ex2_ ?_) | fail)
theorem c_behind1 (hT : C_times P N) (hf : isFn P N.impl_Algebra_behind_1 (ir_impl_Algebra_behind_1 N) = true) : C_behind1 P N := by
  intro sz l e off a v w hat ha hv hw
  have hp2 := prime_bd ha.p
  have hn := ha.n
  refine can_of hf rfl rfl ?_
  (repeat' (conv => whnf) <;> first | exact True.intro | (refine if_ ?_ ?_ <;> intro h <;> first | exact h.elim | (exfalso; omega) | skip) | refine vs_ ?_ | refine dv_ ?_ | exact fin_ | (show ∃ _, _ ∧ _; refine ex_ ?_ (by first | with_reducible exact rfl | exact hT hat ha.b hv hw (by omega) (by omega) | exact rd_)) | (show ∃ _ _, _ ∧ _; refine ex2_ ?_ (by first | with_reducible exact rfl | exact hT hat ha.b hv hw (by omega) (by omega) | exact rd_)) | fail)
theorem c_ahead1 (hT : C_times P N) (hf : isFn P N.impl_Algebra_ahead_1 (ir_impl_Algebra_ahead_1 N) = true) : C_ahead1 P N := by
  intro sz l e off a v w hat ha hv hw
  have hp2 := prime_bd ha.p
  have hn := ha.n
  refine can_of hf rfl rfl ?_
  (repeat' (conv => whnf) <;> first | exact True.intro | (refine if_ ?_ ?_ <;> intro h <;> first | exact h.elim | (exfalso; omega) | skip) | refine vs_ ?_ | refine dv_ ?_ | exact fin_ | (show ∃ _, _ ∧ _; refine ex_ ?_ (by first | with_reducible exact rfl | exact hT hat ha.b hw hv (by omega) (by omega) | exact rd_)) | (show ∃ _ _, _ ∧ _; refine ex2_ ?_ (by first | with_reducible exact rfl | exact hT hat ha.b hw hv (by omega) (by omega) | exact rd_)) | fail)
theorem rd_map {m q : Nat} {g : Nat → FuncId} {c d : Nat → D} (h : q < m) : get2 (mapsL m g c d) ((q : Nat) : Int).toNat 0 = some (.fn (g q) [] [c q, d q]) := by
  simp [get2, mapsL, arr_get h]
theorem mapsL_len (m : Nat) (g : Nat → FuncId) (c d : Nat → D) : (mapsL m g c d).length = m := arr_len ..
theorem nest_putA {f : Nat → List (List D)} {n : Nat} {x y : List (List D)} (hy : y = f n) : Chunk.nest 1 ((arr n f ++ [x]).set (arr n f).length y) none = .nest 1 (arr (n + 1) f) none := by
  subst hy
  rw [arr_succ]
  congr 1
  rw [List.set_append_right _ _ (Nat.le_refl _), Nat.sub_self]; rfl
theorem c_equations (hN : C_n P N) (hB : C_basis P N) (hf : isFn P N.impl_Algebra_equations (ir_impl_Algebra_equations N) = true) : C_equations P N := by
  intro sz l e off a m g c d M hat ha hm hM hmap
  have hn := ha.n
  have hN' : Can P N.impl_Algebra_n [.pd sz l e off] (.val (.int .i64 a.n)) := hN hat
  have hml := mapsL_len m g c d
  refine can_of hf rfl rfl ?_
  (repeat' (conv => whnf) <;> first | exact True.intro | (refine if_ ?_ ?_ <;> intro h <;> first | exact h.elim | (exfalso; omega) | skip) | refine vs_ ?_ | refine dv_ ?_ | exact fin_ | (show ∃ _, _ ∧ _; refine ex_ ?_) | (show ∃ _ _, _ ∧ _; refine ex2_ ?_) | fail)
  conv => whnf
  generalize hnn : a.n.toNat = n at *
  have hn' : a.n = (n : Int) := by omega
  rw [hn'] at hN'
  refine vc_loop (α := Nat) 0 (fun q => m - q) (fun q => q ≤ m) [] (fun q => [(5, .row 6 1), (12, .d (.lst 1 (mapsL m g c d))), (13, .d (.int .i64 m)), (14, .d (.int .i64 q))]) (fun q => [(6, .nest 1 (arr (q * n) fun r => row n (eqR M n r)) none)]) lp_ ?_ ?_
  · (repeat' (conv => whnf) <;> first | exact True.intro | (refine if_ ?_ ?_ <;> intro h <;> first | exact h.elim | (exfalso; omega) | skip) | refine vs_ ?_ (by first | (refine congrArg (fun x => AV.d (D.int .i64 x)) ?_; rw [hml]) | (rw [Nat.zero_mul]; rfl) | exact sd_) | refine dv_ ?_ | exact fin_ | (show ∃ _, _ ∧ _; refine ex_ ?_) | (show ∃ _ _, _ ∧ _; refine ex2_ ?_) | fail)
  · intro q hq
    by_cases hlt : q < m
    · have hmn : (q + 1) * n ≤ m * n := Nat.mul_le_mul_right _ (by omega)
      have hmn2 : m * n ≤ 100 * 6 := Nat.mul_le_mul (by omega) (by omega)
      have hsucc : (q + 1) * n = q * n + n := by rw [Nat.add_mul, Nat.one_mul]
      (repeat' (conv => whnf) <;> first | exact True.intro | (refine if_ ?_ ?_ <;> intro h <;> first | exact h.elim | (exfalso; omega) | skip) | refine vs_ ?_ (by first | exact ⟨rfl, by omega, by rw [hml]; omega⟩ | exact sd_) | refine dv_ ?_ | exact fin_ | (show ∃ _, _ ∧ _; refine ex_ ?_ (by first | with_reducible exact rfl | exact rd_map hlt | exact hN' | exact rd_)) | (show ∃ _ _, _ ∧ _; refine ex2_ ?_ (by first | with_reducible exact rfl | exact rd_map hlt | exact hN' | exact rd_)) | fail)
      conv => whnf
      refine vc_loop (α := Nat) 0 (fun k => n - k) (fun k => k ≤ n) [] (fun k => [(5, .row 6 1), (7, .d (.fn (g q) [] [c q, d q])), (12, .d (.lst 1 (mapsL m g c d))), (13, .d (.int .i64 m)), (14, .d (.int .i64 q)), (19, .d (.int .i64 n)), (20, .d (.int .i64 k))]) (fun k => [(6, .nest 1 (arr (q * n + k) fun r => row n (eqR M n r)) none)]) lp_ ?_ ?_
      · (repeat' (conv => whnf) <;> first | exact True.intro | (refine if_ ?_ ?_ <;> intro h <;> first | exact h.elim | (exfalso; omega) | skip) | refine vs_ ?_ | refine dv_ ?_ | exact fin_ | (show ∃ _, _ ∧ _; refine ex_ ?_) | (show ∃ _ _, _ ∧ _; refine ex2_ ?_) | fail)
      · intro k hk
        by_cases hlt2 : k < n
        · have hdiv : (q * n + k) / n = q := by rw [Nat.mul_comm, Nat.mul_add_div (by omega), Nat.div_eq_of_lt hlt2, Nat.add_zero]
          have hmod : (q * n + k) % n = k := by rw [Nat.mul_comm, Nat.mul_add_mod, Nat.mod_eq_of_lt hlt2]
          have he : ∀ i, eqR M n (q * n + k) i = M q i k := fun i => by unfold eqR; rw [hdiv, hmod]
          (repeat' (conv => whnf) <;> first | exact True.intro | (refine if_ ?_ ?_ <;> intro h <;> first | exact h.elim | (exfalso; omega) | skip) | refine vs_ ?_ | refine dv_ ?_ | exact fin_ | (show ∃ _, _ ∧ _; refine ex_ ?_ (by first | with_reducible exact rfl | exact hN' | exact rd_)) | (show ∃ _ _, _ ∧ _; refine ex2_ ?_ (by first | with_reducible exact rfl | exact hN' | exact rd_)) | fail)
          conv => whnf
          refine vc_loop (α := Nat) 0 (fun i => n - i) (fun i => i ≤ n) [] (fun i => [(5, .row 6 1), (7, .d (.fn (g q) [] [c q, d q])), (8, .d (.int .i64 k)), (9, .row 10 1), (12, .d (.lst 1 (mapsL m g c d))), (13, .d (.int .i64 m)), (14, .d (.int .i64 q)), (19, .d (.int .i64 n)), (20, .d (.int .i64 k)), (25, .d (.int .i64 n)), (26, .d (.int .i64 i))]) (fun i => [(6, .nest 1 (arr (q * n + k) fun r => row n (eqR M n r)) none), (10, .data 1 (row i (eqR M n (q * n + k))))]) lp_ ?_ ?_
          · (repeat' (conv => whnf) <;> first | exact True.intro | (refine if_ ?_ ?_ <;> intro h <;> first | exact h.elim | (exfalso; omega) | skip) | refine vs_ ?_ | refine dv_ ?_ | exact fin_ | (show ∃ _, _ ∧ _; refine ex_ ?_) | (show ∃ _ _, _ ∧ _; refine ex2_ ?_) | fail)
          · intro i hi
            have hb := hM q i k
            by_cases hlt3 : i < n
            · (repeat' (conv => whnf) <;> first | exact True.intro | (refine if_ ?_ ?_ <;> intro h <;> first | exact h.elim | (exfalso; omega) | skip) | refine vs_ ?_ | refine dv_ ?_ | exact fin_ | (show ∃ _, _ ∧ _; refine ex_ ?_ (by first | with_reducible exact rfl | exact hB (by omega) | exact hmap q i hlt hlt3 | exact rd_idx (by omega) | exact rd_)) | (show ∃ _ _, _ ∧ _; refine ex2_ ?_ (by first | with_reducible exact rfl | exact hB (by omega) | exact hmap q i hlt hlt3 | exact rd_idx (by omega) | exact rd_)) | fail)
              conv => whnf
              refine ⟨i + 1, by omega, by omega, ?_⟩
              (repeat' (conv => whnf) <;> first | exact True.intro | (refine if_ ?_ ?_ <;> intro h <;> first | exact h.elim | (exfalso; omega) | skip) | refine vs_ ?_ (by first | exact row_app (he i).symm | exact sd_) | refine dv_ ?_ | exact fin_ | (show ∃ _, _ ∧ _; refine ex_ ?_) | (show ∃ _ _, _ ∧ _; refine ex2_ ?_) | fail)
            · have : i = n := by omega
              (repeat' (conv => whnf) <;> first | exact True.intro | (refine if_ ?_ ?_ <;> intro h <;> first | exact h.elim | (exfalso; omega) | skip) | refine vs_ ?_ | refine dv_ ?_ | exact fin_ | (show ∃ _, _ ∧ _; refine ex_ ?_) | (show ∃ _ _, _ ∧ _; refine ex2_ ?_) | fail)
              conv => whnf
              refine ⟨k + 1, by omega, by omega, ?_⟩
              (repeat' (conv => whnf) <;> first | exact True.intro | (refine if_ ?_ ?_ <;> intro h <;> first | exact h.elim | (exfalso; omega) | skip) | refine vs_ ?_ (by first | exact nest_putA (by rw [this]) | exact sd_) | refine dv_ ?_ | exact fin_ | (show ∃ _, _ ∧ _; refine ex_ ?_) | (show ∃ _ _, _ ∧ _; refine ex2_ ?_) | fail)
        · have : k = n := by omega
          (repeat' (conv => whnf) <;> first | exact True.intro | (refine if_ ?_ ?_ <;> intro h <;> first | exact h.elim | (exfalso; omega) | skip) | refine vs_ ?_ | refine dv_ ?_ | exact fin_ | (show ∃ _, _ ∧ _; refine ex_ ?_) | (show ∃ _ _, _ ∧ _; refine ex2_ ?_) | fail)
          conv => whnf
          refine ⟨q + 1, by omega, by omega, ?_⟩
          (repeat' (conv => whnf) <;> first | exact True.intro | (refine if_ ?_ ?_ <;> intro h <;> first | exact h.elim | (exfalso; omega) | skip) | refine vs_ ?_ (by first | (rw [this, hsucc]) | exact sd_) | refine dv_ ?_ | exact fin_ | (show ∃ _, _ ∧ _; refine ex_ ?_) | (show ∃ _ _, _ ∧ _; refine ex2_ ?_) | fail)
    · have : q = m := by omega
      (repeat' (conv => whnf) <;> first | exact True.intro | (refine if_ ?_ ?_ <;> intro h <;> first | exact h.elim | (exfalso; omega) | skip) | refine vs_ ?_ | refine dv_ ?_ | exact fin_ | (show ∃ _, _ ∧ _; refine ex_ ?_) | (show ∃ _ _, _ ∧ _; refine ex2_ ?_) | fail)
      conv => whnf
      rw [this]
end Go.X
namespace Go.X
open Go Go.RowKit
set_option maxRecDepth 100000
set_option maxHeartbeats 8000000
set_option linter.unusedSimpArgs false
set_option linter.unusedVariables false
variable {P : Program} {N : FN}
abbrev tabC (a : Alg) : List D := arr 216 fun q => algF a (2 + q)
abbrev tab1 (a : Alg) (i : Nat) : List D := arr 36 fun q => algF a (2 + (i * 36 + q))
theorem rd_tab {l : List (List D)} {e off : Nat} {a : Alg} (h : AlgAt l e off a) : sub2 l e (off + 2) 216 = some (tabC a) :=
  sub2_of (fun q hq => by rw [← h _ (by omega)]; congr 1; omega) (by omega)
theorem rd_tab1 {a : Alg} {i : Nat} (hi : i < 6) : cut (tabC a) (((i : Nat) : Int).toNat * 36) 36 = some (tab1 a i) := by
  rw [Int.toNat_natCast]; exact arr_cut (by omega)
theorem rd_tab2 {a : Alg} {i j : Nat} (hi : i < 6) (hj : j < 6) : cut (tab1 a i) (((j : Nat) : Int).toNat * 6) 6 = some (vecL (a.T i j)) := by
  rw [Int.toNat_natCast]
  refine (arr_cut (by omega)).trans (congrArg some (arr_ext fun k hk => ?_))
  rw [← algF_T a hi hj hk]; congr 1; omega
theorem rd_stallL {m : Nat} {z l : List D} (hz : z.length = m) (hl : l.length = m) : sub2 ([z].set 0 (splice z 0 l)) 0 0 m = some l := by
  have e : splice z 0 l = l := by
    unfold splice
    rw [List.take_zero, List.nil_append, hl, List.drop_eq_nil_of_le (by omega), List.append_nil]
  rw [e]
  simp only [sub2, cut, List.set_cons_zero, List.getElem?_cons_zero, Option.bind_some, hl, Nat.zero_add, Nat.le_refl, if_true, List.drop_zero]
  rw [List.take_of_length_le (by omega)]
theorem c_tableOk (hV : C_isVector P N) (hN : C_n P N) (hf : isFn P N.impl_Algebra_tableOk (ir_impl_Algebra_tableOk N) = true) : C_tableOk P N := by
  intro sz l e off a hat hb
  have hN' : Can P N.impl_Algebra_n [.pd sz l e off] (.val (.int .i64 a.n)) := hN hat
  refine can_of hf rfl rfl ?_
  (repeat' (conv => whnf) <;> first | exact True.intro | (refine if_ ?_ ?_ <;> intro h <;> first | exact h.elim | (exfalso; omega) | skip) | refine vs_ ?_ | refine dv_ ?_ | exact fin_ | (show ∃ _, _ ∧ _; refine ex_ ?_ (by first | with_reducible exact rfl | exact rd_tab hat | exact rd_)) | (show ∃ _ _, _ ∧ _; refine ex2_ ?_ (by first | with_reducible exact rfl | exact rd_tab hat | exact rd_)) | fail)
  conv => whnf
  refine vc_loop (α := Nat) 0 (fun i => 6 - i) (fun i => i ≤ 6 ∧ ∀ i' : Nat, i' < i → ∀ j : Nat, j < 6 → Small (a.T i' j) a.n a.p ∧ (a.n ≤ (i' : Int) ∨ a.n ≤ (j : Int) → VEq (a.T i' j) Z)) [] (fun i => [(10, .d (.agg (tabC a))), (11, .d (.int .i64 i))]) (fun i => []) lp_ ?_ ?_
  · (repeat' (conv => whnf) <;> first | exact True.intro | (refine if_ ?_ ?_ <;> intro h <;> first | exact h.elim | (exfalso; omega) | skip) | refine vs_ ?_ | refine dv_ ?_ | exact fin_ | (show ∃ _, _ ∧ _; refine ex_ ?_) | (show ∃ _ _, _ ∧ _; refine ex2_ ?_) | fail)
  · rintro i ⟨hi, hx⟩
    by_cases hlt : i < 6
    · (repeat' (conv => whnf) <;> first | exact True.intro | (refine if_ ?_ ?_ <;> intro h <;> first | exact h.elim | (exfalso; omega) | skip) | refine vs_ ?_ | refine dv_ ?_ | exact fin_ | (show ∃ _, _ ∧ _; refine ex_ ?_ (by first | with_reducible exact rfl | exact rd_tab1 (by omega) | exact rd_stallL rfl (arr_len ..) | exact rd_)) | (show ∃ _ _, _ ∧ _; refine ex2_ ?_ (by first | with_reducible exact rfl | exact rd_tab1 (by omega) | exact rd_stallL rfl (arr_len ..) | exact rd_)) | fail)
      conv => whnf
      refine vc_loop (α := Nat) 0 (fun j => 6 - j) (fun j => j ≤ 6 ∧ ∀ j' : Nat, j' < j → Small (a.T i j') a.n a.p ∧ (a.n ≤ (i : Int) ∨ a.n ≤ (j' : Int) → VEq (a.T i j') Z)) [] (fun j => [(3, .d (.int .i64 i)), (10, .d (.agg (tabC a))), (11, .d (.int .i64 i)), (15, .d (.agg (tab1 a i))), (16, .d (.int .i64 j))]) (fun j => []) lp_ ?_ ?_
      · (repeat' (conv => whnf) <;> first | exact True.intro | (refine if_ ?_ ?_ <;> intro h <;> first | exact h.elim | (exfalso; omega) | skip) | refine vs_ ?_ | refine dv_ ?_ | exact fin_ | (show ∃ _, _ ∧ _; refine ex_ ?_) | (show ∃ _ _, _ ∧ _; refine ex2_ ?_) | fail)
      · rintro j ⟨hj, hy⟩
        (repeat' (conv => whnf) <;> first | exact True.intro | (refine if_ ?_ ?_ <;> intro h <;> first | exact h.elim | (exfalso; omega) | skip) | refine vs_ ?_ (by first | exact ⟨conf_vec _, conf_vec Z⟩ | exact sd_) | refine dv_ ?_ | exact fin_ | (show ∃ _, _ ∧ _; refine ex_ ?_ (by first | with_reducible exact rfl | exact rd_tab2 hlt (by omega) | exact hV (hb.1 i j) | exact hN' | exact eq_vec (w := Z) | exact rd_)) | (show ∃ _ _, _ ∧ _; refine ex2_ ?_ (by first | with_reducible exact rfl | exact rd_tab2 hlt (by omega) | exact hV (hb.1 i j) | exact hN' | exact eq_vec (w := Z) | exact rd_)) | fail)
        all_goals (conv => whnf)
        all_goals first
          | exact no (fun hs => absurd (hs.1 i j hlt (by omega)).1 ‹_›)
          | exact no (fun hs => absurd ((hs.1 i j hlt (by omega)).2 (by omega)) ‹_›)
          | (have hq : Small (a.T i j) a.n a.p ∧ (a.n ≤ (i : Int) ∨ a.n ≤ (j : Int) → VEq (a.T i j) Z) := ⟨by assumption, fun h9 => by first | assumption | (exfalso; omega)⟩
             refine ⟨j + 1, ⟨by omega, all_succ hy hq⟩, by omega, ?_⟩
             (repeat' (conv => whnf) <;> first | exact True.intro | (refine if_ ?_ ?_ <;> intro h <;> first | exact h.elim | (exfalso; omega) | skip) | refine vs_ ?_ | refine dv_ ?_ | exact fin_ | (show ∃ _, _ ∧ _; refine ex_ ?_) | (show ∃ _ _, _ ∧ _; refine ex2_ ?_) | fail))
          | (have h7 : ∀ j' : Nat, j' < 6 → Small (a.T i j') a.n a.p ∧ (a.n ≤ (i : Int) ∨ a.n ≤ (j' : Int) → VEq (a.T i j') Z) := fun j' hj' => hy j' (by omega)
             refine ⟨i + 1, ⟨by omega, all_succ hx h7⟩, by omega, ?_⟩
             (repeat' (conv => whnf) <;> first | exact True.intro | (refine if_ ?_ ?_ <;> intro h <;> first | exact h.elim | (exfalso; omega) | skip) | refine vs_ ?_ | refine dv_ ?_ | exact fin_ | (show ∃ _, _ ∧ _; refine ex_ ?_) | (show ∃ _ _, _ ∧ _; refine ex2_ ?_) | fail))
    · have hall : ∀ i' j : Nat, i' < 6 → j < 6 → Small (a.T i' j) a.n a.p ∧ (a.n ≤ (i' : Int) ∨ a.n ≤ (j : Int) → VEq (a.T i' j) Z) := fun i' j h1 h2 => hx i' (by omega) j h2
      by_cases hsm : Small a.f a.n a.p
      · have hv1 : Can P N.impl_isVector [vecD a.f, .int .i64 a.n, .int .i64 a.p] (.val (.bool true)) := by have := hV (n := a.n) (p := a.p) hb.2; rwa [decide_eq_true hsm] at this
        (repeat' (conv => whnf) <;> first | exact True.intro | (refine if_ ?_ ?_ <;> intro h <;> first | exact h.elim | (exfalso; omega) | skip) | refine vs_ ?_ | refine dv_ ?_ | exact fin_ | (show ∃ _, _ ∧ _; refine ex_ ?_ (by first | with_reducible exact rfl | exact hv1 | exact rd_)) | (show ∃ _ _, _ ∧ _; refine ex2_ ?_ (by first | with_reducible exact rfl | exact hv1 | exact rd_)) | fail)
        conv => whnf
        exact yes ⟨hall, hsm⟩
      · have hv1 : Can P N.impl_isVector [vecD a.f, .int .i64 a.n, .int .i64 a.p] (.val (.bool false)) := by have := hV (n := a.n) (p := a.p) hb.2; rwa [decide_eq_false hsm] at this
        (repeat' (conv => whnf) <;> first | exact True.intro | (refine if_ ?_ ?_ <;> intro h <;> first | exact h.elim | (exfalso; omega) | skip) | refine vs_ ?_ | refine dv_ ?_ | exact fin_ | (show ∃ _, _ ∧ _; refine ex_ ?_ (by first | with_reducible exact rfl | exact hv1 | exact rd_)) | (show ∃ _ _, _ ∧ _; refine ex2_ ?_ (by first | with_reducible exact rfl | exact hv1 | exact rd_)) | fail)
        conv => whnf
        exact no (fun h => hsm h.2)
end Go.X
