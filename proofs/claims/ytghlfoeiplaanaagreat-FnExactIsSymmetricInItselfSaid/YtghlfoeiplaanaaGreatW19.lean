import Derived.Test.YtghlfoeiplaanaaGreatW16
import Derived.Test.YtghlfoeiplaanaaGreatW18
import Derived.Test.YtghlfoeiplaanaaGreatK5
import Derived.Test.YtghlfoeiplaanaaGreatW6
import Derived.Test.YtghlfoeiplaanaaGreatW7
set_option linter.all false
namespace Go.X
open Go Go.RowKit
set_option maxRecDepth 100000
set_option maxHeartbeats 8000000
set_option linter.unusedVariables false
variable {P : Program} {N : FN}
theorem maps_app {m : Nat} {g : Nat → FuncId} {c d : Nat → D} : Chunk.data 1 (mapsL m g c d ++ [[.fn (g m) [] [c m, d m]]]) = .data 1 (mapsL (m + 1) g c d) := by
  unfold mapsL; rw [arr_succ]
theorem c_annih (hb : C_behind P N) (hb1 : C_behind1 P N) (hN : C_n P N) (hE : C_equationsM P N) (hK : C_kernel P N) (hV : C_vectors P N) (hf : isFn P N.impl_Algebra_annihilator (ir_impl_Algebra_annihilator N) = true) : C_annih P N := by
  intro sz l e off a L hat ha hL hw
  have hn := ha.n
  have hp2 := prime_bd ha.p
  have hnn : ((a.n.toNat : Nat) : Int) = a.n := by omega
  have hN' : Can P N.impl_Algebra_n [.pd sz l e off] (.val (.int .i64 a.n)) := hN hat
  have hml : (L.map vecL).length = L.length := List.length_map ..
  have hgb : ∀ i, Byts (L.getD i Z) := fun i => by
    by_cases h : i < L.length
    · exact hw _ (getD_memE h)
    · rw [List.getD_eq_getElem?_getD, List.getElem?_eq_none (by omega)]
      intro j
      show (0 : Int) ≤ 0 ∧ (0 : Int) ≤ 255
      omega
  have hE' := hE (sz := sz) (m := L.length) (g := fun _ => N.impl_Algebra_behind_1) (c := fun _ => .pd 1 [[.pd sz l e off]] 0 0) (d := fun i => .pd 6 [vecL (L.getD i Z)] 0 0) (M := killM a L) hat ha (by omega)
    (fun q i k => (times_rw (a := a) (show 1 ≤ a.p by omega) _ _).byt (by omega) k) (fun q i hq hi => hb1 hat ha (basV_byt i) (hgb q))
  rw [killE_d] at hE'
  have hmn : L.length * a.n.toNat ≤ 6 * 6 := Nat.mul_le_mul hL (by omega)
  have hK' := hK (n := a.n.toNat) (L := killE a L) (by omega) (by rw [show (killE a L).length = L.length * a.n.toNat from arr_len ..]; omega) ha.p (killE_rw (by omega) L)
  rw [hnn] at hK'
  obtain ⟨ld2, rr2⟩ : ∃ ld, RR a.p a.n.toNat (iKerF a.p a.n.toNat (killE a L)) ld := redF_rr ha.p (free_rw hp2.1 _)
  have hkl := rr2.len_le
  have hV' := hV (m := a.n.toNat) (L := iKerF a.p a.n.toNat (killE a L)) (by omega) (by omega) (fun r hr i => by have := rr2.rw r hr i; omega)
  have eV : ((iKerF a.p a.n.toNat (killE a L)).map fun r => vecL (vecR a.n.toNat r)) = (annL a L).map vecL := by
    have := congrArg (List.map vecL) (kill_imp ha L)
    rw [List.map_map] at this
    exact this
  rw [eV] at hV'
  refine can_of hf rfl rfl ?_
  (repeat' (conv => whnf) <;> first | exact True.intro | (refine if_ ?_ ?_ <;> intro h <;> first | exact h.elim | (exfalso; omega) | skip) | refine vs_ ?_ | refine dv_ ?_ | exact fin_ | (show ∃ _, _ ∧ _; refine ex_ ?_) | (show ∃ _ _, _ ∧ _; refine ex2_ ?_) | fail)
  conv => whnf
  refine vc_loop (α := Nat) 0 (fun q => L.length - q) (fun q => q ≤ L.length) [] (fun q => [(5, .row 6 1), (11, .d (.int .i64 q))]) (fun q => [(6, .data 1 (mapsL q (fun _ => N.impl_Algebra_behind_1) (fun _ => .pd 1 [[.pd sz l e off]] 0 0) (fun i => .pd 6 [vecL (L.getD i Z)] 0 0)))]) lp_ ?_ ?_
  · (repeat' (conv => whnf) <;> first | exact True.intro | (refine if_ ?_ ?_ <;> intro h <;> first | exact h.elim | (exfalso; omega) | skip) | refine vs_ ?_ | refine dv_ ?_ | exact fin_ | (show ∃ _, _ ∧ _; refine ex_ ?_) | (show ∃ _ _, _ ∧ _; refine ex2_ ?_) | fail)
  · intro q hq
    have hql : (mapsL q (fun _ => N.impl_Algebra_behind_1) (fun _ => .pd 1 [[.pd sz l e off]] 0 0) (fun i => .pd 6 [vecL (L.getD i Z)] 0 0)).length = q := arr_len ..
    by_cases hlt : q < L.length
    · have hb' : Can P N.impl_Algebra_behind [.pd sz l e off, vecD (L.getD q Z)] (.val (.fn N.impl_Algebra_behind_1 [] [.pd 1 [[.pd sz l e off]] 0 0, .pd 6 [vecL (L.getD q Z)] 0 0])) := hb
      (repeat' (conv => whnf) <;> first | exact True.intro | (refine if_ ?_ ?_ <;> intro h <;> first | exact h.elim | (exfalso; omega) | skip) | refine vs_ ?_ (by first | exact ⟨by (simp only [List.length_cons, List.length_nil, hql, maxRow]; omega), by decide, by decide⟩ | exact sd_) | refine dv_ ?_ | exact fin_ | (show ∃ _, _ ∧ _; refine ex_ ?_ (by first | with_reducible exact rfl | with_reducible exact sub_vm hlt rfl | with_reducible exact rd_st6 | exact hb' | exact rd_)) | (show ∃ _ _, _ ∧ _; refine ex2_ ?_ (by first | with_reducible exact rfl | with_reducible exact sub_vm hlt rfl | with_reducible exact rd_st6 | exact hb' | exact rd_)) | fail)
      conv => whnf
      refine ⟨q + 1, by omega, by omega, ?_⟩
      (repeat' (conv => whnf) <;> first | exact True.intro | (refine if_ ?_ ?_ <;> intro h <;> first | exact h.elim | (exfalso; omega) | skip) | refine vs_ ?_ (by first | exact maps_app | exact sd_) | refine dv_ ?_ | exact fin_ | (show ∃ _, _ ∧ _; refine ex_ ?_) | (show ∃ _ _, _ ∧ _; refine ex2_ ?_) | fail)
    · have : q = L.length := by omega
      rw [this]
      (repeat' (conv => whnf) <;> first | exact True.intro | (refine if_ ?_ ?_ <;> intro h <;> first | exact h.elim | (exfalso; omega) | skip) | refine vs_ ?_ | refine dv_ ?_ | exact fin_ | (show ∃ _, _ ∧ _; refine ex_ ?_ (by first | with_reducible exact rfl | exact hE' | exact hK' | exact hV' | exact hN' | with_reducible exact hat.p | exact rd_)) | (show ∃ _ _, _ ∧ _; refine ex2_ ?_ (by first | with_reducible exact rfl | exact hE' | exact hK' | exact hV' | exact hN' | with_reducible exact hat.p | exact rd_)) | fail)
def klQ (a : Alg) (L : List Row) (m : Nat) : List Row := arr m (eqR (killM a L) a.n.toNat)
theorem klQ_s {a : Alg} {L : List Row} {n m : Nat} (h : a.n.toNat = n := by assumption) : rowsL n (klQ a L m) ++ [[rowD n (eqR (killM a L) n m)]] = rowsL n (klQ a L (m + 1)) := by
  subst h
  unfold klQ
  rw [arr_succ, rws_app]
theorem c_sKill (hB : C_sBasis P N) (hT : C_sTimes P N) (hK : C_sKernel P N) (hV : C_sVectors P N) (hf : isFn P N.spec_l09Kill (ir_spec_l09Kill N) = true) : C_sKill P N := by
  intro a L ha hL hw
  have hat := algAt_one a
  have hal := hat.all
  have hn := ha.n
  have hp2 := prime_bd ha.p
  have hml : (L.map vecL).length = L.length := List.length_map ..
  have hmn : L.length * a.n.toNat ≤ 6 * 6 := Nat.mul_le_mul hL (by omega)
  have hK' := hK (n := a.n.toNat) (L := killE a L) (by omega) (by rw [show (killE a L).length = L.length * a.n.toNat from arr_len ..]; omega) ha.p (killE_rw (by omega) L)
  obtain ⟨ld, rr⟩ := sKer_rr (n := a.n.toNat) (L := killE a L) ha.p
  have hkl := rr.len_le
  have hV' := hV (m := a.n.toNat) (L := sKerF a.p a.n.toNat (killE a L)) (by omega) (by omega) (fun r hr i => by have := rr.rw r hr i; omega)
  have e0 : (annL a L).map vecL = (sKerF a.p a.n.toNat (killE a L)).map fun r => vecL (vecR a.n.toNat r) := by unfold annL; rw [List.map_map]; rfl
  rw [e0]
  have eE : killE a L = klQ a L (L.length * a.n.toNat) := rfl
  rw [eE] at hK' hV' ⊢
  generalize hnn : a.n.toNat = n at *
  have hn' : a.n = (n : Int) := by omega
  rw [← hn'] at hK'
  refine can_of hf rfl rfl ?_
  (repeat' (conv => whnf) <;> first | exact True.intro | (refine if_ ?_ ?_ <;> intro h <;> first | exact h.elim | (exfalso; omega) | skip) | refine vs_ ?_ | refine dv_ ?_ | exact fin_ | (show ∃ _, _ ∧ _; refine ex_ ?_) | (show ∃ _ _, _ ∧ _; refine ex2_ ?_) | fail)
  conv => whnf
  refine vc_loop (α := Nat) 0 (fun q => L.length - q) (fun q => q ≤ L.length) [] (fun q => [(5, .row 6 1), (6, .d (.int .i64 q))]) (fun q => [(6, .data 1 (rowsL n (klQ a L (q * n))))]) lp_ ?_ ?_
  · rw [Nat.zero_mul]
    (repeat' (conv => whnf) <;> first | exact True.intro | (refine if_ ?_ ?_ <;> intro h <;> first | exact h.elim | (exfalso; omega) | skip) | refine vs_ ?_ | refine dv_ ?_ | exact fin_ | (show ∃ _, _ ∧ _; refine ex_ ?_) | (show ∃ _ _, _ ∧ _; refine ex2_ ?_) | fail)
  · intro q hq
    by_cases hlt : q < L.length
    · have hsucc : (q + 1) * n = q * n + n := by rw [Nat.add_mul, Nat.one_mul]
      have hqn : (q + 1) * n ≤ L.length * n := Nat.mul_le_mul_right _ (by omega)
      (repeat' (conv => whnf) <;> first | exact True.intro | (refine if_ ?_ ?_ <;> intro h <;> first | exact h.elim | (exfalso; omega) | skip) | refine vs_ ?_ | refine dv_ ?_ | exact fin_ | (show ∃ _, _ ∧ _; refine ex_ ?_) | (show ∃ _ _, _ ∧ _; refine ex2_ ?_) | fail)
      conv => whnf
      refine vc_loop (α := Nat) 0 (fun k => n - k) (fun k => k ≤ n) [] (fun k => [(5, .row 6 1), (7, .d (.int .i64 k))]) (fun k => [(6, .data 1 (rowsL n (klQ a L (q * n + k))))]) lp_ ?_ ?_
      · (repeat' (conv => whnf) <;> first | exact True.intro | (refine if_ ?_ ?_ <;> intro h <;> first | exact h.elim | (exfalso; omega) | skip) | refine vs_ ?_ | refine dv_ ?_ | exact fin_ | (show ∃ _, _ ∧ _; refine ex_ ?_) | (show ∃ _ _, _ ∧ _; refine ex2_ ?_) | fail)
      · intro k hk
        have hkq : (rowsL n (klQ a L (q * n + k))).length = q * n + k := by rw [rowsL_len]; exact arr_len ..
        by_cases hlt2 : k < n
        · have hdiv : (q * n + k) / n = q := by rw [Nat.mul_comm, Nat.mul_add_div (by omega), Nat.div_eq_of_lt hlt2, Nat.add_zero]
          have hmod : (q * n + k) % n = k := by rw [Nat.mul_comm, Nat.mul_add_mod, Nat.mod_eq_of_lt hlt2]
          have he : ∀ i, eqR (killM a L) n (q * n + k) i = timesV a (basV i) (L.getD q Z) k := fun i => by unfold eqR killM; rw [hdiv, hmod]
          (repeat' (conv => whnf) <;> first | exact True.intro | (refine if_ ?_ ?_ <;> intro h <;> first | exact h.elim | (exfalso; omega) | skip) | refine vs_ ?_ | refine dv_ ?_ | exact fin_ | (show ∃ _, _ ∧ _; refine ex_ ?_ (by first | with_reducible exact rfl | with_reducible exact hat.n | exact rd_)) | (show ∃ _ _, _ ∧ _; refine ex2_ ?_ (by first | with_reducible exact rfl | with_reducible exact hat.n | exact rd_)) | fail)
          conv => whnf
          refine vc_loop (α := Nat) 0 (fun i => n - i) (fun i => i ≤ n) [] (fun i => [(8, .row 9 1), (9, .d (.int .i64 i))]) (fun i => [(9, .data 1 (row i (eqR (killM a L) n (q * n + k))))]) lp_ ?_ ?_
          · (repeat' (conv => whnf) <;> first | exact True.intro | (refine if_ ?_ ?_ <;> intro h <;> first | exact h.elim | (exfalso; omega) | skip) | refine vs_ ?_ | refine dv_ ?_ | exact fin_ | (show ∃ _, _ ∧ _; refine ex_ ?_) | (show ∃ _ _, _ ∧ _; refine ex2_ ?_) | fail)
          · intro i hi
            have hbd : 0 ≤ timesV a (basV i) (L.getD q Z) k ∧ timesV a (basV i) (L.getD q Z) k < a.p := times_rw (by omega) _ _ _
            by_cases hlt3 : i < n
            · have hB' := hB (i := i) (by omega)
              have hT' := hT (a := a) ha.b (basV_byt i) (hw _ (getD_memE hlt)) (by omega) (by omega)
              (repeat' (conv => whnf) <;> first | exact True.intro | (refine if_ ?_ ?_ <;> intro h <;> first | exact h.elim | (exfalso; omega) | skip) | refine vs_ ?_ | refine dv_ ?_ | exact fin_ | (show ∃ _, _ ∧ _; refine ex_ ?_ (by first | with_reducible exact rfl | with_reducible exact hat.n | with_reducible exact hal | with_reducible exact sub_vm hlt rfl | exact hB' | exact hT' | exact rd_idx (by omega) | exact rd_)) | (show ∃ _ _, _ ∧ _; refine ex2_ ?_ (by first | with_reducible exact rfl | with_reducible exact hat.n | with_reducible exact hal | with_reducible exact sub_vm hlt rfl | exact hB' | exact hT' | exact rd_idx (by omega) | exact rd_)) | fail)
              conv => whnf
              refine ⟨i + 1, by omega, by omega, ?_⟩
              (repeat' (conv => whnf) <;> first | exact True.intro | (refine if_ ?_ ?_ <;> intro h <;> first | exact h.elim | (exfalso; omega) | skip) | refine vs_ ?_ (by first | exact row_app (he i).symm | exact sd_) | refine dv_ ?_ | exact fin_ | (show ∃ _, _ ∧ _; refine ex_ ?_) | (show ∃ _ _, _ ∧ _; refine ex2_ ?_) | fail)
            · have : i = n := by omega
              rw [this]
              (repeat' (conv => whnf) <;> first | exact True.intro | (refine if_ ?_ ?_ <;> intro h <;> first | exact h.elim | (exfalso; omega) | skip) | refine vs_ ?_ (by first | exact ⟨by (simp only [List.length_cons, List.length_nil, hkq, maxRow]; omega), by decide, by decide⟩ | exact sd_) | refine dv_ ?_ | exact fin_ | (show ∃ _, _ ∧ _; refine ex_ ?_ (by first | with_reducible exact rfl | with_reducible exact hat.n | exact rd_)) | (show ∃ _ _, _ ∧ _; refine ex2_ ?_ (by first | with_reducible exact rfl | with_reducible exact hat.n | exact rd_)) | fail)
              conv => whnf
              refine ⟨k + 1, by omega, by omega, ?_⟩
              rw [show q * n + (k + 1) = q * n + k + 1 from rfl, ← klQ_s]
              (repeat' (conv => whnf) <;> first | exact True.intro | (refine if_ ?_ ?_ <;> intro h <;> first | exact h.elim | (exfalso; omega) | skip) | refine vs_ ?_ | refine dv_ ?_ | exact fin_ | (show ∃ _, _ ∧ _; refine ex_ ?_) | (show ∃ _ _, _ ∧ _; refine ex2_ ?_) | fail)
        · have : k = n := by omega
          rw [this, ← hsucc]
          (repeat' (conv => whnf) <;> first | exact True.intro | (refine if_ ?_ ?_ <;> intro h <;> first | exact h.elim | (exfalso; omega) | skip) | refine vs_ ?_ | refine dv_ ?_ | exact fin_ | (show ∃ _, _ ∧ _; refine ex_ ?_ (by first | with_reducible exact rfl | with_reducible exact hat.n | exact rd_)) | (show ∃ _ _, _ ∧ _; refine ex2_ ?_ (by first | with_reducible exact rfl | with_reducible exact hat.n | exact rd_)) | fail)
          conv => whnf
          refine ⟨q + 1, by omega, by omega, ?_⟩
          (repeat' (conv => whnf) <;> first | exact True.intro | (refine if_ ?_ ?_ <;> intro h <;> first | exact h.elim | (exfalso; omega) | skip) | refine vs_ ?_ | refine dv_ ?_ | exact fin_ | (show ∃ _, _ ∧ _; refine ex_ ?_) | (show ∃ _ _, _ ∧ _; refine ex2_ ?_) | fail)
    · have : q = L.length := by omega
      rw [this]
      (repeat' (conv => whnf) <;> first | exact True.intro | (refine if_ ?_ ?_ <;> intro h <;> first | exact h.elim | (exfalso; omega) | skip) | refine vs_ ?_ | refine dv_ ?_ | exact fin_ | (show ∃ _, _ ∧ _; refine ex_ ?_ (by first | with_reducible exact rfl | with_reducible exact hat.p | with_reducible exact hat.n | exact hK' | exact hV' | exact rd_)) | (show ∃ _ _, _ ∧ _; refine ex2_ ?_ (by first | with_reducible exact rfl | with_reducible exact hat.p | with_reducible exact hat.n | exact hK' | exact hV' | exact rd_)) | fail)
theorem c_IsSymSelf (hC : C_commutes P N) (hL : C_nil P N) (hA : C_annih P N) (hD : C_degrees P N) (hP : C_prims P N) (hT : C_spread P N) (hf : isFn P N.impl_IsSymmetricInItself (ir_impl_IsSymmetricInItself N) = true) : C_IsSymSelf P N := by
  intro a hi
  have hat := algAt_one a
  have hal := hat.all
  have hC' := commutesE hC hi
  refine can_of hf rfl rfl ?_
  unfold isPR
  by_cases g : IsAlgP a
  · have ha := hi.alg g
    by_cases c : CommP a
    · have hca := ca_of hi.s ((alg_iff hi).1 g) ((comm_iff ha).1 c)
      have hn := ha.n
      have hp2 := prime_bd ha.p
      have hnl := nilL_len hca
      have hL' := hL (sz := (algL a).length) hat hca
      have hA' := hA (sz := (algL a).length) (L := nilL a) hat ha (by omega) (fun w hw => (nilL_in hca w hw).1.byt (by omega))
      have hD' := hD (sz := (algL a).length) hat hca
      have hP' := hP (sz := (algL a).length) hat hca
      have hle := prims_le hca
      have hSl : (sortV (primI a)).length = (primI a).length := sortV_len _
      have hpm := prims_len (a := a)
      have hrl : (row (primI a).length (szF a true)).length = (primI a).length := row_len ..
      have hal2 := kill_len ha (nilL a)
      have hab := kill_byt ha (nilL a)
      have haf : ∀ e ∈ row (primI a).length (szF a true), ∀ x ∈ e, Flat x := flat_row
      rw [dB_t g, dB_t c] at hC' ⊢
      change Can P _ _ (.val (.int .i64 0)) at hC'
      (repeat' (conv => whnf) <;> first | exact True.intro | (refine if_ ?_ ?_ <;> intro h <;> first | exact h.elim | (exfalso; omega) | skip) | refine vs_ ?_ (by first | exact .inr flat_mv | exact .inr flat_row | exact sd_) | refine dv_ ?_ | exact fin_ | (show ∃ _, _ ∧ _; refine ex_ ?_ (by first | with_reducible exact rfl | with_reducible exact hal | exact hC' | exact hL' | exact hA' | exact hD' | exact hP' | exact rd_)) | (show ∃ _ _, _ ∧ _; refine ex2_ ?_ (by first | with_reducible exact rfl | with_reducible exact hal | exact hC' | exact hL' | exact hA' | exact hD' | exact hP' | exact rd_)) | fail)
      conv => whnf
      refine vc_loop (α := Nat) 0 (fun q => (primI a).length - q) (fun q => q ≤ (primI a).length ∧ ∀ i, i < q → ((partL a ((sortV (primI a)).getD i Z) (annL a (nilL a))).length : Int) = szF a true i) [] (fun q => [(19, .d (.int .i64 q))]) (fun q => []) lp_ ?_ ?_
      · (repeat' (conv => whnf) <;> first | exact True.intro | (refine if_ ?_ ?_ <;> intro h <;> first | exact h.elim | (exfalso; omega) | skip) | refine vs_ ?_ | refine dv_ ?_ | exact fin_ | (show ∃ _, _ ∧ _; refine ex_ ?_) | (show ∃ _ _, _ ∧ _; refine ex2_ ?_) | fail)
      · rintro q ⟨hq, hall⟩
        by_cases hlt : q < (primI a).length
        · have hem : (sortV (primI a)).getD q Z ∈ primI a := ((sortV_facts _ (primI a) rfl (orth_dist hca (primI_orth hca))).2.2 _).1 (getD_memE (by omega))
          have heb : Byts ((sortV (primI a)).getD q Z) := ((primI_orth hca).inn _ hem).1.byt (by omega)
          have hT1 := hT (sz := (algL a).length) (v := (sortV (primI a)).getD q Z) (L := annL a (nilL a)) hat ha heb (by omega) hab
          have hm1 : ((partL a ((sortV (primI a)).getD q Z) (annL a (nilL a))).map vecL).length = (partL a ((sortV (primI a)).getD q Z) (annL a (nilL a))).length := List.length_map ..
          by_cases c1 : ((partL a ((sortV (primI a)).getD q Z) (annL a (nilL a))).length : Int) = szF a true q
          · have c2 : (((partL a ((sortV (primI a)).getD q Z) (annL a (nilL a))).map vecL).length : Int) = szF a true q := by rw [hm1]; exact c1
            (repeat' (conv => whnf) <;> first | exact True.intro | (refine if_ ?_ ?_ <;> intro h <;> first | exact h.elim | (exfalso; omega) | skip) | refine vs_ ?_ (by first | exact .inr flat_mv | exact sd_) | refine dv_ ?_ | exact fin_ | (show ∃ _, _ ∧ _; refine ex_ ?_ (by first | with_reducible exact rfl | with_reducible exact hal | with_reducible exact sub_vm (by omega) rfl | with_reducible exact rd_st6 | exact hT1 | exact rd_idx (by omega) | exact rd_)) | (show ∃ _ _, _ ∧ _; refine ex2_ ?_ (by first | with_reducible exact rfl | with_reducible exact hal | with_reducible exact sub_vm (by omega) rfl | with_reducible exact rd_st6 | exact hT1 | exact rd_idx (by omega) | exact rd_)) | fail)
            all_goals (conv => whnf)
            all_goals (refine ⟨q + 1, ⟨by omega, all_succ hall c1⟩, by omega, ?_⟩)
            all_goals (repeat' (conv => whnf) <;> first | exact True.intro | (refine if_ ?_ ?_ <;> intro h <;> first | exact h.elim | (exfalso; omega) | skip) | refine vs_ ?_ | refine dv_ ?_ | exact fin_ | (show ∃ _, _ ∧ _; refine ex_ ?_) | (show ∃ _ _, _ ∧ _; refine ex2_ ?_) | fail)
          · have c2 : ¬ (((partL a ((sortV (primI a)).getD q Z) (annL a (nilL a))).map vecL).length : Int) = szF a true q := by rw [hm1]; exact c1
            rw [dB_f (p := SymSelf a) fun h => c1 (h q hlt)]
            (repeat' (conv => whnf) <;> first | exact True.intro | (refine if_ ?_ ?_ <;> intro h <;> first | exact h.elim | (exfalso; omega) | skip) | refine vs_ ?_ (by first | exact .inr flat_mv | exact sd_) | refine dv_ ?_ | exact fin_ | (show ∃ _, _ ∧ _; refine ex_ ?_ (by first | with_reducible exact rfl | with_reducible exact hal | with_reducible exact sub_vm (by omega) rfl | with_reducible exact rd_st6 | exact hT1 | exact rd_idx (by omega) | exact rd_)) | (show ∃ _ _, _ ∧ _; refine ex2_ ?_ (by first | with_reducible exact rfl | with_reducible exact hal | with_reducible exact sub_vm (by omega) rfl | with_reducible exact rd_st6 | exact hT1 | exact rd_idx (by omega) | exact rd_)) | fail)
        · rw [dB_t (p := SymSelf a) fun i hi2 => hall i (by omega)]
          (repeat' (conv => whnf) <;> first | exact True.intro | (refine if_ ?_ ?_ <;> intro h <;> first | exact h.elim | (exfalso; omega) | skip) | refine vs_ ?_ | refine dv_ ?_ | exact fin_ | (show ∃ _, _ ∧ _; refine ex_ ?_) | (show ∃ _ _, _ ∧ _; refine ex2_ ?_) | fail)
    · rw [dB_t g, dB_f c] at hC' ⊢
      change Can P _ _ (.val (.int .i64 5)) at hC'
      (repeat' (conv => whnf) <;> first | exact True.intro | (refine if_ ?_ ?_ <;> intro h <;> first | exact h.elim | (exfalso; omega) | skip) | refine vs_ ?_ | refine dv_ ?_ | exact fin_ | (show ∃ _, _ ∧ _; refine ex_ ?_ (by first | with_reducible exact rfl | with_reducible exact hal | exact hC' | exact rd_)) | (show ∃ _ _, _ ∧ _; refine ex2_ ?_ (by first | with_reducible exact rfl | with_reducible exact hal | exact hC' | exact rd_)) | fail)
  · rw [dB_f g] at hC' ⊢
    change Can P _ _ (.val (.int .i64 1)) at hC'
    (repeat' (conv => whnf) <;> first | exact True.intro | (refine if_ ?_ ?_ <;> intro h <;> first | exact h.elim | (exfalso; omega) | skip) | refine vs_ ?_ | refine dv_ ?_ | exact fin_ | (show ∃ _, _ ∧ _; refine ex_ ?_ (by first | with_reducible exact rfl | with_reducible exact hal | exact hC' | exact rd_)) | (show ∃ _ _, _ ∧ _; refine ex2_ ?_ (by first | with_reducible exact rfl | with_reducible exact hal | exact hC' | exact rd_)) | fail)
theorem c_sIsSymSelf (hC : C_sCode5 P N) (hL : C_sNil P N) (hA : C_sKill P N) (hD : C_sSizes P N) (hP : C_sPrims P N) (hT : C_sPart P N) (hf : isFn P N.spec_IsSymmetricInItself (ir_spec_IsSymmetricInItself N) = true) : C_sIsSymSelf P N := by
  intro a hi
  have hat := algAt_one a
  have hal := hat.all
  have hC' := sCode5E hC hi
  refine can_of hf rfl rfl ?_
  unfold isPR
  by_cases g : sAlgP a
  · by_cases c : sCommP a
    · have hca := ca_of hi g c
      have ha := hca.ok
      have hn := ha.n
      have hp2 := prime_bd ha.p
      have hnl := nilL_len hca
      have hL' := hL hca
      have hA' := hA (L := nilL a) ha (by omega) (fun w hw => (nilL_in hca w hw).1.byt (by omega))
      have hD' := hD (b := true) hca
      have hP' := hP hca
      have hle := prims_le hca
      have hSl : (sortV (primI a)).length = (primI a).length := sortV_len _
      have hpm := prims_len (a := a)
      have hrl : (row (primI a).length (szF a true)).length = (primI a).length := row_len ..
      have hal2 := kill_len ha (nilL a)
      have hab := kill_byt ha (nilL a)
      rw [dB_t g, dB_t c] at hC' ⊢
      change Can P _ _ (.val (.int .i64 0)) at hC'
      (repeat' (conv => whnf) <;> first | exact True.intro | (refine if_ ?_ ?_ <;> intro h <;> first | exact h.elim | (exfalso; omega) | skip) | refine vs_ ?_ (by first | exact .inr flat_mv | exact .inr flat_row | exact sd_) | refine dv_ ?_ | exact fin_ | (show ∃ _, _ ∧ _; refine ex_ ?_ (by first | with_reducible exact rfl | with_reducible exact hal | exact hC' | exact hL' | exact hA' | exact hD' | exact hP' | exact rd_)) | (show ∃ _ _, _ ∧ _; refine ex2_ ?_ (by first | with_reducible exact rfl | with_reducible exact hal | exact hC' | exact hL' | exact hA' | exact hD' | exact hP' | exact rd_)) | fail)
      conv => whnf
      refine vc_loop (α := Nat) 0 (fun q => (primI a).length - q) (fun q => q ≤ (primI a).length ∧ ∀ i, i < q → ((partL a ((sortV (primI a)).getD i Z) (annL a (nilL a))).length : Int) = szF a true i) [] (fun q => [(8, .d (.int .i64 q))]) (fun q => []) lp_ ?_ ?_
      · (repeat' (conv => whnf) <;> first | exact True.intro | (refine if_ ?_ ?_ <;> intro h <;> first | exact h.elim | (exfalso; omega) | skip) | refine vs_ ?_ | refine dv_ ?_ | exact fin_ | (show ∃ _, _ ∧ _; refine ex_ ?_) | (show ∃ _ _, _ ∧ _; refine ex2_ ?_) | fail)
      · rintro q ⟨hq, hall⟩
        by_cases hlt : q < (primI a).length
        · have hem : (sortV (primI a)).getD q Z ∈ primI a := ((sortV_facts _ (primI a) rfl (orth_dist hca (primI_orth hca))).2.2 _).1 (getD_memE (by omega))
          have heb : Byts ((sortV (primI a)).getD q Z) := ((primI_orth hca).inn _ hem).1.byt (by omega)
          have hT1 := hT (v := (sortV (primI a)).getD q Z) (L := annL a (nilL a)) ha heb (by omega) hab
          have hm1 : ((partL a ((sortV (primI a)).getD q Z) (annL a (nilL a))).map vecL).length = (partL a ((sortV (primI a)).getD q Z) (annL a (nilL a))).length := List.length_map ..
          by_cases c1 : ((partL a ((sortV (primI a)).getD q Z) (annL a (nilL a))).length : Int) = szF a true q
          · have c2 : (((partL a ((sortV (primI a)).getD q Z) (annL a (nilL a))).map vecL).length : Int) = szF a true q := by rw [hm1]; exact c1
            (repeat' (conv => whnf) <;> first | exact True.intro | (refine if_ ?_ ?_ <;> intro h <;> first | exact h.elim | (exfalso; omega) | skip) | refine vs_ ?_ (by first | exact .inr flat_mv | exact sd_) | refine dv_ ?_ | exact fin_ | (show ∃ _, _ ∧ _; refine ex_ ?_ (by first | with_reducible exact rfl | with_reducible exact hal | with_reducible exact sub_vm (by omega) rfl | with_reducible exact rd_st6 | exact hT1 | exact rd_idx (by omega) | exact rd_)) | (show ∃ _ _, _ ∧ _; refine ex2_ ?_ (by first | with_reducible exact rfl | with_reducible exact hal | with_reducible exact sub_vm (by omega) rfl | with_reducible exact rd_st6 | exact hT1 | exact rd_idx (by omega) | exact rd_)) | fail)
            all_goals (conv => whnf)
            all_goals (refine ⟨q + 1, ⟨by omega, all_succ hall c1⟩, by omega, ?_⟩)
            all_goals (repeat' (conv => whnf) <;> first | exact True.intro | (refine if_ ?_ ?_ <;> intro h <;> first | exact h.elim | (exfalso; omega) | skip) | refine vs_ ?_ | refine dv_ ?_ | exact fin_ | (show ∃ _, _ ∧ _; refine ex_ ?_) | (show ∃ _ _, _ ∧ _; refine ex2_ ?_) | fail)
          · have c2 : ¬ (((partL a ((sortV (primI a)).getD q Z) (annL a (nilL a))).map vecL).length : Int) = szF a true q := by rw [hm1]; exact c1
            rw [dB_f (p := SymSelf a) fun h => c1 (h q hlt)]
            (repeat' (conv => whnf) <;> first | exact True.intro | (refine if_ ?_ ?_ <;> intro h <;> first | exact h.elim | (exfalso; omega) | skip) | refine vs_ ?_ (by first | exact .inr flat_mv | exact sd_) | refine dv_ ?_ | exact fin_ | (show ∃ _, _ ∧ _; refine ex_ ?_ (by first | with_reducible exact rfl | with_reducible exact hal | with_reducible exact sub_vm (by omega) rfl | with_reducible exact rd_st6 | exact hT1 | exact rd_idx (by omega) | exact rd_)) | (show ∃ _ _, _ ∧ _; refine ex2_ ?_ (by first | with_reducible exact rfl | with_reducible exact hal | with_reducible exact sub_vm (by omega) rfl | with_reducible exact rd_st6 | exact hT1 | exact rd_idx (by omega) | exact rd_)) | fail)
        · rw [dB_t (p := SymSelf a) fun i hi2 => hall i (by omega)]
          (repeat' (conv => whnf) <;> first | exact True.intro | (refine if_ ?_ ?_ <;> intro h <;> first | exact h.elim | (exfalso; omega) | skip) | refine vs_ ?_ | refine dv_ ?_ | exact fin_ | (show ∃ _, _ ∧ _; refine ex_ ?_) | (show ∃ _ _, _ ∧ _; refine ex2_ ?_) | fail)
    · rw [dB_t g, dB_f c] at hC' ⊢
      change Can P _ _ (.val (.int .i64 5)) at hC'
      (repeat' (conv => whnf) <;> first | exact True.intro | (refine if_ ?_ ?_ <;> intro h <;> first | exact h.elim | (exfalso; omega) | skip) | refine vs_ ?_ | refine dv_ ?_ | exact fin_ | (show ∃ _, _ ∧ _; refine ex_ ?_ (by first | with_reducible exact rfl | with_reducible exact hal | exact hC' | exact rd_)) | (show ∃ _ _, _ ∧ _; refine ex2_ ?_ (by first | with_reducible exact rfl | with_reducible exact hal | exact hC' | exact rd_)) | fail)
  · rw [dB_f g] at hC' ⊢
    change Can P _ _ (.val (.int .i64 1)) at hC'
    (repeat' (conv => whnf) <;> first | exact True.intro | (refine if_ ?_ ?_ <;> intro h <;> first | exact h.elim | (exfalso; omega) | skip) | refine vs_ ?_ | refine dv_ ?_ | exact fin_ | (show ∃ _, _ ∧ _; refine ex_ ?_ (by first | with_reducible exact rfl | with_reducible exact hal | exact hC' | exact rd_)) | (show ∃ _ _, _ ∧ _; refine ex2_ ?_ (by first | with_reducible exact rfl | with_reducible exact hal | exact hC' | exact rd_)) | fail)
def L_IsSymmetricInItself (P : Program) (N : FN) : Prop := ∀ args, argsHave [tyAlg] args → Can P N.laws_FnExactIsSymmetricInItself args (.val (.bool true))
theorem l_IsSymmetricInItself (hA : C_toAlgebra P N) (hS : C_sIsSymSelf P N) (hI : C_IsSymSelf P N) (hf : isFn P N.laws_FnExactIsSymmetricInItself (ir_laws_FnExactIsSymmetricInItself N) = true) : L_IsSymmetricInItself P N := fun args h => by
  obtain ⟨d1, rfl, h1⟩ := args1 h
  obtain ⟨a, rfl, ha, _⟩ := arg_alg h1
  have hal := (algAt_one a).all
  have hA' := hA (a := a)
  have hS' := hS ha.s
  have hI' := hI ha
  rw [com_same ha (R := isPR (dB (SymSelf a))) (fun _ _ => rfl)] at hI'
  obtain ⟨u, c, e⟩ : ∃ (u : Bool) (c : Int), isPR (dB (SymSelf a)) (dB (sAlgP a)) (dB (sCommP a)) = .tup [.bool u, .int .i64 c] := ⟨_, _, rfl⟩
  rw [e] at hI' hS'
  refine can_of hf rfl rfl ?_
  cases u <;> (repeat' (conv => whnf) <;> first | exact True.intro | (refine if_ ?_ ?_ <;> intro h <;> first | exact h.elim | (exfalso; omega) | skip) | refine vs_ ?_ | refine dv_ ?_ | exact fin_ | (show ∃ _, _ ∧ _; refine ex_ ?_ (by first | with_reducible exact rfl | with_reducible exact hal | exact hA' | exact hS' | exact hI' | exact rd_)) | (show ∃ _ _, _ ∧ _; refine ex2_ ?_ (by first | with_reducible exact rfl | with_reducible exact hal | exact hA' | exact hS' | exact hI' | exact rd_)) | fail)
  all_goals (exfalso; clear hS' hI' e; simp_all)
end Go.X
