import Derived.Test.YtckpoeaagbmlbaaGreatK8
import Derived.Test.YtckpoeaagbmlbaaGreatK1
import Derived.Test.YtckpoeaagbmlbaaGreatW3
set_option linter.all false
namespace Go.X
open Go Go.RowKit
set_option maxRecDepth 100000
set_option maxHeartbeats 8000000
variable {P : Program} {N : FN}
theorem c_sPower5 (hU : C_sUnit P N) (hT : C_sTimes P N) (hf : isFn P N.spec_l05Power (ir_spec_l05Power N) = true) : C_sPower5 P N := by
  intro a v k ha hv hk
  have hal := (algAt_one a).all
  have hn := ha.n
  have hp2 := prime_bd ha.p
  have hU' : Can P N.spec_l01Unit [algD a] (.val (vecD (sUnit a))) := hU ha
  have r1 : ∀ i, Rw a.p (foldV a (sUnit a) v i) := fun i => foldV_rw (by omega) (sUnit_rw ha) i
  refine can_of hf rfl rfl ?_
  (repeat' (conv => whnf)<;>first|exact True.intro|(refine if_ ?_ ?_<;>intro h<;>first|exact h.elim|(exfalso; omega)|skip)|refine vs_ ?_|refine dv_ ?_|exact fin_|(show ∃ _, _ ∧ _; refine ex_ ?_ (by first|with_reducible exact rfl|with_reducible exact hal|exact hU'|exact rd_))|(show ∃ _ _, _ ∧ _; refine ex2_ ?_ (by first|with_reducible exact rfl|with_reducible exact hal|exact hU'|exact rd_)))
  conv => whnf
  refine vc_loop (α := Nat) 0 (fun i => k - i) (fun i => i ≤ k) [] (fun i => [(2, .d (.int .i64 ((k - i : Nat) : Int))), (6, .ptr 7 6 0 0), (7, .ptr 8 6 0 0)]) (fun i => [(8, .data 6 [vecL (foldV a (sUnit a) v i)])]) lp_ ?_ ?_
  · (repeat' (conv => whnf)<;>first|exact True.intro|(refine if_ ?_ ?_<;>intro h<;>first|exact h.elim|(exfalso; omega)|skip)|refine vs_ ?_ (by first|exact st_all (f := Z)|exact sd_)|refine dv_ ?_|exact fin_|(show ∃ _, _ ∧ _; refine ex_ ?_)|(show ∃ _ _, _ ∧ _; refine ex2_ ?_))
  · intro i hi
    by_cases hlt : i < k
    · have hT' := hT ha.b ((r1 i).byt (by omega)) hv (by omega) (by omega)
      (repeat' (conv => whnf)<;>first|exact True.intro|(refine if_ ?_ ?_<;>intro h<;>first|exact h.elim|(exfalso; omega)|skip)|refine vs_ ?_|refine dv_ ?_|exact fin_|(show ∃ _, _ ∧ _; refine ex_ ?_ (by first|with_reducible exact rfl|with_reducible exact hal|with_reducible exact rd_st6|exact hT'|exact rd_))|(show ∃ _ _, _ ∧ _; refine ex2_ ?_ (by first|with_reducible exact rfl|with_reducible exact hal|with_reducible exact rd_st6|exact hT'|exact rd_)))
      conv => whnf
      refine ⟨i + 1, by omega, by omega, ?_⟩
      (repeat' (conv => whnf)<;>first|exact True.intro|(refine if_ ?_ ?_<;>intro h<;>first|exact h.elim|(exfalso; omega)|skip)|refine vs_ ?_ (by first|exact st_all|exact sd_)|refine dv_ ?_|exact fin_|(show ∃ _, _ ∧ _; refine ex_ ?_)|(show ∃ _ _, _ ∧ _; refine ex2_ ?_))
    · have : i = k := by omega
      subst this
      (repeat' (conv => whnf)<;>first|exact True.intro|(refine if_ ?_ ?_<;>intro h<;>first|exact h.elim|(exfalso; omega)|skip)|refine vs_ ?_|refine dv_ ?_|exact fin_|(show ∃ _, _ ∧ _; refine ex_ ?_ (by first|with_reducible exact rfl|with_reducible exact hal|with_reducible exact rd_st6|exact rd_))|(show ∃ _ _, _ ∧ _; refine ex2_ ?_ (by first|with_reducible exact rfl|with_reducible exact hal|with_reducible exact rd_st6|exact rd_)))
end Go.X
namespace Go.X
open Go Go.RowKit
set_option maxRecDepth 100000
set_option maxHeartbeats 8000000
set_option linter.unusedSimpArgs false
set_option linter.unusedVariables false
variable {P : Program} {N : FN}
def mapsC (m : Nat) (g : Nat → FuncId) (cs : Nat → D) : List (List D) := arr m fun q => [.fn (g q) [] [cs q]]
theorem rd_mapC {m q : Nat} {g : Nat → FuncId} {cs : Nat → D} (h : q < m) : get2 (mapsC m g cs) ((q : Nat) : Int).toNat 0 = some (.fn (g q) [] [cs q]) := by
  simp [get2, mapsC, arr_get h]
theorem mapsC_len (m : Nat) (g : Nat → FuncId) (cs : Nat → D) : (mapsC m g cs).length = m := arr_len ..
def C_equationsC (P : Program) (N : FN) : Prop := ∀ {sz : Nat} {l : List (List D)} {e off : Nat} {a : Alg} {m : Nat} {g : Nat → FuncId} {cs : Nat → D} {M : Nat → Nat → Nat → Int}, AlgAt l e off a → AlgOk a → 1 ≤ m ∧ m ≤ 100 → (∀ q i k, 0 ≤ M q i k ∧ M q i k ≤ 255) →
  (∀ q i : Nat, q < m → i < a.n.toNat → Can P (g q) (vecD (basV i) :: [cs q]) (.val (vecD (M q i)))) → Can P N.impl_Algebra_equations [.pd sz l e off, .lst 1 (mapsC m g cs)] (.ownN 1 (arr (m * a.n.toNat) fun r => row a.n.toNat (eqR M a.n.toNat r)))
theorem c_equationsC (hN : C_n P N) (hB : C_basis P N) (hf : isFn P N.impl_Algebra_equations (ir_impl_Algebra_equations N) = true) : C_equationsC P N := by
  intro sz l e off a m g cs M hat ha hm hM hmap
  have hn := ha.n
  have hN' : Can P N.impl_Algebra_n [.pd sz l e off] (.val (.int .i64 a.n)) := hN hat
  have hml := mapsC_len m g cs
  refine can_of hf rfl rfl ?_
  (repeat' (conv => whnf)<;>first|exact True.intro|(refine if_ ?_ ?_<;>intro h<;>first|exact h.elim|(exfalso; omega)|skip)|refine vs_ ?_|refine dv_ ?_|exact fin_|(show ∃ _, _ ∧ _; refine ex_ ?_)|(show ∃ _ _, _ ∧ _; refine ex2_ ?_))
  conv => whnf
  generalize hnn : a.n.toNat = n at *
  have hn' : a.n = (n : Int) := by omega
  rw [hn'] at hN'
  refine vc_loop (α := Nat) 0 (fun q => m - q) (fun q => q ≤ m) [] (fun q => [(5, .row 6 1), (12, .d (.lst 1 (mapsC m g cs))), (13, .d (.int .i64 m)), (14, .d (.int .i64 q))]) (fun q => [(6, .nest 1 (arr (q * n) fun r => row n (eqR M n r)) none)]) lp_ ?_ ?_
  · (repeat' (conv => whnf)<;>first|exact True.intro|(refine if_ ?_ ?_<;>intro h<;>first|exact h.elim|(exfalso; omega)|skip)|refine vs_ ?_ (by first|(refine congrArg (fun x => AV.d (D.int .i64 x)) ?_; rw [hml]) | (rw [Nat.zero_mul]; rfl)|exact sd_)|refine dv_ ?_|exact fin_|(show ∃ _, _ ∧ _; refine ex_ ?_)|(show ∃ _ _, _ ∧ _; refine ex2_ ?_))
  · intro q hq
    by_cases hlt : q < m
    · have hmn : (q + 1) * n ≤ m * n := Nat.mul_le_mul_right _ (by omega)
      have hmn2 : m * n ≤ 100 * 6 := Nat.mul_le_mul (by omega) (by omega)
      have hsucc : (q + 1) * n = q * n + n := by rw [Nat.add_mul, Nat.one_mul]
      (repeat' (conv => whnf)<;>first|exact True.intro|(refine if_ ?_ ?_<;>intro h<;>first|exact h.elim|(exfalso; omega)|skip)|refine vs_ ?_ (by first|exact ⟨rfl, by omega, by rw [hml]; omega⟩|exact sd_)|refine dv_ ?_|exact fin_|(show ∃ _, _ ∧ _; refine ex_ ?_ (by first|with_reducible exact rfl|exact rd_mapC hlt|exact hN'|exact rd_))|(show ∃ _ _, _ ∧ _; refine ex2_ ?_ (by first|with_reducible exact rfl|exact rd_mapC hlt|exact hN'|exact rd_)))
      conv => whnf
      refine vc_loop (α := Nat) 0 (fun k => n - k) (fun k => k ≤ n) [] (fun k => [(5, .row 6 1), (7, .d (.fn (g q) [] [cs q])), (12, .d (.lst 1 (mapsC m g cs))), (13, .d (.int .i64 m)), (14, .d (.int .i64 q)), (19, .d (.int .i64 n)), (20, .d (.int .i64 k))]) (fun k => [(6, .nest 1 (arr (q * n + k) fun r => row n (eqR M n r)) none)]) lp_ ?_ ?_
      · (repeat' (conv => whnf)<;>first|exact True.intro|(refine if_ ?_ ?_<;>intro h<;>first|exact h.elim|(exfalso; omega)|skip)|refine vs_ ?_|refine dv_ ?_|exact fin_|(show ∃ _, _ ∧ _; refine ex_ ?_)|(show ∃ _ _, _ ∧ _; refine ex2_ ?_))
      · intro k hk
        by_cases hlt2 : k < n
        · have hdiv : (q * n + k) / n = q := by rw [Nat.mul_comm, Nat.mul_add_div (by omega), Nat.div_eq_of_lt hlt2, Nat.add_zero]
          have hmod : (q * n + k) % n = k := by rw [Nat.mul_comm, Nat.mul_add_mod, Nat.mod_eq_of_lt hlt2]
          have he : ∀ i, eqR M n (q * n + k) i = M q i k := fun i => by unfold eqR; rw [hdiv, hmod]
          (repeat' (conv => whnf)<;>first|exact True.intro|(refine if_ ?_ ?_<;>intro h<;>first|exact h.elim|(exfalso; omega)|skip)|refine vs_ ?_|refine dv_ ?_|exact fin_|(show ∃ _, _ ∧ _; refine ex_ ?_ (by first|with_reducible exact rfl|exact hN'|exact rd_))|(show ∃ _ _, _ ∧ _; refine ex2_ ?_ (by first|with_reducible exact rfl|exact hN'|exact rd_)))
          conv => whnf
          refine vc_loop (α := Nat) 0 (fun i => n - i) (fun i => i ≤ n) [] (fun i => [(5, .row 6 1), (7, .d (.fn (g q) [] [cs q])), (8, .d (.int .i64 k)), (9, .row 10 1), (12, .d (.lst 1 (mapsC m g cs))), (13, .d (.int .i64 m)), (14, .d (.int .i64 q)), (19, .d (.int .i64 n)), (20, .d (.int .i64 k)), (25, .d (.int .i64 n)), (26, .d (.int .i64 i))]) (fun i => [(6, .nest 1 (arr (q * n + k) fun r => row n (eqR M n r)) none), (10, .data 1 (row i (eqR M n (q * n + k))))]) lp_ ?_ ?_
          · (repeat' (conv => whnf)<;>first|exact True.intro|(refine if_ ?_ ?_<;>intro h<;>first|exact h.elim|(exfalso; omega)|skip)|refine vs_ ?_|refine dv_ ?_|exact fin_|(show ∃ _, _ ∧ _; refine ex_ ?_)|(show ∃ _ _, _ ∧ _; refine ex2_ ?_))
          · intro i hi
            have hb := hM q i k
            by_cases hlt3 : i < n
            · (repeat' (conv => whnf)<;>first|exact True.intro|(refine if_ ?_ ?_<;>intro h<;>first|exact h.elim|(exfalso; omega)|skip)|refine vs_ ?_|refine dv_ ?_|exact fin_|(show ∃ _, _ ∧ _; refine ex_ ?_ (by first|with_reducible exact rfl|exact hB (by omega)|exact hmap q i hlt hlt3|exact rd_idx (by omega)|exact rd_))|(show ∃ _ _, _ ∧ _; refine ex2_ ?_ (by first|with_reducible exact rfl|exact hB (by omega)|exact hmap q i hlt hlt3|exact rd_idx (by omega)|exact rd_)))
              conv => whnf
              refine ⟨i + 1, by omega, by omega, ?_⟩
              (repeat' (conv => whnf)<;>first|exact True.intro|(refine if_ ?_ ?_<;>intro h<;>first|exact h.elim|(exfalso; omega)|skip)|refine vs_ ?_ (by first|exact row_app (he i).symm|exact sd_)|refine dv_ ?_|exact fin_|(show ∃ _, _ ∧ _; refine ex_ ?_)|(show ∃ _ _, _ ∧ _; refine ex2_ ?_))
            · have : i = n := by omega
              (repeat' (conv => whnf)<;>first|exact True.intro|(refine if_ ?_ ?_<;>intro h<;>first|exact h.elim|(exfalso; omega)|skip)|refine vs_ ?_|refine dv_ ?_|exact fin_|(show ∃ _, _ ∧ _; refine ex_ ?_)|(show ∃ _ _, _ ∧ _; refine ex2_ ?_))
              conv => whnf
              refine ⟨k + 1, by omega, by omega, ?_⟩
              (repeat' (conv => whnf)<;>first|exact True.intro|(refine if_ ?_ ?_<;>intro h<;>first|exact h.elim|(exfalso; omega)|skip)|refine vs_ ?_ (by first|exact nest_putA (by rw [this])|exact sd_)|refine dv_ ?_|exact fin_|(show ∃ _, _ ∧ _; refine ex_ ?_)|(show ∃ _ _, _ ∧ _; refine ex2_ ?_))
        · have : k = n := by omega
          (repeat' (conv => whnf)<;>first|exact True.intro|(refine if_ ?_ ?_<;>intro h<;>first|exact h.elim|(exfalso; omega)|skip)|refine vs_ ?_|refine dv_ ?_|exact fin_|(show ∃ _, _ ∧ _; refine ex_ ?_)|(show ∃ _ _, _ ∧ _; refine ex2_ ?_))
          conv => whnf
          refine ⟨q + 1, by omega, by omega, ?_⟩
          (repeat' (conv => whnf)<;>first|exact True.intro|(refine if_ ?_ ?_<;>intro h<;>first|exact h.elim|(exfalso; omega)|skip)|refine vs_ ?_ (by first|(rw [this, hsucc])|exact sd_)|refine dv_ ?_|exact fin_|(show ∃ _, _ ∧ _; refine ex_ ?_)|(show ∃ _ _, _ ∧ _; refine ex2_ ?_))
    · have : q = m := by omega
      (repeat' (conv => whnf)<;>first|exact True.intro|(refine if_ ?_ ?_<;>intro h<;>first|exact h.elim|(exfalso; omega)|skip)|refine vs_ ?_|refine dv_ ?_|exact fin_|(show ∃ _, _ ∧ _; refine ex_ ?_)|(show ∃ _ _, _ ∧ _; refine ex2_ ?_))
      conv => whnf
      rw [this]
end Go.X
namespace Go.X
open Go Go.RowKit
set_option maxRecDepth 100000
set_option maxHeartbeats 8000000
variable {P : Program} {N : FN}
theorem frobI_byt {a : Alg} (ha : AlgOk a) {v : Nat → Int} (hv : Byts v) : ∀ t, Byts (frobI a v t)
  | 0 => hv
  | t + 1 => by
    have hp2 := prime_bd ha.p
    exact (foldV_rw (a := a) (b := frobI a v t) (by omega) (iUnit_rw ha) a.p.toNat).byt (by omega)
theorem c_frobPow (hW : C_vpower P N) (hf : isFn P N.impl_Algebra_frobeniusPower (ir_impl_Algebra_frobeniusPower N) = true) : C_frobPow P N := by
  intro sz l e off a v t hat ha hv ht
  have hp2 := prime_bd ha.p
  have hpn : ((a.p.toNat : Nat) : Int) = a.p := by omega
  refine can_of hf rfl rfl ?_
  (repeat' (conv => whnf)<;>first|exact True.intro|(refine if_ ?_ ?_<;>intro h<;>first|exact h.elim|(exfalso; omega)|skip)|refine vs_ ?_|refine dv_ ?_|exact fin_|(show ∃ _, _ ∧ _; refine ex_ ?_)|(show ∃ _ _, _ ∧ _; refine ex2_ ?_))
  conv => whnf
  refine vc_loop (α := Nat) 0 (fun i => t - i) (fun i => i ≤ t) [] (fun i => [(4, .ptr 5 6 0 0), (6, .ptr 7 6 0 0), (7, .d (.int .i64 t)), (8, .d (.int .i64 i))]) (fun i => [(5, .data 6 [vecL (frobI a v i)])]) lp_ ?_ ?_
  · (repeat' (conv => whnf)<;>first|exact True.intro|(refine if_ ?_ ?_<;>intro h<;>first|exact h.elim|(exfalso; omega)|skip)|refine vs_ ?_|refine dv_ ?_|exact fin_|(show ∃ _, _ ∧ _; refine ex_ ?_)|(show ∃ _ _, _ ∧ _; refine ex2_ ?_))
  · intro i hi
    by_cases hlt : i < t
    · have hW' : Can P N.impl_Algebra_power [.pd sz l e off, vecD (frobI a v i), .int .i64 a.p] (.val (vecD (frobI a v (i + 1)))) := by
        have := hW (sz := sz) (k := a.p.toNat) hat ha (frobI_byt ha hv i) (by omega)
        rw [hpn] at this
        exact this
      (repeat' (conv => whnf)<;>first|exact True.intro|(refine if_ ?_ ?_<;>intro h<;>first|exact h.elim|(exfalso; omega)|skip)|refine vs_ ?_|refine dv_ ?_|exact fin_|(show ∃ _, _ ∧ _; refine ex_ ?_ (by first|with_reducible exact rfl|with_reducible exact hat.p|exact hW'|exact rd_))|(show ∃ _ _, _ ∧ _; refine ex2_ ?_ (by first|with_reducible exact rfl|with_reducible exact hat.p|exact hW'|exact rd_)))
      conv => whnf
      refine ⟨i + 1, by omega, by omega, ?_⟩
      (repeat' (conv => whnf)<;>first|exact True.intro|(refine if_ ?_ ?_<;>intro h<;>first|exact h.elim|(exfalso; omega)|skip)|refine vs_ ?_ (by first|exact st_all|exact sd_)|refine dv_ ?_|exact fin_|(show ∃ _, _ ∧ _; refine ex_ ?_)|(show ∃ _ _, _ ∧ _; refine ex2_ ?_))
    · have : i = t := by omega
      subst this
      (repeat' (conv => whnf)<;>first|exact True.intro|(refine if_ ?_ ?_<;>intro h<;>first|exact h.elim|(exfalso; omega)|skip)|refine vs_ ?_|refine dv_ ?_|exact fin_|(show ∃ _, _ ∧ _; refine ex_ ?_)|(show ∃ _ _, _ ∧ _; refine ex2_ ?_))
end Go.X
