import Derived.Test.YtphelkciklpakaaW10
import Derived.Test.YtphelkciklpakaaK19
import Derived.Test.YtphelkciklpakaaK1
set_option linter.all false
namespace Go.X
open Go Go.RowKit
set_option maxRecDepth 100000
set_option maxHeartbeats 8000000
set_option linter.unusedVariables false
variable {P : Program} {N : FN}
def hashF (m : Nat) (f : Nat → Int) : Nat → Int
  | 0 => (12671 + (m : Int)) % 18446744073709551616
  | i + 1 => ((hashF m f i * 1099511628211 % 18446744073709551616 + f i) % 18446744073709551616 + 83) % 18446744073709551616
theorem hashF_bd (m : Nat) (f : Nat → Int) (i : Nat) : 0 ≤ hashF m f i ∧ hashF m f i < 18446744073709551616 := by
  cases i <;> (unfold hashF; omega)
theorem c_from (hf : isFn P N.spec_l01From (ir_spec_l01From N) = true) : C_from P N := by
  intro m f hm hb
  have hl := nb_len f m
  refine ⟨⟨m, f, 0, hashF m f m⟩, ⟨hm, hb, Nat.zero_le _, hashF_bd ..⟩, ?_⟩
  show Can P _ _ (.ownB 3 [[.lst 1 (nbL f m), .int .i64 ((0 : Nat) : Int), .int .u64 (hashF m f m)]])
  refine can_of hf rfl rfl ?_
  have h0 : (12671 + (m : Int)) % 18446744073709551616 = hashF m f 0 := rfl
  (repeat' (conv => whnf)<;>first|exact True.intro|(refine if_ ?_ ?_<;>intro h<;>first|exact h.elim|(exfalso; omega)|skip)|refine vs_ ?_|refine dv_ ?_|exact fin_|(show ∃ _, _ ∧ _; refine ex_ ?_)|(show ∃ _ _, _ ∧ _; refine ex2_ ?_))
  conv => whnf
  refine wk_u64 (by omega) ?_
  conv => whnf
  refine ⟨rfl, ar64_add trivial ?_⟩
  rw [hl, h0]
  (repeat' (conv => whnf)<;>first|exact True.intro|(refine if_ ?_ ?_<;>intro h<;>first|exact h.elim|(exfalso; omega)|skip)|refine vs_ ?_ (by first|exact ⟨rfl, by (simp only [List.length_set, List.length_cons, List.length_nil]; omega), rfl⟩|exact sd_)|refine dv_ ?_|exact fin_|(show ∃ _, _ ∧ _; refine ex_ ?_)|(show ∃ _ _, _ ∧ _; refine ex2_ ?_))
  conv => whnf
  refine vc_loop (α := Nat) 0 (fun i => m - i) (fun i => i ≤ m) [] (fun i => [(0, .d (.lst 1 (nbL f m))), (3, .ptr 12 3 0 0), (4, .d (.int .i64 i))]) (fun i => [(12, .data 3 [[.lst 1 (nbL f m), .int .i64 0, .int .u64 (hashF m f i)]])]) lp_ ?_ ?_
  · (repeat' (conv => whnf)<;>first|exact True.intro|(refine if_ ?_ ?_<;>intro h<;>first|exact h.elim|(exfalso; omega)|skip)|refine vs_ ?_|refine dv_ ?_|exact fin_|(show ∃ _, _ ∧ _; refine ex_ ?_)|(show ∃ _ _, _ ∧ _; refine ex2_ ?_))
  · intro i hi
    have h1 := hashF_bd m f i
    have h2 := hb i
    have hs : ((hashF m f i * 1099511628211 % 18446744073709551616 + f i) % 18446744073709551616 + 83) % 18446744073709551616 = hashF m f (i + 1) := rfl
    by_cases hlt : i < m
    · (repeat' (conv => whnf)<;>first|exact True.intro|(refine if_ ?_ ?_<;>intro h<;>first|exact h.elim|(exfalso; omega)|skip)|refine vs_ ?_|refine dv_ ?_|exact fin_|(show ∃ _, _ ∧ _; refine ex_ ?_)|(show ∃ _ _, _ ∧ _; refine ex2_ ?_))
      refine ar64_mul trivial ?_
      (repeat' (conv => whnf)<;>first|exact True.intro|(refine if_ ?_ ?_<;>intro h<;>first|exact h.elim|(exfalso; omega)|skip)|refine vs_ ?_|refine dv_ ?_|exact fin_|(show ∃ _, _ ∧ _; refine ex_ ?_ (by first|with_reducible exact rfl|with_reducible exact nb_get hlt|exact rd_))|(show ∃ _ _, _ ∧ _; refine ex2_ ?_ (by first|with_reducible exact rfl|with_reducible exact nb_get hlt|exact rd_)))
      conv => whnf
      refine wk_u64 (by omega) ?_
      conv => whnf
      refine ⟨rfl, ar64_add trivial ?_⟩
      conv => whnf
      refine ⟨rfl, ar64_add trivial ?_⟩
      rw [hs]
      (repeat' (conv => whnf)<;>first|exact True.intro|(refine if_ ?_ ?_<;>intro h<;>first|exact h.elim|(exfalso; omega)|skip)|refine vs_ ?_|refine dv_ ?_|exact fin_|(show ∃ _, _ ∧ _; refine ex_ ?_)|(show ∃ _ _, _ ∧ _; refine ex2_ ?_))
      conv => whnf
      refine ⟨i + 1, by omega, by omega, ?_⟩
      (repeat' (conv => whnf)<;>first|exact True.intro|(refine if_ ?_ ?_<;>intro h<;>first|exact h.elim|(exfalso; omega)|skip)|refine vs_ ?_|refine dv_ ?_|exact fin_|(show ∃ _, _ ∧ _; refine ex_ ?_)|(show ∃ _ _, _ ∧ _; refine ex2_ ?_))
    · have : i = m := by omega
      subst this
      (repeat' (conv => whnf)<;>first|exact True.intro|(refine if_ ?_ ?_<;>intro h<;>first|exact h.elim|(exfalso; omega)|skip)|refine vs_ ?_|refine dv_ ?_|exact fin_|(show ∃ _, _ ∧ _; refine ex_ ?_)|(show ∃ _ _, _ ∧ _; refine ex2_ ?_))
end Go.X
namespace Go.X
open Go Go.RowKit
set_option maxRecDepth 100000
set_option maxHeartbeats 8000000
set_option linter.unusedVariables false
variable {P : Program} {N : FN}
def lsT : List Int := [0, 1, 2, 0, 2, 1, 1, 0, 2, 1, 2, 0, 2, 0, 1, 2, 1, 0]
def lsF (q : Nat) : Int := lsT.getD q 0
def lsR (i : Nat) : Nat → Int := fun q => lsF (i * 3 + q)
theorem lsR_bd {i q : Nat} (hi : i < 6) (hq : q < 3) : 0 ≤ lsR i q ∧ lsR i q < 3 := by
  have h : ∀ i : Fin 6, ∀ q : Fin 3, 0 ≤ lsR i q ∧ lsR i q < 3 := by decide
  exact h ⟨i, hi⟩ ⟨q, hq⟩
theorem lsR_mul {i j q : Nat} (hi : i < 6) (hj : j < 6) (hq : q < 3) : lsR i (lsR j q).toNat = lsR (permN i j) q := by
  have h : ∀ i j : Fin 6, ∀ q : Fin 3, lsR i (lsR j q).toNat = lsR (permN i j) q := by decide
  exact h ⟨i, hi⟩ ⟨j, hj⟩ ⟨q, hq⟩
theorem lsR_inj {i j : Nat} (hi : i < 6) (hj : j < 6) (h : ∀ q, q < 3 → lsR i q = lsR j q) : i = j := by
  have hh : ∀ i j : Fin 6, (∀ q : Fin 3, lsR i q = lsR j q) → i = j := by decide
  have := hh ⟨i, hi⟩ ⟨j, hj⟩ (fun q => h q q.2)
  exact congrArg Fin.val this
theorem ls_rd {i : Nat} (hi : i < 6) : sub2 [cel .i64 18 lsF] 0 (0 + ((i : Nat) : Int).toNat * 3) 3 = some (cel .i64 3 (lsR i)) := by
  rw [show 0 + ((i : Nat) : Int).toNat * 3 = i * 3 by omega]
  exact sub2_of (f := fun q => .int .i64 (lsR i q)) (fun q hq => by unfold get2; exact (cel_get (by omega) : (cel .i64 18 lsF)[i * 3 + q]? = _)) (by decide)
theorem rd3 {f : Nat → Int} {q : Nat} (h : q < 3) : get2 [cel .i64 3 f] 0 (0 + ((q : Nat) : Int).toNat * 1) = some (.int .i64 (f q)) := rd_cel h
theorem rd3' {f : Nat → Int} {x : Int} (h : 0 ≤ x ∧ x < 3) : get2 [cel .i64 3 f] 0 (0 + x.toNat * 1) = some (.int .i64 (f x.toNat)) := by
  rw [show 0 + x.toNat * 1 = x.toNat by omega]
  exact cel_get (k := .i64) (m := 3) (f := f) (by omega)
theorem conf3 (v : Nat → Int) : Conf [.int .i64, .int .i64, .int .i64] (cel .i64 3 v) := by
  refine ⟨cel_len .., fun i k x hk hx => ?_⟩
  match i with
  | 0 => cases hk; cases hx; exact .int _ _
  | 1 => cases hk; cases hx; exact .int _ _
  | 2 => cases hk; cases hx; exact .int _ _
  | i + 3 => cases hk
def C_perm (P : Program) (N : FN) : Prop := ∀ {i j : Nat}, i < 6 → j < 6 → Can P N.spec_l01Permuted [.int .i64 i, .int .i64 j] (.val (.int .i64 (permN i j : Nat)))
theorem c_perm (hf : isFn P N.spec_l01Permuted (ir_spec_l01Permuted N) = true) : C_perm P N := by
  intro i j hi hj
  have q1 := lsR_bd hj (show 0 < 3 by decide)
  have q2 := lsR_bd hj (show 1 < 3 by decide)
  have q3 := lsR_bd hj (show 2 < 3 by decide)
  have a1 := ls_rd hi
  have a2 := ls_rd hj
  have b1 := rd3 (f := lsR j) (q := 0) (by decide)
  have b2 := rd3 (f := lsR j) (q := 1) (by decide)
  have b3 := rd3 (f := lsR j) (q := 2) (by decide)
  have d1 := rd3' (f := lsR i) q1
  have d2 := rd3' (f := lsR i) q2
  have d3 := rd3' (f := lsR i) q3
  refine can_of hf rfl rfl ?_
  (repeat' (conv => whnf)<;>first|exact True.intro|(refine if_ ?_ ?_<;>intro h<;>first|exact h.elim|(exfalso; omega)|skip)|refine vs_ ?_ (by first|exact ⟨rfl, by (simp only [List.length_set, List.length_cons, List.length_nil]; omega), rfl⟩|exact sd_)|refine dv_ ?_|exact fin_|(show ∃ _, _ ∧ _; refine ex_ ?_ (by first|with_reducible exact rfl|exact a1|exact a2|exact b1|exact b2|exact b3|exact d1|exact d2|exact d3|exact rd_))|(show ∃ _ _, _ ∧ _; refine ex2_ ?_ (by first|with_reducible exact rfl|exact a1|exact a2|exact b1|exact b2|exact b3|exact d1|exact d2|exact d3|exact rd_)))
  conv => whnf
  have hp : permN i j < 6 := permN_lt hi hj
  have e : (([.int .i64 0, .int .i64 0, .int .i64 0].set 0 (.int .i64 (lsR i (lsR j 0).toNat))).set 1 (.int .i64 (lsR i (lsR j 1).toNat))).set 2 (.int .i64 (lsR i (lsR j 2).toNat)) = cel .i64 3 (lsR (permN i j)) := by
    rw [lsR_mul hi hj (show 0 < 3 by decide), lsR_mul hi hj (show 1 < 3 by decide), lsR_mul hi hj (show 2 < 3 by decide)]; rfl
  rw [e]
  refine vc_loop (α := Nat) 0 (fun k => 6 - k) (fun k => k ≤ permN i j) [] (fun k => [(4, .d (.int .i64 0)), (5, .ptr 6 18 0 0), (8, .ptr 9 3 0 0), (9, .d (.int .i64 k))]) (fun k => [(6, .data 18 [cel .i64 18 lsF]), (9, .data 3 [cel .i64 3 (lsR (permN i j))])]) lp_ ?_ ?_
  · (repeat' (conv => whnf)<;>first|exact True.intro|(refine if_ ?_ ?_<;>intro h<;>first|exact h.elim|(exfalso; omega)|skip)|refine vs_ ?_|refine dv_ ?_|exact fin_|(show ∃ _, _ ∧ _; refine ex_ ?_)|(show ∃ _ _, _ ∧ _; refine ex2_ ?_))
  · intro k hk
    have ak := ls_rd (i := k) (by omega)
    by_cases c : k = permN i j
    · rw [c] at ak ⊢
      (repeat' (conv => whnf)<;>first|exact True.intro|(refine if_ ?_ ?_<;>intro h<;>first|exact h.elim|(exfalso; omega)|skip)|refine vs_ ?_ (by first|exact ⟨conf3 _, conf3 _⟩|exact sd_)|refine dv_ ?_|exact fin_|(show ∃ _, _ ∧ _; refine ex_ ?_ (by first|with_reducible exact rfl|exact ak|exact rd_all|exact ⟨fun _ => rfl, fun _ => rfl⟩|exact rd_))|(show ∃ _ _, _ ∧ _; refine ex2_ ?_ (by first|with_reducible exact rfl|exact ak|exact rd_all|exact ⟨fun _ => rfl, fun _ => rfl⟩|exact rd_)))
    · have hne : ¬ ∀ q, q < 3 → lsR k q = lsR (permN i j) q := fun h => c (lsR_inj (by omega) hp h)
      have hq : (false = true ↔ cel .i64 3 (lsR k) = cel .i64 3 (lsR (permN i j))) := ⟨(fun h => by cases h), fun h => absurd (cel_inj h) hne⟩
      (repeat' (conv => whnf)<;>first|exact True.intro|(refine if_ ?_ ?_<;>intro h<;>first|exact h.elim|(exfalso; omega)|skip)|refine vs_ ?_ (by first|exact ⟨conf3 _, conf3 _⟩|exact sd_)|refine dv_ ?_|exact fin_|(show ∃ _, _ ∧ _; refine ex_ ?_ (by first|with_reducible exact rfl|exact ak|exact rd_all|exact hq|exact rd_))|(show ∃ _ _, _ ∧ _; refine ex2_ ?_ (by first|with_reducible exact rfl|exact ak|exact rd_all|exact hq|exact rd_)))
      conv => whnf
      refine ⟨k + 1, by omega, by omega, ?_⟩
      (repeat' (conv => whnf)<;>first|exact True.intro|(refine if_ ?_ ?_<;>intro h<;>first|exact h.elim|(exfalso; omega)|skip)|refine vs_ ?_|refine dv_ ?_|exact fin_|(show ∃ _, _ ∧ _; refine ex_ ?_)|(show ∃ _ _, _ ∧ _; refine ex2_ ?_))
end Go.X
namespace Go.X
open Go Go.RowKit
set_option maxRecDepth 100000
set_option maxHeartbeats 8000000
set_option linter.unusedVariables false
variable {P : Program} {N : FN}
def C_sPowerV (P : Program) (N : FN) : Prop := ∀ {a : Alg} {v : Row} {k : Int}, SAlgIn a → Byts v → Can P N.spec_PowerVector [algD a, vecD v, .int .i64 k] (powVR a (sUnit a) v k (dB (sAlgP a ∧ AllSm a 1 fun _ => v)))
theorem c_sPowerV (hV : C_sCodeL P N) (hI : C_sIn P N) (hU : C_sUnit P N) (hT : C_sTimes P N) (hf : isFn P N.spec_PowerVector (ir_spec_PowerVector N) = true) : C_sPowerV P N := by
  intro a v k hi hv
  have hal := (algAt_one a).all
  have hV' : Can P N.spec_l01Code [algD a, .lst 6 [vecL v]] _ := hV (q := 1) (s := fun _ => v) hi (by omega) (fun _ => hv)
  unfold powVR
  by_cases g : sAlgP a ∧ AllSm a 1 fun _ => v
  · rw [dB_t g] at hV' ⊢
    have ha := hi.ok g.1.1
    have hp2 := prime_bd ha.p
    have hn := ha.n
    have hI' := hI (n := k) (lo := 0) (hi := 1000)
    rw [if_pos rfl] at hV' ⊢
    by_cases c : 0 ≤ k ∧ k ≤ 1000
    · have hU' : Can P N.spec_l01Unit [algD a] (.val (vecD (sUnit a))) := hU ha
      have ru := sUnit_rw ha
      rw [if_pos c]
      rw [decide_eq_true c] at hI'
      obtain ⟨m, hm⟩ : ∃ m : Nat, k = m := ⟨k.toNat, by omega⟩
      subst hm
      rw [Int.toNat_natCast]
      refine can_of hf rfl rfl ?_
      (repeat' (conv => whnf)<;>first|exact True.intro|(refine if_ ?_ ?_<;>intro h<;>first|exact h.elim|(exfalso; omega)|skip)|refine vs_ ?_|refine dv_ ?_|exact fin_|(show ∃ _, _ ∧ _; refine ex_ ?_ (by first|with_reducible exact rfl|with_reducible exact hal|exact hV'|exact hI'|exact hU'|exact rd_))|(show ∃ _ _, _ ∧ _; refine ex2_ ?_ (by first|with_reducible exact rfl|with_reducible exact hal|exact hV'|exact hI'|exact hU'|exact rd_)))
      conv => whnf
      refine vc_loop (α := Nat) 0 (fun i => m - i) (fun i => i ≤ m) [] (fun i => [(2, .d (.int .i64 ((m : Int) - i))), (3, .ptr 4 224 0 0), (4, .ptr 5 6 0 0), (6, .ptr 7 6 0 0), (9, .ptr 10 6 0 0)]) (fun i => [(4, .data 224 [algL a]), (5, .data 6 [vecL v]), (7, .data 6 [vecL Z]), (10, .data 6 [vecL (foldV a (sUnit a) v i)])]) lp_ ?_ ?_
      · rw [show ((m : Int) - ((0 : Nat) : Int)) = m by omega]
        (repeat' (conv => whnf)<;>first|exact True.intro|(refine if_ ?_ ?_<;>intro h<;>first|exact h.elim|(exfalso; omega)|skip)|refine vs_ ?_ (by first|exact st_all (f := Z)|exact sd_)|refine dv_ ?_|exact fin_|(show ∃ _, _ ∧ _; refine ex_ ?_)|(show ∃ _ _, _ ∧ _; refine ex2_ ?_))
      · intro i hi
        by_cases hlt : i < m
        · have hT' := hT ha.b ((foldV_rw (b := v) (by omega) ru i).byt (by omega)) hv (by omega) (by omega)
          (repeat' (conv => whnf)<;>first|exact True.intro|(refine if_ ?_ ?_<;>intro h<;>first|exact h.elim|(exfalso; omega)|skip)|refine vs_ ?_|refine dv_ ?_|exact fin_|(show ∃ _, _ ∧ _; refine ex_ ?_ (by first|with_reducible exact rfl|with_reducible exact hal|exact hT'|exact rd_))|(show ∃ _ _, _ ∧ _; refine ex2_ ?_ (by first|with_reducible exact rfl|with_reducible exact hal|exact hT'|exact rd_)))
          conv => whnf
          refine ⟨i + 1, by omega, by omega, ?_⟩
          rw [show ((m : Int) - ((i + 1 : Nat) : Int)) = (m : Int) - i - 1 by omega]
          (repeat' (conv => whnf)<;>first|exact True.intro|(refine if_ ?_ ?_<;>intro h<;>first|exact h.elim|(exfalso; omega)|skip)|refine vs_ ?_ (by first|exact st_all|exact sd_)|refine dv_ ?_|exact fin_|(show ∃ _, _ ∧ _; refine ex_ ?_)|(show ∃ _ _, _ ∧ _; refine ex2_ ?_))
        · have : i = m := by omega
          subst this
          (repeat' (conv => whnf)<;>first|exact True.intro|(refine if_ ?_ ?_<;>intro h<;>first|exact h.elim|(exfalso; omega)|skip)|refine vs_ ?_|refine dv_ ?_|exact fin_|(show ∃ _, _ ∧ _; refine ex_ ?_)|(show ∃ _ _, _ ∧ _; refine ex2_ ?_))
          all_goals (rw [show splice (vecL Z) 0 (cel .u8 6 (foldV a (sUnit a) v i)) = vecL (foldV a (sUnit a) v i) from spl_z _]; (repeat' (conv => whnf)<;>first|exact True.intro|(refine if_ ?_ ?_<;>intro h<;>first|exact h.elim|(exfalso; omega)|skip)|refine vs_ ?_|refine dv_ ?_|exact fin_|(show ∃ _, _ ∧ _; refine ex_ ?_)|(show ∃ _ _, _ ∧ _; refine ex2_ ?_)))
    · rw [if_neg c]
      rw [decide_eq_false c] at hI'
      refine can_of hf rfl rfl ?_
      (repeat' (conv => whnf)<;>first|exact True.intro|(refine if_ ?_ ?_<;>intro h<;>first|exact h.elim|(exfalso; omega)|skip)|refine vs_ ?_|refine dv_ ?_|exact fin_|(show ∃ _, _ ∧ _; refine ex_ ?_ (by first|with_reducible exact rfl|with_reducible exact hal|exact hV'|exact hI'|exact rd_))|(show ∃ _ _, _ ∧ _; refine ex2_ ?_ (by first|with_reducible exact rfl|with_reducible exact hal|exact hV'|exact hI'|exact rd_)))
  · rw [dB_f g] at hV' ⊢
    rw [if_neg (by decide)] at hV'
    rw [if_neg (by decide)]
    refine can_of hf rfl rfl ?_
    (repeat' (conv => whnf)<;>first|exact True.intro|(refine if_ ?_ ?_<;>intro h<;>first|exact h.elim|(exfalso; omega)|skip)|refine vs_ ?_|refine dv_ ?_|exact fin_|(show ∃ _, _ ∧ _; refine ex_ ?_ (by first|with_reducible exact rfl|with_reducible exact hal|exact hV'|exact rd_))|(show ∃ _ _, _ ∧ _; refine ex2_ ?_ (by first|with_reducible exact rfl|with_reducible exact hal|exact hV'|exact rd_)))
end Go.X
