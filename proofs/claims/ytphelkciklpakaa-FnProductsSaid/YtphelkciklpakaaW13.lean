import Derived.Test.YtphelkciklpakaaW12
import Derived.Test.YtphelkciklpakaaK20
set_option linter.all false
namespace Go.X
open Go Go.RowKit
set_option maxRecDepth 100000
set_option maxHeartbeats 8000000
set_option linter.unusedVariables false
set_option linter.unusedSimpArgs false
variable {P : Program} {N : FN}
def C_sumA (P : Program) (N : FN) : Prop := ∀ {a b : Alg}, AlgOk a → AlgOk b → a.n + b.n ≤ 6 → Can P N.spec_l01Sum [algD a, algD b] (.val (algD (sumA a b)))
theorem sumS_0 {a b : Alg} : { a with n := a.n + b.n } = sumS a b 0 0 0 0 := by
  unfold sumS; rw [filT_0, filF_0]
theorem sumS_f {a b : Alg} {q i n : Nat} {x : Int} (en : a.n = n) (h : n + q < 6) (hx : x = ((n + q : Nat) : Int)) : (algL (sumS a b q i 0 0)).set (0 + 218 + x.toNat * 1) (.int .u8 (b.f q)) = algL (sumS a b (q + 1) i 0 0) := by
  rw [L_setFi hx h]
  have e : a.n.toNat = n := by omega
  have h1 := filF_s (U := a.f) (V := sumF b n) (s := n) (i := q)
  have h2 : sumF b n (n + q) = b.f q := by unfold sumF; rw [Nat.add_sub_cancel_left]
  rw [h2] at h1
  unfold sumS setF
  rw [e]
  dsimp only
  rw [h1]
theorem sumS_t {a b : Alg} {q i j k n m : Nat} {x y z : Int} (en : a.n = n) (em : b.n = m) (hm : n + m ≤ 6) (hi : i < m) (hj : j < m) (hk : k < m) (hx : x = ((n + i : Nat) : Int)) (hy : y = ((n + j : Nat) : Int)) (hz : z = ((n + k : Nat) : Int)) :
    (algL (sumS a b q i j k)).set (0 + 2 + x.toNat * 36 + y.toNat * 6 + z.toNat * 1) (.int .u8 (b.T i j k)) = algL (sumS a b q i j (k + 1)) := by
  rw [L_setTi hx hy hz (by omega) (by omega) (by omega)]
  have e : a.n.toNat = n := by omega
  have e2 : b.n.toNat = m := by omega
  have h1 := filT_s (U := a.T) (V := sumT b n) (s := n) (N := m) (i := i) (j := j) (k := k) hj hk
  have h2 : sumT b n (n + i) (n + j) (n + k) = b.T i j k := by unfold sumT; rw [Nat.add_sub_cancel_left, Nat.add_sub_cancel_left, Nat.add_sub_cancel_left]
  rw [h2] at h1
  unfold sumS setT
  rw [e, e2]
  dsimp only
  rw [h1]
theorem c_sumA (hf : isFn P N.spec_l01Sum (ir_spec_l01Sum N) = true) : C_sumA P N := by
  intro a b ha hb hn
  have h1 := ha.n
  have h2 := hb.n
  have f1 := (algAt_one a).n
  have f2 := (algAt_one b).n
  have hB := hb.b
  have hla : (algL a).length = 224 := arr_len ..
  have hlb : (algL b).length = 224 := arr_len ..
  have hlz := algZ_len
  obtain ⟨n, en⟩ : ∃ n : Nat, a.n = n := ⟨a.n.toNat, by omega⟩
  obtain ⟨m, em⟩ : ∃ m : Nat, b.n = m := ⟨b.n.toNat, by omega⟩
  have en' : a.n.toNat = n := by omega
  have em' : b.n.toNat = m := by omega
  have e0 : splice algZ 0 (algL a) = algL a := splice_whole (by rw [hla, hlz])
  have eA : Chunk.data algZ.length (([algZ].set 0 (splice algZ 0 (algL a))).set 0 ((algL a).set (0 + 1) (D.int IntKind.i64 (a.n + b.n)))) = .data 224 [algL (sumS a b 0 0 0 0)] := by
    rw [L_setN, sumS_0, hlz]; rfl
  have hz : ∀ q i j k, (algL (sumS a b q i j k)).length = 224 := fun _ _ _ _ => arr_len ..
  refine can_of hf rfl rfl ?_
  (repeat' (conv => whnf)<;>first|exact True.intro|(refine if_ ?_ ?_<;>intro h<;>first|exact h.elim|(exfalso; omega)|skip)|refine vs_ ?_ (by first|(simp only [List.length_set, e0, hla]; omega)|exact sd_)|refine dv_ ?_|exact fin_|(show ∃ _, _ ∧ _; refine ex_ ?_ (by first|with_reducible exact rfl|with_reducible exact (algAt_one a).all|exact rd_))|(show ∃ _ _, _ ∧ _; refine ex2_ ?_ (by first|with_reducible exact rfl|with_reducible exact (algAt_one a).all|exact rd_)))
  conv => whnf
  refine vc_loop (α := Nat) 0 (fun i => m - i) (fun i => i ≤ m) [] (fun i => [(6, .d (.int .i64 i))]) (fun i => [(6, .data 224 [algL (sumS a b i i 0 0)])]) lp_ ?_ ?_
  · (repeat' (conv => whnf)<;>first|exact True.intro|(refine if_ ?_ ?_<;>intro h<;>first|exact h.elim|(exfalso; omega)|skip)|refine vs_ ?_ (by first|exact eA|exact sd_)|refine dv_ ?_|exact fin_|(show ∃ _, _ ∧ _; refine ex_ ?_)|(show ∃ _ _, _ ∧ _; refine ex2_ ?_))
  · intro i hi
    by_cases hlt : i < m
    · have g1 := sumS_f (b := b) (q := i) (i := i) (x := a.n + (i : Int)) en (by omega) (by omega)
      (repeat' (conv => whnf)<;>first|exact True.intro|(refine if_ ?_ ?_<;>intro h<;>first|exact h.elim|(exfalso; omega)|skip)|refine vs_ ?_ (by first|(simp only [hz]; omega) | exact ⟨rfl, by (simp only [hz]; omega)⟩|exact sd_)|refine dv_ ?_|exact fin_|(show ∃ _, _ ∧ _; refine ex_ ?_ (by first|with_reducible exact rfl|with_reducible exact f1|with_reducible exact f2|exact rd_))|(show ∃ _ _, _ ∧ _; refine ex2_ ?_ (by first|with_reducible exact rfl|with_reducible exact f1|with_reducible exact f2|exact rd_)))
      rw [g1]
      conv => whnf
      refine vc_loop (α := Nat) 0 (fun j => m - j) (fun j => j ≤ m) [] (fun j => [(7, .d (.int .i64 j))]) (fun j => [(6, .data 224 [algL (sumS a b (i + 1) i j 0)])]) lp_ ?_ ?_
      · (repeat' (conv => whnf)<;>first|exact True.intro|(refine if_ ?_ ?_<;>intro h<;>first|exact h.elim|(exfalso; omega)|skip)|refine vs_ ?_|refine dv_ ?_|exact fin_|(show ∃ _, _ ∧ _; refine ex_ ?_)|(show ∃ _ _, _ ∧ _; refine ex2_ ?_))
      · intro j hj
        by_cases hlt2 : j < m
        · (repeat' (conv => whnf)<;>first|exact True.intro|(refine if_ ?_ ?_<;>intro h<;>first|exact h.elim|(exfalso; omega)|skip)|refine vs_ ?_|refine dv_ ?_|exact fin_|(show ∃ _, _ ∧ _; refine ex_ ?_ (by first|with_reducible exact rfl|with_reducible exact f1|with_reducible exact f2|exact rd_))|(show ∃ _ _, _ ∧ _; refine ex2_ ?_ (by first|with_reducible exact rfl|with_reducible exact f1|with_reducible exact f2|exact rd_)))
          conv => whnf
          refine vc_loop (α := Nat) 0 (fun k => m - k) (fun k => k ≤ m) [] (fun k => [(8, .d (.int .i64 k))]) (fun k => [(6, .data 224 [algL (sumS a b (i + 1) i j k)])]) lp_ ?_ ?_
          · (repeat' (conv => whnf)<;>first|exact True.intro|(refine if_ ?_ ?_<;>intro h<;>first|exact h.elim|(exfalso; omega)|skip)|refine vs_ ?_|refine dv_ ?_|exact fin_|(show ∃ _, _ ∧ _; refine ex_ ?_)|(show ∃ _ _, _ ∧ _; refine ex2_ ?_))
          · intro k hk
            by_cases hlt3 : k < m
            · have g2 := sumS_t (a := a) (b := b) (q := i + 1) (x := a.n + (i : Int)) (y := a.n + (j : Int)) (z := a.n + (k : Int)) en em (by omega) hlt hlt2 hlt3 (by omega) (by omega) (by omega)
              (repeat' (conv => whnf)<;>first|exact True.intro|(refine if_ ?_ ?_<;>intro h<;>first|exact h.elim|(exfalso; omega)|skip)|refine vs_ ?_ (by first|(simp only [hz]; omega) | exact ⟨rfl, by (simp only [hz]; omega)⟩|exact sd_)|refine dv_ ?_|exact fin_|(show ∃ _, _ ∧ _; refine ex_ ?_ (by first|with_reducible exact rfl|with_reducible exact f1|with_reducible exact f2|exact rd_))|(show ∃ _ _, _ ∧ _; refine ex2_ ?_ (by first|with_reducible exact rfl|with_reducible exact f1|with_reducible exact f2|exact rd_)))
              conv => whnf
              refine ⟨k + 1, by omega, by omega, ?_⟩
              rw [← g2]
              (repeat' (conv => whnf)<;>first|exact True.intro|(refine if_ ?_ ?_<;>intro h<;>first|exact h.elim|(exfalso; omega)|skip)|refine vs_ ?_|refine dv_ ?_|exact fin_|(show ∃ _, _ ∧ _; refine ex_ ?_)|(show ∃ _ _, _ ∧ _; refine ex2_ ?_))
            · have : k = m := by omega
              subst this
              (repeat' (conv => whnf)<;>first|exact True.intro|(refine if_ ?_ ?_<;>intro h<;>first|exact h.elim|(exfalso; omega)|skip)|refine vs_ ?_|refine dv_ ?_|exact fin_|(show ∃ _, _ ∧ _; refine ex_ ?_ (by first|with_reducible exact rfl|with_reducible exact f1|with_reducible exact f2|exact rd_))|(show ∃ _ _, _ ∧ _; refine ex2_ ?_ (by first|with_reducible exact rfl|with_reducible exact f1|with_reducible exact f2|exact rd_)))
              conv => whnf
              refine ⟨j + 1, by omega, by omega, ?_⟩
              rw [show sumS a b (i + 1) i (j + 1) 0 = sumS a b (i + 1) i j k from by unfold sumS; rw [em', filT_r]]
              (repeat' (conv => whnf)<;>first|exact True.intro|(refine if_ ?_ ?_<;>intro h<;>first|exact h.elim|(exfalso; omega)|skip)|refine vs_ ?_|refine dv_ ?_|exact fin_|(show ∃ _, _ ∧ _; refine ex_ ?_)|(show ∃ _ _, _ ∧ _; refine ex2_ ?_))
        · have : j = m := by omega
          subst this
          (repeat' (conv => whnf)<;>first|exact True.intro|(refine if_ ?_ ?_<;>intro h<;>first|exact h.elim|(exfalso; omega)|skip)|refine vs_ ?_|refine dv_ ?_|exact fin_|(show ∃ _, _ ∧ _; refine ex_ ?_ (by first|with_reducible exact rfl|with_reducible exact f1|with_reducible exact f2|exact rd_))|(show ∃ _ _, _ ∧ _; refine ex2_ ?_ (by first|with_reducible exact rfl|with_reducible exact f1|with_reducible exact f2|exact rd_)))
          conv => whnf
          refine ⟨i + 1, by omega, by omega, ?_⟩
          rw [show sumS a b (i + 1) (i + 1) 0 0 = sumS a b (i + 1) i j 0 from by unfold sumS; rw [em', filT_R]]
          (repeat' (conv => whnf)<;>first|exact True.intro|(refine if_ ?_ ?_<;>intro h<;>first|exact h.elim|(exfalso; omega)|skip)|refine vs_ ?_|refine dv_ ?_|exact fin_|(show ∃ _, _ ∧ _; refine ex_ ?_)|(show ∃ _ _, _ ∧ _; refine ex2_ ?_))
    · have : i = m := by omega
      subst this
      have e9 : sumA a b = sumS a b i i 0 0 := by unfold sumA; rw [em']
      rw [e9]
      have e10 : splice algZ 0 (algL (sumS a b i i 0 0)) = algL (sumS a b i i 0 0) := splice_whole (by rw [hz, hlz])
      (repeat' (conv => whnf)<;>first|exact True.intro|(refine if_ ?_ ?_<;>intro h<;>first|exact h.elim|(exfalso; omega)|skip)|refine vs_ ?_|refine dv_ ?_|exact fin_|(show ∃ _, _ ∧ _; refine ex_ ?_ (by first|with_reducible exact rfl|with_reducible exact f1|with_reducible exact f2|exact rd_one|exact rd_))|(show ∃ _ _, _ ∧ _; refine ex2_ ?_ (by first|with_reducible exact rfl|with_reducible exact f1|with_reducible exact f2|exact rd_one|exact rd_)))
end Go.X
namespace Go.X
open Go Go.RowKit
set_option maxRecDepth 100000
set_option maxHeartbeats 8000000
set_option linter.unusedVariables false
variable {P : Program} {N : FN}
def nrF (most : Int) (i : Nat) : Int := [-1, most + 1, 1099511627776, -4611686018427387904].getD i 0
theorem nr_lst (most : Int) : D.lst 1 [[.int .i64 (-1)], [.int .i64 (most + 1)], [.int .i64 1099511627776], [.int .i64 (-4611686018427387904)]] = rowD 4 (nrF most) := rfl
theorem nr_bd {most : Int} (h : 0 ≤ most ∧ most ≤ 1000) {i : Nat} (hi : i < 4) : -9223372036854775808 ≤ nrF most i ∧ nrF most i ≤ 9223372036854775807 := by
  match i, hi with
  | 0, _ => show -9223372036854775808 ≤ (-1 : Int) ∧ (-1 : Int) ≤ 9223372036854775807; omega
  | 1, _ => show -9223372036854775808 ≤ most + 1 ∧ most + 1 ≤ 9223372036854775807; omega
  | 2, _ => show -9223372036854775808 ≤ (1099511627776 : Int) ∧ (1099511627776 : Int) ≤ 9223372036854775807; omega
  | 3, _ => show -9223372036854775808 ≤ (-4611686018427387904 : Int) ∧ (-4611686018427387904 : Int) ≤ 9223372036854775807; omega
def C_near (P : Program) (N : FN) : Prop := ∀ {s : Src} {most : Int}, SrcOk s → 0 ≤ most ∧ most ≤ 1000 → ∃ x s', (-9223372036854775808 ≤ x ∧ x ≤ 9223372036854775807) ∧ SrcOk s' ∧ Can P N.spec_l01Near [.int .i64 most] (.postB 3 [srcL s] [srcL s'] (.val (.int .i64 x)))
theorem c_near (hN : C_next P N) (hK : C_pick P N) (hf : isFn P N.spec_l01Near (ir_spec_l01Near N) = true) : C_near P N := by
  intro s most hs hm
  have hN1 := hN (n := 14) hs (by omega)
  have hs1 := nextT_ok hs 14
  generalize nextT s 14 = s1 at *
  by_cases c : nextV s 14 = 0
  · have hb := nextV_bd (s := s1) (n := ((4 : Nat) : Int)) (by omega)
    have hK' := hK (m := 4) (f := nrF most) hs1 (by omega)
    rw [← nr_lst] at hK'
    refine ⟨_, _, nr_bd hm (i := (nextV s1 ((4 : Nat) : Int)).toNat) (by omega), nextT_ok hs1 ((4 : Nat) : Int), ?_⟩
    rw [c] at hN1
    refine can_ofB hf rfl rfl rfl rfl ?_
    (repeat' (conv => whnf)<;>first|exact True.intro|(refine if_ ?_ ?_<;>intro h<;>first|exact h.elim|(exfalso; omega)|skip)|refine vs_ ?_|refine dv_ ?_|exact fin_|(show ∃ _, _ ∧ _; refine ex_ ?_ (by first|with_reducible exact rfl|exact hN1|exact hK'|exact rd_))|(show ∃ _ _, _ ∧ _; refine ex2_ ?_ (by first|with_reducible exact rfl|exact hN1|exact hK'|exact rd_)))
  · have hb := nextV_bd (s := s1) (n := most + 1) (by omega)
    have hN2 := hN (n := most + 1) hs1 (by omega)
    refine ⟨_, _, (⟨by omega, by omega⟩ : -9223372036854775808 ≤ nextV s1 (most + 1) ∧ nextV s1 (most + 1) ≤ 9223372036854775807), nextT_ok hs1 (most + 1), ?_⟩
    refine can_ofB hf rfl rfl rfl rfl ?_
    (repeat' (conv => whnf)<;>first|exact True.intro|(refine if_ ?_ ?_<;>intro h<;>first|exact h.elim|(exfalso; omega)|skip)|refine vs_ ?_|refine dv_ ?_|exact fin_|(show ∃ _, _ ∧ _; refine ex_ ?_ (by first|with_reducible exact rfl|exact hN1|exact hN2|exact rd_))|(show ∃ _ _, _ ∧ _; refine ex2_ ?_ (by first|with_reducible exact rfl|exact hN1|exact hN2|exact rd_)))
end Go.X
