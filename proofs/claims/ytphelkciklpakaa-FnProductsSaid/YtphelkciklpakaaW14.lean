import Derived.Test.YtphelkciklpakaaW13
set_option linter.all false
namespace Go.X
open Go Go.RowKit
set_option maxRecDepth 100000
set_option maxHeartbeats 8000000
set_option linter.unusedVariables false
set_option linter.unusedSimpArgs false
variable {P : Program} {N : FN}
def C_tenA (P : Program) (N : FN) : Prop := ∀ {a b : Alg}, AlgOk a → AlgOk b → a.n * b.n ≤ 6 → Can P N.spec_l01Tensor [algD a, algD b] (.val (algD (tenA a b)))
theorem tenS_f {a b : Alg} {q i m : Nat} (em : b.n = m) (h : q < 6) {v : Int} (hv : v = a.f (q / m) * b.f (q % m) % a.p) : (algL (tenS a b q i 0 0)).set (0 + 218 + ((q : Nat) : Int).toNat * 1) (.int .u8 v) = algL (tenS a b (q + 1) i 0 0) := by
  rw [L_setF h]
  have e : b.n.toNat = m := by omega
  have h1 := filF_s (U := fun _ => 0) (V := tenF a b m) (s := 0) (i := q)
  rw [Nat.zero_add] at h1
  have h2 : tenF a b m q = v := by rw [hv]; rfl
  rw [h2] at h1
  unfold tenS setF
  rw [e]
  dsimp only
  rw [h1]
theorem tenS_t {a b : Alg} {q i j k n m nm : Nat} (en : a.n = n) (em : b.n = m) (hnm : n * m = nm) (h6 : nm ≤ 6) (hi : i < nm) (hj : j < nm) (hk : k < nm) {v : Int} (hv : v = a.T (i / m) (j / m) (k / m) * b.T (i % m) (j % m) (k % m) % a.p) :
    (algL (tenS a b q i j k)).set (0 + 2 + ((i : Nat) : Int).toNat * 36 + ((j : Nat) : Int).toNat * 6 + ((k : Nat) : Int).toNat * 1) (.int .u8 v) = algL (tenS a b q i j (k + 1)) := by
  rw [L_setT (by omega) (by omega) (by omega)]
  have e : a.n.toNat = n := by omega
  have e2 : b.n.toNat = m := by omega
  have h1 := filT_s (U := fun _ _ _ => 0) (V := tenT a b m) (s := 0) (N := nm) (i := i) (j := j) (k := k) hj hk
  rw [Nat.zero_add, Nat.zero_add, Nat.zero_add] at h1
  have h2 : tenT a b m i j k = v := by rw [hv]; rfl
  rw [h2] at h1
  unfold tenS setT
  rw [e, e2, hnm]
  dsimp only
  rw [h1]
theorem c_tenA (hf : isFn P N.spec_l01Tensor (ir_spec_l01Tensor N) = true) : C_tenA P N := by
  intro a b ha hb hn
  have h1 := ha.n
  have h2 := hb.n
  have hp := prime_bd ha.p
  have hA := ha.b
  have hB := hb.b
  have hla : (algL a).length = 224 := arr_len ..
  have hlb : (algL b).length = 224 := arr_len ..
  have hlz := algZ_len
  obtain ⟨n, en⟩ : ∃ n : Nat, a.n = n := ⟨a.n.toNat, by omega⟩
  obtain ⟨m, em⟩ : ∃ m : Nat, b.n = m := ⟨b.n.toNat, by omega⟩
  have en' : a.n.toNat = n := by omega
  have em' : b.n.toNat = m := by omega
  have f1 : get2 [algL a] 0 (0 + 1) = some (.int .i64 (n : Int)) := by rw [← en]; exact (algAt_one a).n
  have f2 : get2 [algL b] 0 (0 + 1) = some (.int .i64 (m : Int)) := by rw [← em]; exact (algAt_one b).n
  obtain ⟨nm, hnm⟩ : ∃ q, n * m = q := ⟨_, rfl⟩
  have hnmI : (n : Int) * (m : Int) = (nm : Int) := by rw [← hnm, Int.natCast_mul]
  rw [en, em, hnmI] at hn
  have hz : ∀ q i j k, (algL (tenS a b q i j k)).length = 224 := fun _ _ _ _ => arr_len ..
  have eA : Chunk.data algZ.length ([algZ].set 0 (splice algZ 0 ((algZ.set 0 (.int .i64 a.p)).set 1 (.int .i64 ((n : Int) * (m : Int)))))) = .data 224 [algL (tenS a b 0 0 0 0)] := by
    rw [alg0_L, List.set_cons_zero, splice_whole (by rw [hlz]; exact arr_len ..), hlz]
    unfold tenS
    rw [filT_0, filF_0, en, em]; rfl
  have m1 : 1 ≤ m := by omega
  have hq : ∀ q, q < nm → q / m < 6 ∧ q % m < 6 := fun q hq => ⟨by have := Nat.div_le_self q m; omega, by have := Nat.mod_lt q (show 0 < m by omega); omega⟩
  have hI : ∀ {x : Nat}, x < 6 → 0 ≤ (x : Int) ∧ (x : Int) < 6 := fun h => ⟨Int.natCast_nonneg _, by exact_mod_cast h⟩
  have hI' : ∀ {x : Nat}, x < 6 → 0 ≤ (x : Int) ∧ (x : Int) < ((6 : Nat) : Int) := fun h => hI h
  refine can_of hf rfl rfl ?_
  (repeat' (conv => whnf)<;>first|exact True.intro|(refine if_ ?_ ?_<;>intro h<;>first|exact h.elim|(exfalso; omega)|skip)|refine vs_ ?_ (by first|exact ⟨rfl, by (simp only [List.length_set, hlz]; omega), rfl⟩|exact sd_)|refine dv_ ?_|exact fin_|(show ∃ _, _ ∧ _; refine ex_ ?_ (by first|with_reducible exact rfl|with_reducible exact f1|with_reducible exact f2|exact rd_))|(show ∃ _ _, _ ∧ _; refine ex2_ ?_ (by first|with_reducible exact rfl|with_reducible exact f1|with_reducible exact f2|exact rd_)))
  conv => whnf
  refine vc_loop (α := Nat) 0 (fun i => nm - i) (fun i => i ≤ nm) [] (fun i => [(8, .d (.int .i64 i))]) (fun i => [(8, .data 224 [algL (tenS a b i i 0 0)])]) lp_ ?_ ?_
  · (repeat' (conv => whnf)<;>first|exact True.intro|(refine if_ ?_ ?_<;>intro h<;>first|exact h.elim|(exfalso; omega)|skip)|refine vs_ ?_ (by first|exact eA|exact sd_)|refine dv_ ?_|exact fin_|(show ∃ _, _ ∧ _; refine ex_ ?_)|(show ∃ _ _, _ ∧ _; refine ex2_ ?_))
  · intro i hi
    by_cases hlt : i < nm
    · obtain ⟨q1, q2⟩ := hq i hlt
      have c1 := hA.2 (i / m)
      have c2 := hB.2 (i % m)
      have b1 := mul_bd (hA.2 (i / m)) (hB.2 (i % m))
      have b2 := mod_bd (a.f (i / m) * b.f (i % m)) (show 1 ≤ a.p by omega)
      have g1 := tenS_f (a := a) (b := b) (q := i) (i := i) em (by omega) rfl
      (repeat' (conv => whnf)<;>first|exact True.intro|(refine if_ ?_ ?_<;>intro h<;>first|exact h.elim|(exfalso; omega)|skip)|refine vs_ ?_ (by first|with_reducible exact hI' q1 | with_reducible exact hI' q2 | (simp only [hz]; omega) | exact ⟨rfl, by (simp only [hz]; omega)⟩|exact sd_)|refine dv_ ?_|exact fin_|(show ∃ _, _ ∧ _; refine ex_ ?_ (by first|with_reducible exact rfl|with_reducible exact f1|with_reducible exact f2|exact rd_))|(show ∃ _ _, _ ∧ _; refine ex2_ ?_ (by first|with_reducible exact rfl|with_reducible exact f1|with_reducible exact f2|exact rd_)))
      rw [g1]
      conv => whnf
      refine vc_loop (α := Nat) 0 (fun j => nm - j) (fun j => j ≤ nm) [] (fun j => [(9, .d (.int .i64 j))]) (fun j => [(8, .data 224 [algL (tenS a b (i + 1) i j 0)])]) lp_ ?_ ?_
      · (repeat' (conv => whnf)<;>first|exact True.intro|(refine if_ ?_ ?_<;>intro h<;>first|exact h.elim|(exfalso; omega)|skip)|refine vs_ ?_|refine dv_ ?_|exact fin_|(show ∃ _, _ ∧ _; refine ex_ ?_)|(show ∃ _ _, _ ∧ _; refine ex2_ ?_))
      · intro j hj
        by_cases hlt2 : j < nm
        · obtain ⟨q3, q4⟩ := hq j hlt2
          (repeat' (conv => whnf)<;>first|exact True.intro|(refine if_ ?_ ?_<;>intro h<;>first|exact h.elim|(exfalso; omega)|skip)|refine vs_ ?_|refine dv_ ?_|exact fin_|(show ∃ _, _ ∧ _; refine ex_ ?_ (by first|with_reducible exact rfl|with_reducible exact f1|with_reducible exact f2|exact rd_))|(show ∃ _ _, _ ∧ _; refine ex2_ ?_ (by first|with_reducible exact rfl|with_reducible exact f1|with_reducible exact f2|exact rd_)))
          conv => whnf
          refine vc_loop (α := Nat) 0 (fun k => nm - k) (fun k => k ≤ nm) [] (fun k => [(10, .d (.int .i64 k))]) (fun k => [(8, .data 224 [algL (tenS a b (i + 1) i j k)])]) lp_ ?_ ?_
          · (repeat' (conv => whnf)<;>first|exact True.intro|(refine if_ ?_ ?_<;>intro h<;>first|exact h.elim|(exfalso; omega)|skip)|refine vs_ ?_|refine dv_ ?_|exact fin_|(show ∃ _, _ ∧ _; refine ex_ ?_)|(show ∃ _ _, _ ∧ _; refine ex2_ ?_))
          · intro k hk
            by_cases hlt3 : k < nm
            · obtain ⟨q5, q6⟩ := hq k hlt3
              have c3 := hA.1 (i / m) (j / m) (k / m)
              have c4 := hB.1 (i % m) (j % m) (k % m)
              have b3 := mul_bd (hA.1 (i / m) (j / m) (k / m)) (hB.1 (i % m) (j % m) (k % m))
              have b4 := mod_bd (a.T (i / m) (j / m) (k / m) * b.T (i % m) (j % m) (k % m)) (show 1 ≤ a.p by omega)
              have g2 := tenS_t (a := a) (b := b) (q := i + 1) (v := a.T (i / m) (j / m) (k / m) * b.T (i % m) (j % m) (k % m) % a.p) en em hnm (by omega) hlt hlt2 hlt3 rfl
              (repeat' (conv => whnf)<;>first|exact True.intro|(refine if_ ?_ ?_<;>intro h<;>first|exact h.elim|(exfalso; omega)|skip)|refine vs_ ?_ (by first|with_reducible exact hI' q1 | with_reducible exact hI' q2 | with_reducible exact hI' q3 | with_reducible exact hI' q4 | with_reducible exact hI' q5 | with_reducible exact hI' q6 | (simp only [hz]; omega) | exact ⟨rfl, by (simp only [hz]; omega)⟩|exact sd_)|refine dv_ ?_|exact fin_|(show ∃ _, _ ∧ _; refine ex_ ?_ (by first|with_reducible exact rfl|with_reducible exact f1|with_reducible exact f2|exact rd_))|(show ∃ _ _, _ ∧ _; refine ex2_ ?_ (by first|with_reducible exact rfl|with_reducible exact f1|with_reducible exact f2|exact rd_)))
              conv => whnf
              refine ⟨k + 1, by omega, by omega, ?_⟩
              rw [← g2]
              (repeat' (conv => whnf)<;>first|exact True.intro|(refine if_ ?_ ?_<;>intro h<;>first|exact h.elim|(exfalso; omega)|skip)|refine vs_ ?_|refine dv_ ?_|exact fin_|(show ∃ _, _ ∧ _; refine ex_ ?_)|(show ∃ _ _, _ ∧ _; refine ex2_ ?_))
            · have : k = nm := by omega
              subst this
              (repeat' (conv => whnf)<;>first|exact True.intro|(refine if_ ?_ ?_<;>intro h<;>first|exact h.elim|(exfalso; omega)|skip)|refine vs_ ?_|refine dv_ ?_|exact fin_|(show ∃ _, _ ∧ _; refine ex_ ?_ (by first|with_reducible exact rfl|with_reducible exact f1|with_reducible exact f2|exact rd_))|(show ∃ _ _, _ ∧ _; refine ex2_ ?_ (by first|with_reducible exact rfl|with_reducible exact f1|with_reducible exact f2|exact rd_)))
              conv => whnf
              refine ⟨j + 1, by omega, by omega, ?_⟩
              rw [show tenS a b (i + 1) i (j + 1) 0 = tenS a b (i + 1) i j k from by unfold tenS; rw [en', em', hnm, filT_r]]
              (repeat' (conv => whnf)<;>first|exact True.intro|(refine if_ ?_ ?_<;>intro h<;>first|exact h.elim|(exfalso; omega)|skip)|refine vs_ ?_|refine dv_ ?_|exact fin_|(show ∃ _, _ ∧ _; refine ex_ ?_)|(show ∃ _ _, _ ∧ _; refine ex2_ ?_))
        · have : j = nm := by omega
          subst this
          (repeat' (conv => whnf)<;>first|exact True.intro|(refine if_ ?_ ?_<;>intro h<;>first|exact h.elim|(exfalso; omega)|skip)|refine vs_ ?_|refine dv_ ?_|exact fin_|(show ∃ _, _ ∧ _; refine ex_ ?_ (by first|with_reducible exact rfl|with_reducible exact f1|with_reducible exact f2|exact rd_))|(show ∃ _ _, _ ∧ _; refine ex2_ ?_ (by first|with_reducible exact rfl|with_reducible exact f1|with_reducible exact f2|exact rd_)))
          conv => whnf
          refine ⟨i + 1, by omega, by omega, ?_⟩
          rw [show tenS a b (i + 1) (i + 1) 0 0 = tenS a b (i + 1) i j 0 from by unfold tenS; rw [en', em', hnm, filT_R]]
          (repeat' (conv => whnf)<;>first|exact True.intro|(refine if_ ?_ ?_<;>intro h<;>first|exact h.elim|(exfalso; omega)|skip)|refine vs_ ?_|refine dv_ ?_|exact fin_|(show ∃ _, _ ∧ _; refine ex_ ?_)|(show ∃ _ _, _ ∧ _; refine ex2_ ?_))
    · have : i = nm := by omega
      subst this
      have e9 : tenA a b = tenS a b i i 0 0 := by unfold tenA; rw [en', em', hnm]
      rw [e9]
      (repeat' (conv => whnf)<;>first|exact True.intro|(refine if_ ?_ ?_<;>intro h<;>first|exact h.elim|(exfalso; omega)|skip)|refine vs_ ?_|refine dv_ ?_|exact fin_|(show ∃ _, _ ∧ _; refine ex_ ?_ (by first|with_reducible exact rfl|with_reducible exact f1|with_reducible exact f2|exact rd_one|exact rd_))|(show ∃ _ _, _ ∧ _; refine ex2_ ?_ (by first|with_reducible exact rfl|with_reducible exact f1|with_reducible exact f2|exact rd_one|exact rd_)))
end Go.X
