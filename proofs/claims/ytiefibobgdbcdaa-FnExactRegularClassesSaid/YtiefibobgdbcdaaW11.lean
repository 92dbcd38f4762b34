import Derived.Test.YtiefibobgdbcdaaK17
import Derived.Test.YtiefibobgdbcdaaK1
import Derived.Test.YtiefibobgdbcdaaW9
import Derived.Test.YtiefibobgdbcdaaK15
import Derived.Test.YtiefibobgdbcdaaW3
set_option linter.all false
namespace Go.X
open Go Go.RowKit
set_option maxRecDepth 100000
set_option maxHeartbeats 8000000
set_option linter.unusedVariables false
variable {P : Program} {N : FN}
theorem row_getM {m : Nat} {f : Row} {x : Int} {y : Nat} (h : x = (y : Nat)) (hy : y < m) : get2 (row m f) x.toNat 0 = some (.int .i64 (f y)) := by
  subst h
  unfold get2
  rw [Int.toNat_natCast, show (row m f)[y]? = some [.int .i64 (f y)] from arr_get hy]; rfl
theorem tb_getM {t : Tb} {x : Int} {y : Nat} (h : x = (y : Nat)) (hy : y < t.m) : get2 (tbL t) x.toNat 0 = some (rowD (t.n y) (t.f y)) := by
  subst h
  exact tb_get hy
theorem cel_facts {g : Grp} (hb : GrpB g) (h : GP g) {p : Int} {t : Tb} (hp : p ∈ primes) (hs : sqP g.n p t) {i j k : Nat} (hi : i < g.n.toNat) (hj : j < g.n.toNat) (hk : k < g.n.toNat) :
    (g.t i j = (mN g i j : Nat) ∧ mN g i j < t.m ∧ k < t.n (mN g i j)) ∧ (g.t j k = (mN g j k : Nat) ∧ mN g j k < t.n i) ∧
    (0 ≤ t.f i j * t.f (mN g i j) k ∧ t.f i j * t.f (mN g i j) k ≤ 144) ∧ (0 ≤ t.f j k * t.f i (mN g j k) ∧ t.f j k * t.f i (mN g j k) ≤ 144) := by
  have hp2 := prime_bd hp
  obtain ⟨a1, a2⟩ := GP.tN hb h hi hj
  obtain ⟨b1, b2⟩ := GP.tN hb h hj hk
  have c1 := sq_cell hb h hs hi hj
  have c2 := sq_cell hb h hs a2 hk
  have c3 := sq_cell hb h hs hj hk
  have c4 := sq_cell hb h hs hi b2
  exact ⟨⟨a1, c2.1, c2.2.1⟩, ⟨b1, c4.2.1⟩, mulG_bd hp2 c1.2.2 c2.2.2, mulG_bd hp2 c3.2.2 c4.2.2⟩
theorem tb_get0 {t : Tb} (h : 0 < t.m) : get2 (tbL t) (Int.toNat 0) 0 = some (rowD (t.n 0) (t.f 0)) := tb_getM (x := 0) rfl h
theorem row_get0 {m : Nat} {f : Row} (h : 0 < m) : get2 (row m f) (Int.toNat 0) 0 = some (.int .i64 (f 0)) := row_getM (x := 0) rfl h
theorem c_sCoc (hf : isFn P N.spec_l06Cocycle (ir_spec_l06Cocycle N) = true) : C_sCoc P N := by
  intro g p t hb hG hp hs
  have hat := grpAt_one g
  have hn := hG.1
  have hp2 := prime_bd hp
  have hl := tbL_len t
  have hm : (t.m : Int) = g.n := hs.1
  have c00 := sq_cell hb hG hs (i := 0) (j := 0) (by omega) (by omega)
  have hr0 : (row (t.n 0) (t.f 0)).length = t.n 0 := row_len ..
  obtain ⟨n, hnn⟩ : ∃ n, n = g.n.toNat := ⟨_, rfl⟩
  unfold cocB
  by_cases c : cocL g p t
  · rw [dB_t c]
    refine can_of hf rfl rfl ?_
    (repeat' (conv => whnf)<;>first|exact True.intro|(refine if_ ?_ ?_<;>intro h<;>first|exact h.elim|(exfalso; omega)|skip)|refine vs_ ?_|refine dv_ ?_|exact fin_|(show ∃ _, _ ∧ _; refine ex_ ?_)|(show ∃ _ _, _ ∧ _; refine ex2_ ?_))
    conv => whnf
    refine vc_loop (α := Nat) 0 (fun i => n - i) (fun i => i ≤ n) [] (fun i => [(0, .d (.int .i64 p)), (2, .d (tbD t)), (4, .ptr 5 37 0 0), (7, .d (.int .i64 i))]) (fun i => [(5, .data 37 [grpL g])]) lp_ ?_ ?_
    · (repeat' (conv => whnf)<;>first|exact True.intro|(refine if_ ?_ ?_<;>intro h<;>first|exact h.elim|(exfalso; omega)|skip)|refine vs_ ?_|refine dv_ ?_|exact fin_|(show ∃ _, _ ∧ _; refine ex_ ?_)|(show ∃ _ _, _ ∧ _; refine ex2_ ?_))
    · intro i hi
      by_cases hlt : i < n
      · (repeat' (conv => whnf)<;>first|exact True.intro|(refine if_ ?_ ?_<;>intro h<;>first|exact h.elim|(exfalso; omega)|skip)|refine vs_ ?_|refine dv_ ?_|exact fin_|(show ∃ _, _ ∧ _; refine ex_ ?_ (by first|with_reducible exact rfl|with_reducible exact hat.n|exact rd_))|(show ∃ _ _, _ ∧ _; refine ex2_ ?_ (by first|with_reducible exact rfl|with_reducible exact hat.n|exact rd_)))
        conv => whnf
        refine vc_loop (α := Nat) 0 (fun j => n - j) (fun j => j ≤ n) [] (fun j => [(0, .d (.int .i64 p)), (2, .d (tbD t)), (4, .ptr 5 37 0 0), (7, .d (.int .i64 i)), (8, .d (.int .i64 j))]) (fun j => [(5, .data 37 [grpL g])]) lp_ ?_ ?_
        · (repeat' (conv => whnf)<;>first|exact True.intro|(refine if_ ?_ ?_<;>intro h<;>first|exact h.elim|(exfalso; omega)|skip)|refine vs_ ?_|refine dv_ ?_|exact fin_|(show ∃ _, _ ∧ _; refine ex_ ?_)|(show ∃ _ _, _ ∧ _; refine ex2_ ?_))
        · intro j hj
          by_cases hlt2 : j < n
          · have c1 := sq_cell hb hG hs (i := i) (j := j) (by omega) (by omega)
            have c2 := sq_cell hb hG hs (i := j) (j := 0) (by omega) (by omega)
            have hr1 : (row (t.n i) (t.f i)).length = t.n i := row_len ..
            have hr2 : (row (t.n j) (t.f j)).length = t.n j := row_len ..
            have d1 := c i (by omega) j (by omega)
            (repeat' (conv => whnf)<;>first|exact True.intro|(refine if_ ?_ ?_<;>intro h<;>first|exact h.elim|(exfalso; omega)|skip)|refine vs_ ?_|refine dv_ ?_|exact fin_|(show ∃ _, _ ∧ _; refine ex_ ?_ (by first|with_reducible exact rfl|with_reducible exact hat.n|with_reducible exact tb_get c1.1|exact rd_))|(show ∃ _ _, _ ∧ _; refine ex2_ ?_ (by first|with_reducible exact rfl|with_reducible exact hat.n|with_reducible exact tb_get c1.1|exact rd_)))
            conv => whnf
            refine vc_loop (α := Nat) 0 (fun k => n - k) (fun k => k ≤ n) [] (fun k => [(0, .d (.int .i64 p)), (2, .d (tbD t)), (4, .ptr 5 37 0 0), (7, .d (.int .i64 i)), (8, .d (.int .i64 j)), (9, .d (.int .i64 k))]) (fun k => [(5, .data 37 [grpL g])]) lp_ ?_ ?_
            · (repeat' (conv => whnf)<;>first|exact True.intro|(refine if_ ?_ ?_<;>intro h<;>first|exact h.elim|(exfalso; omega)|skip)|refine vs_ ?_|refine dv_ ?_|exact fin_|(show ∃ _, _ ∧ _; refine ex_ ?_)|(show ∃ _ _, _ ∧ _; refine ex2_ ?_))
            · intro k hk
              by_cases hlt3 : k < n
              · obtain ⟨⟨e1, e2, e3⟩, ⟨e4, e5⟩, e6, e7⟩ := cel_facts hb hG hp hs (i := i) (j := j) (k := k) (by omega) (by omega) (by omega)
                have c3 := sq_cell hb hG hs (i := j) (j := k) (by omega) (by omega)
                have hr3 : (row (t.n (mN g i j)) (t.f (mN g i j))).length = t.n (mN g i j) := row_len ..
                have d2 : t.f i j * t.f (mN g i j) k % p = t.f j k * t.f i (mN g j k) % p := d1.2 k (by omega)
                (repeat' (conv => whnf)<;>first|exact True.intro|(refine if_ ?_ ?_<;>intro h<;>first|exact h.elim|(exfalso; omega)|skip)|refine vs_ ?_|refine dv_ ?_|exact fin_|(show ∃ _, _ ∧ _; refine ex_ ?_ (by first|with_reducible exact rfl|with_reducible exact hat.n|with_reducible exact hat.t (by omega) (by omega)|with_reducible exact tb_get c1.1|with_reducible exact tb_get c2.1|with_reducible exact tb_getM e1 e2|with_reducible exact row_getM e4 e5|exact rd_))|(show ∃ _ _, _ ∧ _; refine ex2_ ?_ (by first|with_reducible exact rfl|with_reducible exact hat.n|with_reducible exact hat.t (by omega) (by omega)|with_reducible exact tb_get c1.1|with_reducible exact tb_get c2.1|with_reducible exact tb_getM e1 e2|with_reducible exact row_getM e4 e5|exact rd_)))
                conv => whnf
                refine ⟨k + 1, by omega, by omega, ?_⟩
                (repeat' (conv => whnf)<;>first|exact True.intro|(refine if_ ?_ ?_<;>intro h<;>first|exact h.elim|(exfalso; omega)|skip)|refine vs_ ?_|refine dv_ ?_|exact fin_|(show ∃ _, _ ∧ _; refine ex_ ?_)|(show ∃ _ _, _ ∧ _; refine ex2_ ?_))
              · (repeat' (conv => whnf)<;>first|exact True.intro|(refine if_ ?_ ?_<;>intro h<;>first|exact h.elim|(exfalso; omega)|skip)|refine vs_ ?_|refine dv_ ?_|exact fin_|(show ∃ _, _ ∧ _; refine ex_ ?_ (by first|with_reducible exact rfl|with_reducible exact hat.n|exact rd_))|(show ∃ _ _, _ ∧ _; refine ex2_ ?_ (by first|with_reducible exact rfl|with_reducible exact hat.n|exact rd_)))
                conv => whnf
                refine ⟨j + 1, by omega, by omega, ?_⟩
                (repeat' (conv => whnf)<;>first|exact True.intro|(refine if_ ?_ ?_<;>intro h<;>first|exact h.elim|(exfalso; omega)|skip)|refine vs_ ?_|refine dv_ ?_|exact fin_|(show ∃ _, _ ∧ _; refine ex_ ?_)|(show ∃ _ _, _ ∧ _; refine ex2_ ?_))
          · (repeat' (conv => whnf)<;>first|exact True.intro|(refine if_ ?_ ?_<;>intro h<;>first|exact h.elim|(exfalso; omega)|skip)|refine vs_ ?_|refine dv_ ?_|exact fin_|(show ∃ _, _ ∧ _; refine ex_ ?_ (by first|with_reducible exact rfl|with_reducible exact hat.n|exact rd_))|(show ∃ _ _, _ ∧ _; refine ex2_ ?_ (by first|with_reducible exact rfl|with_reducible exact hat.n|exact rd_)))
            conv => whnf
            refine ⟨i + 1, by omega, by omega, ?_⟩
            (repeat' (conv => whnf)<;>first|exact True.intro|(refine if_ ?_ ?_<;>intro h<;>first|exact h.elim|(exfalso; omega)|skip)|refine vs_ ?_|refine dv_ ?_|exact fin_|(show ∃ _, _ ∧ _; refine ex_ ?_)|(show ∃ _ _, _ ∧ _; refine ex2_ ?_))
      · (repeat' (conv => whnf)<;>first|exact True.intro|(refine if_ ?_ ?_<;>intro h<;>first|exact h.elim|(exfalso; omega)|skip)|refine vs_ ?_|refine dv_ ?_|exact fin_|(show ∃ _, _ ∧ _; refine ex_ ?_ (by first|with_reducible exact rfl|with_reducible exact hat.n|with_reducible exact tb_get0 c00.1|with_reducible exact row_get0 c00.2.1|exact rd_))|(show ∃ _ _, _ ∧ _; refine ex2_ ?_ (by first|with_reducible exact rfl|with_reducible exact hat.n|with_reducible exact tb_get0 c00.1|with_reducible exact row_get0 c00.2.1|exact rd_)))
  · rw [dB_f c]
    refine can_of hf rfl rfl ?_
    (repeat' (conv => whnf)<;>first|exact True.intro|(refine if_ ?_ ?_<;>intro h<;>first|exact h.elim|(exfalso; omega)|skip)|refine vs_ ?_|refine dv_ ?_|exact fin_|(show ∃ _, _ ∧ _; refine ex_ ?_)|(show ∃ _ _, _ ∧ _; refine ex2_ ?_))
    conv => whnf
    refine vc_loop (α := Nat) 0 (fun i => n - i) (fun i => i ≤ n ∧ ∀ q, q < i → ∀ j, j < n → t.f q j ≠ 0 ∧ ∀ k, k < n → celP g p t q j k) [] (fun i => [(0, .d (.int .i64 p)), (2, .d (tbD t)), (4, .ptr 5 37 0 0), (7, .d (.int .i64 i))]) (fun i => [(5, .data 37 [grpL g])]) lp_ ?_ ?_
    · (repeat' (conv => whnf)<;>first|exact True.intro|(refine if_ ?_ ?_<;>intro h<;>first|exact h.elim|(exfalso; omega)|skip)|refine vs_ ?_|refine dv_ ?_|exact fin_|(show ∃ _, _ ∧ _; refine ex_ ?_)|(show ∃ _ _, _ ∧ _; refine ex2_ ?_))
    · rintro i ⟨hi, hx⟩
      by_cases hlt : i < n
      · (repeat' (conv => whnf)<;>first|exact True.intro|(refine if_ ?_ ?_<;>intro h<;>first|exact h.elim|(exfalso; omega)|skip)|refine vs_ ?_|refine dv_ ?_|exact fin_|(show ∃ _, _ ∧ _; refine ex_ ?_ (by first|with_reducible exact rfl|with_reducible exact hat.n|exact rd_))|(show ∃ _ _, _ ∧ _; refine ex2_ ?_ (by first|with_reducible exact rfl|with_reducible exact hat.n|exact rd_)))
        conv => whnf
        refine vc_loop (α := Nat) 0 (fun j => n - j) (fun j => j ≤ n ∧ ∀ q, q < j → t.f i q ≠ 0 ∧ ∀ k, k < n → celP g p t i q k) [] (fun j => [(0, .d (.int .i64 p)), (2, .d (tbD t)), (4, .ptr 5 37 0 0), (7, .d (.int .i64 i)), (8, .d (.int .i64 j))]) (fun j => [(5, .data 37 [grpL g])]) lp_ ?_ ?_
        · (repeat' (conv => whnf)<;>first|exact True.intro|(refine if_ ?_ ?_<;>intro h<;>first|exact h.elim|(exfalso; omega)|skip)|refine vs_ ?_|refine dv_ ?_|exact fin_|(show ∃ _, _ ∧ _; refine ex_ ?_)|(show ∃ _ _, _ ∧ _; refine ex2_ ?_))
        · rintro j ⟨hj, hy⟩
          by_cases hlt2 : j < n
          · have c1 := sq_cell hb hG hs (i := i) (j := j) (by omega) (by omega)
            have c2 := sq_cell hb hG hs (i := j) (j := 0) (by omega) (by omega)
            have hr1 : (row (t.n i) (t.f i)).length = t.n i := row_len ..
            have hr2 : (row (t.n j) (t.f j)).length = t.n j := row_len ..
            by_cases z : t.f i j = 0
            · (repeat' (conv => whnf)<;>first|exact True.intro|(refine if_ ?_ ?_<;>intro h<;>first|exact h.elim|(exfalso; omega)|skip)|refine vs_ ?_|refine dv_ ?_|exact fin_|(show ∃ _, _ ∧ _; refine ex_ ?_ (by first|with_reducible exact rfl|with_reducible exact hat.n|with_reducible exact tb_get c1.1|exact rd_))|(show ∃ _ _, _ ∧ _; refine ex2_ ?_ (by first|with_reducible exact rfl|with_reducible exact hat.n|with_reducible exact tb_get c1.1|exact rd_)))
            · (repeat' (conv => whnf)<;>first|exact True.intro|(refine if_ ?_ ?_<;>intro h<;>first|exact h.elim|(exfalso; omega)|skip)|refine vs_ ?_|refine dv_ ?_|exact fin_|(show ∃ _, _ ∧ _; refine ex_ ?_ (by first|with_reducible exact rfl|with_reducible exact hat.n|with_reducible exact tb_get c1.1|exact rd_))|(show ∃ _ _, _ ∧ _; refine ex2_ ?_ (by first|with_reducible exact rfl|with_reducible exact hat.n|with_reducible exact tb_get c1.1|exact rd_)))
              conv => whnf
              refine vc_loop (α := Nat) 0 (fun k => n - k) (fun k => k ≤ n ∧ ∀ q, q < k → celP g p t i j q) [] (fun k => [(0, .d (.int .i64 p)), (2, .d (tbD t)), (4, .ptr 5 37 0 0), (7, .d (.int .i64 i)), (8, .d (.int .i64 j)), (9, .d (.int .i64 k))]) (fun k => [(5, .data 37 [grpL g])]) lp_ ?_ ?_
              · (repeat' (conv => whnf)<;>first|exact True.intro|(refine if_ ?_ ?_<;>intro h<;>first|exact h.elim|(exfalso; omega)|skip)|refine vs_ ?_|refine dv_ ?_|exact fin_|(show ∃ _, _ ∧ _; refine ex_ ?_)|(show ∃ _ _, _ ∧ _; refine ex2_ ?_))
              · rintro k ⟨hk, hw⟩
                by_cases hlt3 : k < n
                · obtain ⟨⟨e1, e2, e3⟩, ⟨e4, e5⟩, e6, e7⟩ := cel_facts hb hG hp hs (i := i) (j := j) (k := k) (by omega) (by omega) (by omega)
                  have c3 := sq_cell hb hG hs (i := j) (j := k) (by omega) (by omega)
                  have hr3 : (row (t.n (mN g i j)) (t.f (mN g i j))).length = t.n (mN g i j) := row_len ..
                  by_cases d2 : t.f i j * t.f (mN g i j) k % p = t.f j k * t.f i (mN g j k) % p
                  · (repeat' (conv => whnf)<;>first|exact True.intro|(refine if_ ?_ ?_<;>intro h<;>first|exact h.elim|(exfalso; omega)|skip)|refine vs_ ?_|refine dv_ ?_|exact fin_|(show ∃ _, _ ∧ _; refine ex_ ?_ (by first|with_reducible exact rfl|with_reducible exact hat.n|with_reducible exact hat.t (by omega) (by omega)|with_reducible exact tb_get c1.1|with_reducible exact tb_get c2.1|with_reducible exact tb_getM e1 e2|with_reducible exact row_getM e4 e5|exact rd_))|(show ∃ _ _, _ ∧ _; refine ex2_ ?_ (by first|with_reducible exact rfl|with_reducible exact hat.n|with_reducible exact hat.t (by omega) (by omega)|with_reducible exact tb_get c1.1|with_reducible exact tb_get c2.1|with_reducible exact tb_getM e1 e2|with_reducible exact row_getM e4 e5|exact rd_)))
                    conv => whnf
                    refine ⟨k + 1, ⟨by omega, fun q hq => ?_⟩, by omega, ?_⟩
                    · by_cases e : q = k
                      · subst e; exact d2
                      · exact hw q (by omega)
                    (repeat' (conv => whnf)<;>first|exact True.intro|(refine if_ ?_ ?_<;>intro h<;>first|exact h.elim|(exfalso; omega)|skip)|refine vs_ ?_|refine dv_ ?_|exact fin_|(show ∃ _, _ ∧ _; refine ex_ ?_)|(show ∃ _ _, _ ∧ _; refine ex2_ ?_))
                  · (repeat' (conv => whnf)<;>first|exact True.intro|(refine if_ ?_ ?_<;>intro h<;>first|exact h.elim|(exfalso; omega)|skip)|refine vs_ ?_|refine dv_ ?_|exact fin_|(show ∃ _, _ ∧ _; refine ex_ ?_ (by first|with_reducible exact rfl|with_reducible exact hat.n|with_reducible exact hat.t (by omega) (by omega)|with_reducible exact tb_get c1.1|with_reducible exact tb_get c2.1|with_reducible exact tb_getM e1 e2|with_reducible exact row_getM e4 e5|exact rd_))|(show ∃ _ _, _ ∧ _; refine ex2_ ?_ (by first|with_reducible exact rfl|with_reducible exact hat.n|with_reducible exact hat.t (by omega) (by omega)|with_reducible exact tb_get c1.1|with_reducible exact tb_get c2.1|with_reducible exact tb_getM e1 e2|with_reducible exact row_getM e4 e5|exact rd_)))
                · (repeat' (conv => whnf)<;>first|exact True.intro|(refine if_ ?_ ?_<;>intro h<;>first|exact h.elim|(exfalso; omega)|skip)|refine vs_ ?_|refine dv_ ?_|exact fin_|(show ∃ _, _ ∧ _; refine ex_ ?_ (by first|with_reducible exact rfl|with_reducible exact hat.n|exact rd_))|(show ∃ _ _, _ ∧ _; refine ex2_ ?_ (by first|with_reducible exact rfl|with_reducible exact hat.n|exact rd_)))
                  conv => whnf
                  refine ⟨j + 1, ⟨by omega, fun q hq => ?_⟩, by omega, ?_⟩
                  · by_cases e : q = j
                    · subst e; exact ⟨z, fun k' hk' => hw k' (by omega)⟩
                    · exact hy q (by omega)
                  (repeat' (conv => whnf)<;>first|exact True.intro|(refine if_ ?_ ?_<;>intro h<;>first|exact h.elim|(exfalso; omega)|skip)|refine vs_ ?_|refine dv_ ?_|exact fin_|(show ∃ _, _ ∧ _; refine ex_ ?_)|(show ∃ _ _, _ ∧ _; refine ex2_ ?_))
          · (repeat' (conv => whnf)<;>first|exact True.intro|(refine if_ ?_ ?_<;>intro h<;>first|exact h.elim|(exfalso; omega)|skip)|refine vs_ ?_|refine dv_ ?_|exact fin_|(show ∃ _, _ ∧ _; refine ex_ ?_ (by first|with_reducible exact rfl|with_reducible exact hat.n|exact rd_))|(show ∃ _ _, _ ∧ _; refine ex2_ ?_ (by first|with_reducible exact rfl|with_reducible exact hat.n|exact rd_)))
            conv => whnf
            refine ⟨i + 1, ⟨by omega, fun q hq => ?_⟩, by omega, ?_⟩
            · by_cases e : q = i
              · subst e; exact fun j' hj' => hy j' (by omega)
              · exact hx q (by omega)
            (repeat' (conv => whnf)<;>first|exact True.intro|(refine if_ ?_ ?_<;>intro h<;>first|exact h.elim|(exfalso; omega)|skip)|refine vs_ ?_|refine dv_ ?_|exact fin_|(show ∃ _, _ ∧ _; refine ex_ ?_)|(show ∃ _ _, _ ∧ _; refine ex2_ ?_))
      · exfalso
        exact c fun i' hi' j' hj' => ⟨(hx i' (by omega) j' (by omega)).1, fun k' hk' => (hx i' (by omega) j' (by omega)).2 k' (by omega)⟩
end Go.X
namespace Go.X
open Go Go.RowKit
set_option maxRecDepth 100000
set_option maxHeartbeats 8000000
set_option linter.unusedVariables false
variable {P : Program} {N : FN}
def boL (f : Nat → Bool) : List D := arr 6 fun q => .bool (f q)
theorem boL_get {f : Nat → Bool} {j : Nat} (h : j < 6) : get2 [boL f] 0 (0 + ((j : Nat) : Int).toNat * 1) = some (.bool (f j)) := by
  show (boL f)[0 + ((j : Nat) : Int).toNat * 1]? = _
  rw [show 0 + ((j : Nat) : Int).toNat * 1 = j by omega]
  exact arr_get h
theorem boL_set {f : Nat → Bool} {j : Nat} (h : j < 6) : (boL f).set (0 + ((j : Nat) : Int).toNat * 1) (.bool true) = boL fun q => f q || j == q := by
  rw [show 0 + ((j : Nat) : Int).toNat * 1 = j by omega]
  refine arr_of (by rw [List.length_set]; exact arr_len ..) fun q hq => ?_
  rw [List.getElem?_set]
  by_cases e : j = q
  · subst e
    rw [if_pos rfl, if_pos (by rw [show (boL f).length = 6 from arr_len ..]; exact h)]
    simp
  · rw [if_neg e, show (boL f)[q]? = some (.bool (f q)) from arr_get hq]
    simp [e]
theorem boL_0 {f : Nat → Bool} (h : ∀ q, f q = false) : boL f = [.bool false, .bool false, .bool false, .bool false, .bool false, .bool false] := by
  rw [show f = fun _ => false from funext h]; rfl
def owB (g : Grp) (i m j : Nat) : Bool := (List.range m).any fun x => cj g x i == j
theorem owB_s {g : Grp} {i m : Nat} : (fun j => owB g i (m + 1) j) = fun j => owB g i m j || cj g m i == j := funext fun j => by
  unfold owB
  rw [List.range_succ, List.any_append]; simp
theorem owB_all {g : Grp} {i : Nat} : (fun j => owB g i g.n.toNat j) = clsB g i := rfl
def clP (g : Grp) (i m : Nat) : List Nat := (List.range m).filter (clsB g i)
theorem clP_s {g : Grp} {i m : Nat} : clP g i (m + 1) = if clsB g i m = true then clP g i m ++ [m] else clP g i m := by
  unfold clP
  rw [List.range_succ, List.filter_append]
  by_cases h : clsB g i m = true
  · rw [if_pos h, show [m].filter (clsB g i) = [m] from by rw [List.filter_cons, if_pos h]; rfl]
  · rw [if_neg h, show [m].filter (clsB g i) = [] from by rw [List.filter_cons, if_neg h]; rfl, List.append_nil]
theorem clP_len {g : Grp} {i m : Nat} : (clP g i m).length ≤ m := by
  have := List.length_filter_le (clsB g i) (List.range m)
  rw [List.length_range] at this; exact this
theorem iN_app {L : List Nat} {m : Nat} : iN L ++ [[.int .i64 ((m : Nat) : Int)]] = iN (L ++ [m]) := by unfold iN; rw [List.map_append]; rfl
def meB (g : Grp) (i m j : Nat) : Bool := metB g i j || (decide (j < m) && clsB g i j)
theorem meB_s {g : Grp} {i m : Nat} : (fun j => meB g i (m + 1) j) = if clsB g i m = true then (fun j => meB g i m j || m == j) else fun j => meB g i m j := by
  by_cases h : clsB g i m = true
  · rw [if_pos h]
    refine funext fun j => ?_
    unfold meB
    by_cases e : m = j
    · subst e
      simp [h]
    · rw [show decide (j < m + 1) = decide (j < m) from by rw [decide_eq_decide]; omega]
      simp [e]
  · rw [if_neg h]
    refine funext fun j => ?_
    unfold meB
    by_cases e : m = j
    · subst e
      simp [h]
    · rw [show decide (j < m + 1) = decide (j < m) from by rw [decide_eq_decide]; omega]
theorem meB_0 {g : Grp} {i : Nat} : (fun j => meB g i 0 j) = metB g i := funext fun j => by unfold meB; simp
theorem meB_n {g : Grp} (hb : GrpB g) (hg : GP g) {i : Nat} (hi : i < g.n.toNat) : (fun j => meB g i g.n.toNat j) = metB g (i + 1) := funext fun j => by
  rw [met_s]
  unfold meB
  cases c : clsB g i j with
  | true => rw [decide_eq_true (cls_lt hb hg hi c)]; simp
  | false => simp
theorem mul3 {g : Grp} (hb : GrpB g) (hg : GP g) {x i : Nat} (hx : x < g.n.toNat) : mulL g [x, i, invN g x] = cj g x i := by
  show mN g (mN g (mN g 0 x) i) (invN g x) = _
  rw [(GP.one hb hg hx).1]; rfl
theorem c_sClasses (hI : C_sInvG P N) (hT : C_sTimesG P N) (hf : isFn P N.spec_l06Classes (ir_spec_l06Classes N) = true) : C_sClasses P N := by
  intro g hb hg
  have hat := grpAt_one g
  have hal := hat.all
  have hn := hg.1
  have e0 : clD g = clU g g.n.toNat := rfl
  rw [e0]
  refine can_of hf rfl rfl ?_
  (repeat' (conv => whnf)<;>first|exact True.intro|(refine if_ ?_ ?_<;>intro h<;>first|exact h.elim|(exfalso; omega)|skip)|refine vs_ ?_|refine dv_ ?_|exact fin_|(show ∃ _, _ ∧ _; refine ex_ ?_)|(show ∃ _ _, _ ∧ _; refine ex2_ ?_))
  conv => whnf
  refine vc_loop (α := Nat) 0 (fun i => g.n.toNat - i) (fun i => i ≤ g.n.toNat) [] (fun i => [(4, .row 5 1), (5, .d (.int .i64 i))]) (fun i => [(4, .data 6 [boL (metB g i)]), (5, .data 1 (clU g i))]) lp_ ?_ ?_
  · (repeat' (conv => whnf)<;>first|exact True.intro|(refine if_ ?_ ?_<;>intro h<;>first|exact h.elim|(exfalso; omega)|skip)|refine vs_ ?_ (by first|exact congrArg (fun x => Chunk.data 6 [x]) (boL_0 fun q => rfl).symm|exact sd_)|refine dv_ ?_|exact fin_|(show ∃ _, _ ∧ _; refine ex_ ?_)|(show ∃ _ _, _ ∧ _; refine ex2_ ?_))
  · intro i hi
    have hlen := clU_len (g := g) i
    by_cases hlt : i < g.n.toNat
    · have hi6 : i < 6 := by omega
      have hr := met_rep (g := g) (i := i)
      cases c : metB g i i with
      | true =>
        have hsk := met_skip hb hg hlt c
        rw [c] at hr
        have hgt := boL_get (f := metB g i) hi6
        rw [c] at hgt
        (repeat' (conv => whnf)<;>first|exact True.intro|(refine if_ ?_ ?_<;>intro h<;>first|exact h.elim|(exfalso; omega)|skip)|refine vs_ ?_|refine dv_ ?_|exact fin_|(show ∃ _, _ ∧ _; refine ex_ ?_ (by first|with_reducible exact rfl|with_reducible exact hat.n|with_reducible exact hgt|exact rd_))|(show ∃ _ _, _ ∧ _; refine ex2_ ?_ (by first|with_reducible exact rfl|with_reducible exact hat.n|with_reducible exact hgt|exact rd_)))
        conv => whnf
        refine ⟨i + 1, by omega, by omega, ?_⟩
        rw [clU_s, if_neg (by rw [hr]; simp), show metB g (i + 1) = metB g i from funext hsk]
        (repeat' (conv => whnf)<;>first|exact True.intro|(refine if_ ?_ ?_<;>intro h<;>first|exact h.elim|(exfalso; omega)|skip)|refine vs_ ?_|refine dv_ ?_|exact fin_|(show ∃ _, _ ∧ _; refine ex_ ?_)|(show ∃ _ _, _ ∧ _; refine ex2_ ?_))
      | false =>
        rw [c] at hr
        have hgt := boL_get (f := metB g i) hi6
        rw [c] at hgt
        (repeat' (conv => whnf)<;>first|exact True.intro|(refine if_ ?_ ?_<;>intro h<;>first|exact h.elim|(exfalso; omega)|skip)|refine vs_ ?_|refine dv_ ?_|exact fin_|(show ∃ _, _ ∧ _; refine ex_ ?_ (by first|with_reducible exact rfl|with_reducible exact hat.n|with_reducible exact hgt|exact rd_))|(show ∃ _ _, _ ∧ _; refine ex2_ ?_ (by first|with_reducible exact rfl|with_reducible exact hat.n|with_reducible exact hgt|exact rd_)))
        conv => whnf
        refine vc_loop (α := Nat) 0 (fun x => g.n.toNat - x) (fun x => x ≤ g.n.toNat) [] (fun x => [(7, .d (.int .i64 x))]) (fun x => [(7, .data 6 [boL fun j => owB g i x j])]) lp_ ?_ ?_
        · (repeat' (conv => whnf)<;>first|exact True.intro|(refine if_ ?_ ?_<;>intro h<;>first|exact h.elim|(exfalso; omega)|skip)|refine vs_ ?_ (by first|exact congrArg (fun x => Chunk.data 6 [x]) (boL_0 fun q => rfl).symm|exact sd_)|refine dv_ ?_|exact fin_|(show ∃ _, _ ∧ _; refine ex_ ?_)|(show ∃ _ _, _ ∧ _; refine ex2_ ?_))
        · intro x hx
          by_cases hlt2 : x < g.n.toNat
          · obtain ⟨v1, _⟩ := GP.inv hb hg hlt2
            have hI' := hI hb hg hlt2
            have hT' := hT (L := [x, i, invN g x]) hb hg (by simp) (by simp only [List.mem_cons, List.not_mem_nil, or_false]; rintro y (rfl | rfl | rfl) <;> omega)
            rw [mul3 hb hg hlt2] at hT'
            have hcl := GP.cj_lt hb hg hlt2 hlt
            (repeat' (conv => whnf)<;>first|exact True.intro|(refine if_ ?_ ?_<;>intro h<;>first|exact h.elim|(exfalso; omega)|skip)|refine vs_ ?_|refine dv_ ?_|exact fin_|(show ∃ _, _ ∧ _; refine ex_ ?_ (by first|with_reducible exact rfl|with_reducible exact hat.n|with_reducible exact hal|exact hI'|exact hT'|exact rd_))|(show ∃ _ _, _ ∧ _; refine ex2_ ?_ (by first|with_reducible exact rfl|with_reducible exact hat.n|with_reducible exact hal|exact hI'|exact hT'|exact rd_)))
            conv => whnf
            refine ⟨x + 1, by omega, by omega, ?_⟩
            rw [owB_s, ← boL_set (by omega)]
            (repeat' (conv => whnf)<;>first|exact True.intro|(refine if_ ?_ ?_<;>intro h<;>first|exact h.elim|(exfalso; omega)|skip)|refine vs_ ?_|refine dv_ ?_|exact fin_|(show ∃ _, _ ∧ _; refine ex_ ?_)|(show ∃ _ _, _ ∧ _; refine ex2_ ?_))
          · have : x = g.n.toNat := by omega
            subst this
            rw [owB_all]
            (repeat' (conv => whnf)<;>first|exact True.intro|(refine if_ ?_ ?_<;>intro h<;>first|exact h.elim|(exfalso; omega)|skip)|refine vs_ ?_|refine dv_ ?_|exact fin_|(show ∃ _, _ ∧ _; refine ex_ ?_ (by first|with_reducible exact rfl|with_reducible exact hat.n|exact rd_))|(show ∃ _ _, _ ∧ _; refine ex2_ ?_ (by first|with_reducible exact rfl|with_reducible exact hat.n|exact rd_)))
            conv => whnf
            refine vc_loop (α := Nat) 0 (fun j => g.n.toNat - j) (fun j => j ≤ g.n.toNat) [] (fun j => [(8, .row 9 1), (9, .d (.int .i64 j))]) (fun j => [(4, .data 6 [boL fun q => meB g i j q]), (9, .data 1 (iN (clP g i j)))]) lp_ ?_ ?_
            · rw [meB_0]
              (repeat' (conv => whnf)<;>first|exact True.intro|(refine if_ ?_ ?_<;>intro h<;>first|exact h.elim|(exfalso; omega)|skip)|refine vs_ ?_|refine dv_ ?_|exact fin_|(show ∃ _, _ ∧ _; refine ex_ ?_)|(show ∃ _ _, _ ∧ _; refine ex2_ ?_))
            · intro j hj
              have hl2 := clP_len (g := g) (i := i) (m := j)
              have hl3 := iN_len (clP g i j)
              by_cases hlt3 : j < g.n.toNat
              · have hj6 : j < 6 := by omega
                have hgo := boL_get (f := clsB g i) hj6
                cases d : clsB g i j with
                | true =>
                  rw [d] at hgo
                  (repeat' (conv => whnf)<;>first|exact True.intro|(refine if_ ?_ ?_<;>intro h<;>first|exact h.elim|(exfalso; omega)|skip)|refine vs_ ?_ (by first|exact ⟨by (simp only [List.length_cons, List.length_nil, maxRow]; omega), by decide, by decide⟩|exact sd_)|refine dv_ ?_|exact fin_|(show ∃ _, _ ∧ _; refine ex_ ?_ (by first|with_reducible exact rfl|with_reducible exact hat.n|with_reducible exact hgo|exact rd_))|(show ∃ _ _, _ ∧ _; refine ex2_ ?_ (by first|with_reducible exact rfl|with_reducible exact hat.n|with_reducible exact hgo|exact rd_)))
                  conv => whnf
                  refine ⟨j + 1, by omega, by omega, ?_⟩
                  rw [meB_s, if_pos d, clP_s, if_pos d, ← boL_set hj6, ← iN_app]
                  (repeat' (conv => whnf)<;>first|exact True.intro|(refine if_ ?_ ?_<;>intro h<;>first|exact h.elim|(exfalso; omega)|skip)|refine vs_ ?_|refine dv_ ?_|exact fin_|(show ∃ _, _ ∧ _; refine ex_ ?_)|(show ∃ _ _, _ ∧ _; refine ex2_ ?_))
                | false =>
                  rw [d] at hgo
                  (repeat' (conv => whnf)<;>first|exact True.intro|(refine if_ ?_ ?_<;>intro h<;>first|exact h.elim|(exfalso; omega)|skip)|refine vs_ ?_|refine dv_ ?_|exact fin_|(show ∃ _, _ ∧ _; refine ex_ ?_ (by first|with_reducible exact rfl|with_reducible exact hat.n|with_reducible exact hgo|exact rd_))|(show ∃ _ _, _ ∧ _; refine ex2_ ?_ (by first|with_reducible exact rfl|with_reducible exact hat.n|with_reducible exact hgo|exact rd_)))
                  conv => whnf
                  refine ⟨j + 1, by omega, by omega, ?_⟩
                  rw [meB_s, if_neg (by rw [d]; simp), clP_s, if_neg (by rw [d]; simp)]
                  (repeat' (conv => whnf)<;>first|exact True.intro|(refine if_ ?_ ?_<;>intro h<;>first|exact h.elim|(exfalso; omega)|skip)|refine vs_ ?_|refine dv_ ?_|exact fin_|(show ∃ _, _ ∧ _; refine ex_ ?_)|(show ∃ _ _, _ ∧ _; refine ex2_ ?_))
              · have : j = g.n.toNat := by omega
                subst this
                rw [meB_n hb hg hlt]
                (repeat' (conv => whnf)<;>first|exact True.intro|(refine if_ ?_ ?_<;>intro h<;>first|exact h.elim|(exfalso; omega)|skip)|refine vs_ ?_ (by first|exact ⟨by (simp only [List.length_cons, List.length_nil, maxRow]; omega), by decide, by decide⟩|exact sd_)|refine dv_ ?_|exact fin_|(show ∃ _, _ ∧ _; refine ex_ ?_ (by first|with_reducible exact rfl|with_reducible exact hat.n|exact rd_))|(show ∃ _ _, _ ∧ _; refine ex2_ ?_ (by first|with_reducible exact rfl|with_reducible exact hat.n|exact rd_)))
                conv => whnf
                refine ⟨i + 1, by omega, by omega, ?_⟩
                rw [clU_s, if_pos (by rw [hr]; rfl)]
                (repeat' (conv => whnf)<;>first|exact True.intro|(refine if_ ?_ ?_<;>intro h<;>first|exact h.elim|(exfalso; omega)|skip)|refine vs_ ?_|refine dv_ ?_|exact fin_|(show ∃ _, _ ∧ _; refine ex_ ?_)|(show ∃ _ _, _ ∧ _; refine ex2_ ?_))
    · have : i = g.n.toNat := by omega
      subst this
      (repeat' (conv => whnf)<;>first|exact True.intro|(refine if_ ?_ ?_<;>intro h<;>first|exact h.elim|(exfalso; omega)|skip)|refine vs_ ?_|refine dv_ ?_|exact fin_|(show ∃ _, _ ∧ _; refine ex_ ?_ (by first|with_reducible exact rfl|with_reducible exact hat.n|exact rd_))|(show ∃ _ _, _ ∧ _; refine ex2_ ?_ (by first|with_reducible exact rfl|with_reducible exact hat.n|exact rd_)))
end Go.X
namespace Go.X
open Go Go.RowKit
set_option maxRecDepth 100000
set_option maxHeartbeats 8000000
set_option linter.unusedVariables false
variable {P : Program} {N : FN}
end Go.X
