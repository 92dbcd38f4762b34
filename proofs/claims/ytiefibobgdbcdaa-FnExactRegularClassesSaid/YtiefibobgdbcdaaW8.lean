import Derived.Test.YtiefibobgdbcdaaW7
import Derived.Test.YtiefibobgdbcdaaK14
set_option linter.all false
namespace Go.X
open Go Go.RowKit
set_option maxRecDepth 100000
set_option maxHeartbeats 8000000
set_option linter.unusedVariables false
variable {P : Program} {N : FN}
def flB (g : Grp) (i j : Nat) : Bool := (List.range j).any fun q => decide (g.t i q = 0 ∧ g.t q i = 0)
theorem flB_s {g : Grp} {i j : Nat} : flB g i (j + 1) = (flB g i j || decide (g.t i j = 0 ∧ g.t j i = 0)) := by
  unfold flB
  rw [List.range_succ, List.any_append]; simp
theorem flB_iff {g : Grp} {i : Nat} : flB g i g.n.toNat = true ↔ ∃ j : Nat, (j : Int) < g.n ∧ g.t i j = 0 ∧ g.t j i = 0 := by
  unfold flB
  rw [List.any_eq_true]
  exact ⟨fun ⟨x, hx, e⟩ => ⟨x, by have := List.mem_range.1 hx; omega, (of_decide_eq_true e).1, (of_decide_eq_true e).2⟩, fun ⟨x, hx, e1, e2⟩ => ⟨x, List.mem_range.2 (by omega), decide_eq_true ⟨e1, e2⟩⟩⟩
theorem gt_at1 {l : List (List D)} {e off : Nat} {g : Grp} (h : GrpAt l e off g) {i j k : Nat} (hij : mN g i j < 6) (hk : k < 6) : get2 l e (off + 1 + (g.t i j).toNat * 6 + ((k : Nat) : Int).toNat * 1) = some (.int .u8 (g.t (mN g i j) k)) := by
  have := h.t hij hk
  rwa [Int.toNat_natCast] at this
theorem gt_at2 {l : List (List D)} {e off : Nat} {g : Grp} (h : GrpAt l e off g) {i j k : Nat} (hi : i < 6) (hjk : mN g j k < 6) : get2 l e (off + 1 + ((i : Nat) : Int).toNat * 6 + (g.t j k).toNat * 1) = some (.int .u8 (g.t i (mN g j k))) := by
  have := h.t hi hjk
  rwa [Int.toNat_natCast (mN g j k)] at this
theorem gt_at3 {l : List (List D)} {e off : Nat} {g : Grp} (h : GrpAt l e off g) {i : Nat} (hi : i < 6) : get2 l e (off + 1 + (0 : Int).toNat * 6 + ((i : Nat) : Int).toNat * 1) = some (.int .u8 (g.t 0 i)) := h.t (i := 0) (by omega) hi
theorem gt_at4 {l : List (List D)} {e off : Nat} {g : Grp} (h : GrpAt l e off g) {i : Nat} (hi : i < 6) : get2 l e (off + 1 + ((i : Nat) : Int).toNat * 6 + (0 : Int).toNat * 1) = some (.int .u8 (g.t i 0)) := h.t (j := 0) hi (by omega)
theorem flag_t {x : Int} (h : x = 0) : AV.d (D.bool (Cm.eql.int x 0)) = AV.d (D.bool true) := by
  subst h; rfl
theorem flag_f {x : Int} (h : ¬ x = 0) : AV.d (D.bool (Cm.eql.int x 0)) = AV.d (D.bool false) := by
  show AV.d (D.bool (decide (x = 0))) = _
  rw [decide_eq_false h]
theorem c_sIsG (hIn : C_sIn P N) (hf : isFn P N.spec_l06Is (ir_spec_l06Is N) = true) : C_sIsG P N := by
  intro g hb
  have hat := grpAt_one g
  have hIn' := hIn (n := g.n) (lo := 1) (hi := 6)
  refine can_of hf rfl rfl ?_
  by_cases g1 : 1 ≤ g.n ∧ g.n ≤ 6
  · rw [decide_eq_true g1] at hIn'
    (repeat' (conv => whnf)<;>first|exact True.intro|(refine if_ ?_ ?_<;>intro h<;>first|exact h.elim|(exfalso; omega)|skip)|refine vs_ ?_|refine dv_ ?_|exact fin_|(show ∃ _, _ ∧ _; refine ex_ ?_ (by first|with_reducible exact rfl|exact hat.n|exact hIn'|exact rd_))|(show ∃ _ _, _ ∧ _; refine ex2_ ?_ (by first|with_reducible exact rfl|exact hat.n|exact hIn'|exact rd_)))
    conv => whnf
    refine vc_loop (α := Nat) 0 (fun i => 6 - i) (fun i => i ≤ 6 ∧ ∀ q, q < i → ∀ j, j < 6 → entQ g q j) [] (fun i => [(4, .d (.int .i64 i))]) (fun i => []) lp_ ?_ ?_
    · (repeat' (conv => whnf)<;>first|exact True.intro|(refine if_ ?_ ?_<;>intro h<;>first|exact h.elim|(exfalso; omega)|skip)|refine vs_ ?_|refine dv_ ?_|exact fin_|(show ∃ _, _ ∧ _; refine ex_ ?_)|(show ∃ _ _, _ ∧ _; refine ex2_ ?_))
    · rintro i ⟨hi, hall⟩
      by_cases hlt : i < 6
      · (repeat' (conv => whnf)<;>first|exact True.intro|(refine if_ ?_ ?_<;>intro h<;>first|exact h.elim|(exfalso; omega)|skip)|refine vs_ ?_|refine dv_ ?_|exact fin_|(show ∃ _, _ ∧ _; refine ex_ ?_)|(show ∃ _ _, _ ∧ _; refine ex2_ ?_))
        conv => whnf
        refine vc_loop (α := Nat) 0 (fun j => 6 - j) (fun j => j ≤ 6 ∧ ∀ q, q < j → entQ g i q) [] (fun j => [(5, .d (.int .i64 j))]) (fun j => []) lp_ ?_ ?_
        · (repeat' (conv => whnf)<;>first|exact True.intro|(refine if_ ?_ ?_<;>intro h<;>first|exact h.elim|(exfalso; omega)|skip)|refine vs_ ?_|refine dv_ ?_|exact fin_|(show ∃ _, _ ∧ _; refine ex_ ?_)|(show ∃ _ _, _ ∧ _; refine ex2_ ?_))
        · rintro j ⟨hj, hall2⟩
          have hbd := hb.b i j
          have bail : (¬ entQ g i j) → i < 6 → j < 6 → ¬ GP g := fun hn hi hj h => hn (h.2.1 i j hi hj)
          by_cases hlt2 : j < 6
          · by_cases c1 : (i : Int) < g.n
            · by_cases c2 : (j : Int) < g.n
              · by_cases c3 : g.t i j < g.n
                · (repeat' (conv => whnf)<;>first|exact True.intro|(refine if_ ?_ ?_<;>intro h<;>first|exact h.elim|(exfalso; omega)|skip)|refine vs_ ?_|refine dv_ ?_|exact fin_|(show ∃ _, _ ∧ _; refine ex_ ?_ (by first|with_reducible exact rfl|with_reducible exact hat.t hlt hlt2|exact rd_))|(show ∃ _ _, _ ∧ _; refine ex2_ ?_ (by first|with_reducible exact rfl|with_reducible exact hat.t hlt hlt2|exact rd_)))
                  all_goals (conv => whnf)
                  all_goals (refine ⟨j + 1, ⟨by omega, all_succ hall2 (by unfold entQ; rw [if_pos ⟨c1, c2⟩]; exact c3)⟩, by omega, ?_⟩)
                  all_goals (repeat' (conv => whnf)<;>first|exact True.intro|(refine if_ ?_ ?_<;>intro h<;>first|exact h.elim|(exfalso; omega)|skip)|refine vs_ ?_|refine dv_ ?_|exact fin_|(show ∃ _, _ ∧ _; refine ex_ ?_)|(show ∃ _ _, _ ∧ _; refine ex2_ ?_))
                · rw [dB_f (bail (fun h => c3 (by unfold entQ at h; rwa [if_pos ⟨c1, c2⟩] at h)) hlt hlt2)]
                  (repeat' (conv => whnf)<;>first|exact True.intro|(refine if_ ?_ ?_<;>intro h<;>first|exact h.elim|(exfalso; omega)|skip)|refine vs_ ?_|refine dv_ ?_|exact fin_|(show ∃ _, _ ∧ _; refine ex_ ?_ (by first|with_reducible exact rfl|with_reducible exact hat.t hlt hlt2|exact rd_))|(show ∃ _ _, _ ∧ _; refine ex2_ ?_ (by first|with_reducible exact rfl|with_reducible exact hat.t hlt hlt2|exact rd_)))
              · by_cases c3 : g.t i j = 0
                · (repeat' (conv => whnf)<;>first|exact True.intro|(refine if_ ?_ ?_<;>intro h<;>first|exact h.elim|(exfalso; omega)|skip)|refine vs_ ?_|refine dv_ ?_|exact fin_|(show ∃ _, _ ∧ _; refine ex_ ?_ (by first|with_reducible exact rfl|with_reducible exact hat.t hlt hlt2|exact rd_))|(show ∃ _ _, _ ∧ _; refine ex2_ ?_ (by first|with_reducible exact rfl|with_reducible exact hat.t hlt hlt2|exact rd_)))
                  all_goals (conv => whnf)
                  all_goals (refine ⟨j + 1, ⟨by omega, all_succ hall2 (by unfold entQ; rw [if_neg (fun h => c2 h.2)]; exact c3)⟩, by omega, ?_⟩)
                  all_goals (repeat' (conv => whnf)<;>first|exact True.intro|(refine if_ ?_ ?_<;>intro h<;>first|exact h.elim|(exfalso; omega)|skip)|refine vs_ ?_|refine dv_ ?_|exact fin_|(show ∃ _, _ ∧ _; refine ex_ ?_)|(show ∃ _ _, _ ∧ _; refine ex2_ ?_))
                · rw [dB_f (bail (fun h => c3 (by unfold entQ at h; rwa [if_neg (fun h => c2 h.2)] at h)) hlt hlt2)]
                  (repeat' (conv => whnf)<;>first|exact True.intro|(refine if_ ?_ ?_<;>intro h<;>first|exact h.elim|(exfalso; omega)|skip)|refine vs_ ?_|refine dv_ ?_|exact fin_|(show ∃ _, _ ∧ _; refine ex_ ?_ (by first|with_reducible exact rfl|with_reducible exact hat.t hlt hlt2|exact rd_))|(show ∃ _ _, _ ∧ _; refine ex2_ ?_ (by first|with_reducible exact rfl|with_reducible exact hat.t hlt hlt2|exact rd_)))
            · by_cases c3 : g.t i j = 0
              · (repeat' (conv => whnf)<;>first|exact True.intro|(refine if_ ?_ ?_<;>intro h<;>first|exact h.elim|(exfalso; omega)|skip)|refine vs_ ?_|refine dv_ ?_|exact fin_|(show ∃ _, _ ∧ _; refine ex_ ?_ (by first|with_reducible exact rfl|with_reducible exact hat.t hlt hlt2|exact rd_))|(show ∃ _ _, _ ∧ _; refine ex2_ ?_ (by first|with_reducible exact rfl|with_reducible exact hat.t hlt hlt2|exact rd_)))
                all_goals (conv => whnf)
                all_goals (refine ⟨j + 1, ⟨by omega, all_succ hall2 (by unfold entQ; rw [if_neg (fun h => c1 h.1)]; exact c3)⟩, by omega, ?_⟩)
                all_goals (repeat' (conv => whnf)<;>first|exact True.intro|(refine if_ ?_ ?_<;>intro h<;>first|exact h.elim|(exfalso; omega)|skip)|refine vs_ ?_|refine dv_ ?_|exact fin_|(show ∃ _, _ ∧ _; refine ex_ ?_)|(show ∃ _ _, _ ∧ _; refine ex2_ ?_))
              · rw [dB_f (bail (fun h => c3 (by unfold entQ at h; rwa [if_neg (fun h => c1 h.1)] at h)) hlt hlt2)]
                (repeat' (conv => whnf)<;>first|exact True.intro|(refine if_ ?_ ?_<;>intro h<;>first|exact h.elim|(exfalso; omega)|skip)|refine vs_ ?_|refine dv_ ?_|exact fin_|(show ∃ _, _ ∧ _; refine ex_ ?_ (by first|with_reducible exact rfl|with_reducible exact hat.t hlt hlt2|exact rd_))|(show ∃ _ _, _ ∧ _; refine ex2_ ?_ (by first|with_reducible exact rfl|with_reducible exact hat.t hlt hlt2|exact rd_)))
          · (repeat' (conv => whnf)<;>first|exact True.intro|(refine if_ ?_ ?_<;>intro h<;>first|exact h.elim|(exfalso; omega)|skip)|refine vs_ ?_|refine dv_ ?_|exact fin_|(show ∃ _, _ ∧ _; refine ex_ ?_)|(show ∃ _ _, _ ∧ _; refine ex2_ ?_))
            conv => whnf
            refine ⟨i + 1, ⟨by omega, all_succ hall fun q hq => hall2 q (by omega)⟩, by omega, ?_⟩
            (repeat' (conv => whnf)<;>first|exact True.intro|(refine if_ ?_ ?_<;>intro h<;>first|exact h.elim|(exfalso; omega)|skip)|refine vs_ ?_|refine dv_ ?_|exact fin_|(show ∃ _, _ ∧ _; refine ex_ ?_)|(show ∃ _ _, _ ∧ _; refine ex2_ ?_))
      · have g2 : entP g := fun i' j hi' hj => hall i' (by omega) j hj
        have hm : ∀ i j : Nat, g.t i j = (mN g i j : Nat) := fun i j => by have := hb.b i j; unfold mN; omega
        have hmn : ∀ i j : Nat, (i : Int) < g.n → (j : Int) < g.n → mN g i j < g.n.toNat := fun i j hi hj => by
          have := g2 i j (by omega) (by omega)
          rw [if_pos ⟨hi, hj⟩, hm] at this
          omega
        clear hall hi
        (repeat' (conv => whnf)<;>first|exact True.intro|(refine if_ ?_ ?_<;>intro h<;>first|exact h.elim|(exfalso; omega)|skip)|refine vs_ ?_|refine dv_ ?_|exact fin_|(show ∃ _, _ ∧ _; refine ex_ ?_)|(show ∃ _ _, _ ∧ _; refine ex2_ ?_))
        conv => whnf
        refine vc_loop (α := Nat) 0 (fun i => g.n.toNat - i) (fun i => i ≤ g.n.toNat ∧ ∀ q, q < i → gpQ g q) [] (fun i => [(6, .d (.int .i64 i))]) (fun i => []) lp_ ?_ ?_
        · (repeat' (conv => whnf)<;>first|exact True.intro|(refine if_ ?_ ?_<;>intro h<;>first|exact h.elim|(exfalso; omega)|skip)|refine vs_ ?_|refine dv_ ?_|exact fin_|(show ∃ _, _ ∧ _; refine ex_ ?_)|(show ∃ _ _, _ ∧ _; refine ex2_ ?_))
        · rintro i ⟨hi, hall⟩
          have bail : i < g.n.toNat → (¬ gpQ g i) → ¬ GP g := fun hi hn h => hn (h.2.2 i (by omega))
          by_cases hlt : i < g.n.toNat
          · have hi6 : i < 6 := by omega
            (repeat' (conv => whnf)<;>first|exact True.intro|(refine if_ ?_ ?_<;>intro h<;>first|exact h.elim|(exfalso; omega)|skip)|refine vs_ ?_|refine dv_ ?_|exact fin_|(show ∃ _, _ ∧ _; refine ex_ ?_)|(show ∃ _ _, _ ∧ _; refine ex2_ ?_))
            conv => whnf
            refine vc_loop (α := Nat) 0 (fun j => g.n.toNat - j) (fun j => j ≤ g.n.toNat ∧ ∀ q, q < j → ∀ k : Nat, (k : Int) < g.n → g.t (mN g i q) k = g.t i (mN g q k)) [] (fun j => [(7, .d (.bool (flB g i j))), (8, .d (.int .i64 j))]) (fun j => []) lp_ ?_ ?_
            · (repeat' (conv => whnf)<;>first|exact True.intro|(refine if_ ?_ ?_<;>intro h<;>first|exact h.elim|(exfalso; omega)|skip)|refine vs_ ?_|refine dv_ ?_|exact fin_|(show ∃ _, _ ∧ _; refine ex_ ?_)|(show ∃ _ _, _ ∧ _; refine ex2_ ?_))
            · rintro j ⟨hj, hall2⟩
              by_cases hlt2 : j < g.n.toNat
              · have hj6 : j < 6 := by omega
                have hfs := flB_s (g := g) (i := i) (j := j)
                cases hfl : flB g i j with
                | true =>
                  rw [hfl, Bool.true_or] at hfs
                  (repeat' (conv => whnf)<;>first|exact True.intro|(refine if_ ?_ ?_<;>intro h<;>first|exact h.elim|(exfalso; omega)|skip)|refine vs_ ?_|refine dv_ ?_|exact fin_|(show ∃ _, _ ∧ _; refine ex_ ?_)|(show ∃ _ _, _ ∧ _; refine ex2_ ?_))
                  conv => whnf
                  refine vc_loop (α := Nat) 0 (fun k => g.n.toNat - k) (fun k => k ≤ g.n.toNat ∧ ∀ q, q < k → g.t (mN g i j) q = g.t i (mN g j q)) [] (fun k => [(9, .d (.int .i64 k))]) (fun k => []) lp_ ?_ ?_
                  · (repeat' (conv => whnf)<;>first|exact True.intro|(refine if_ ?_ ?_<;>intro h<;>first|exact h.elim|(exfalso; omega)|skip)|refine vs_ ?_|refine dv_ ?_|exact fin_|(show ∃ _, _ ∧ _; refine ex_ ?_)|(show ∃ _ _, _ ∧ _; refine ex2_ ?_))
                  · rintro k ⟨hk, hall3⟩
                    by_cases hlt3 : k < g.n.toNat
                    · have hk6 : k < 6 := by omega
                      have m1 := hmn i j (by omega) (by omega)
                      have m2 := hmn j k (by omega) (by omega)
                      have b1 := hm i j
                      have b2 := hm j k
                      have r1 := gt_at1 hat (i := i) (j := j) (k := k) (by omega) hk6
                      have r2 := gt_at2 hat (i := i) (j := j) (k := k) hi6 (by omega)
                      by_cases c3 : g.t (mN g i j) k = g.t i (mN g j k)
                      · (repeat' (conv => whnf)<;>first|exact True.intro|(refine if_ ?_ ?_<;>intro h<;>first|exact h.elim|(exfalso; omega)|skip)|refine vs_ ?_|refine dv_ ?_|exact fin_|(show ∃ _, _ ∧ _; refine ex_ ?_ (by first|with_reducible exact rfl|with_reducible exact hat.t hi6 hj6|with_reducible exact hat.t hj6 hk6|with_reducible exact r1|with_reducible exact r2|exact rd_))|(show ∃ _ _, _ ∧ _; refine ex2_ ?_ (by first|with_reducible exact rfl|with_reducible exact hat.t hi6 hj6|with_reducible exact hat.t hj6 hk6|with_reducible exact r1|with_reducible exact r2|exact rd_)))
                        all_goals (conv => whnf)
                        all_goals (refine ⟨k + 1, ⟨by omega, all_succ hall3 c3⟩, by omega, ?_⟩)
                        all_goals (repeat' (conv => whnf)<;>first|exact True.intro|(refine if_ ?_ ?_<;>intro h<;>first|exact h.elim|(exfalso; omega)|skip)|refine vs_ ?_|refine dv_ ?_|exact fin_|(show ∃ _, _ ∧ _; refine ex_ ?_)|(show ∃ _ _, _ ∧ _; refine ex2_ ?_))
                      · rw [dB_f (bail hlt fun h => c3 (h.2.2 j k (by omega) (by omega)))]
                        (repeat' (conv => whnf)<;>first|exact True.intro|(refine if_ ?_ ?_<;>intro h<;>first|exact h.elim|(exfalso; omega)|skip)|refine vs_ ?_|refine dv_ ?_|exact fin_|(show ∃ _, _ ∧ _; refine ex_ ?_ (by first|with_reducible exact rfl|with_reducible exact hat.t hi6 hj6|with_reducible exact hat.t hj6 hk6|with_reducible exact r1|with_reducible exact r2|exact rd_))|(show ∃ _ _, _ ∧ _; refine ex2_ ?_ (by first|with_reducible exact rfl|with_reducible exact hat.t hi6 hj6|with_reducible exact hat.t hj6 hk6|with_reducible exact r1|with_reducible exact r2|exact rd_)))
                    · (repeat' (conv => whnf)<;>first|exact True.intro|(refine if_ ?_ ?_<;>intro h<;>first|exact h.elim|(exfalso; omega)|skip)|refine vs_ ?_|refine dv_ ?_|exact fin_|(show ∃ _, _ ∧ _; refine ex_ ?_)|(show ∃ _ _, _ ∧ _; refine ex2_ ?_))
                      conv => whnf
                      refine ⟨j + 1, ⟨by omega, all_succ hall2 fun q hq => hall3 q (by omega)⟩, by omega, ?_⟩
                      rw [hfs]
                      (repeat' (conv => whnf)<;>first|exact True.intro|(refine if_ ?_ ?_<;>intro h<;>first|exact h.elim|(exfalso; omega)|skip)|refine vs_ ?_|refine dv_ ?_|exact fin_|(show ∃ _, _ ∧ _; refine ex_ ?_)|(show ∃ _ _, _ ∧ _; refine ex2_ ?_))
                | false =>
                  rw [hfl, Bool.false_or] at hfs
                  by_cases c1 : g.t i j = 0
                  · by_cases c2 : g.t j i = 0
                    · rw [decide_eq_true ⟨c1, c2⟩] at hfs
                      (repeat' (conv => whnf)<;>first|exact True.intro|(refine if_ ?_ ?_<;>intro h<;>first|exact h.elim|(exfalso; omega)|skip)|refine vs_ ?_|refine dv_ ?_|exact fin_|(show ∃ _, _ ∧ _; refine ex_ ?_ (by first|with_reducible exact rfl|with_reducible exact hat.t hi6 hj6|with_reducible exact hat.t hj6 hi6|exact rd_))|(show ∃ _ _, _ ∧ _; refine ex2_ ?_ (by first|with_reducible exact rfl|with_reducible exact hat.t hi6 hj6|with_reducible exact hat.t hj6 hi6|exact rd_)))
                      conv => whnf
                      refine vc_loop (α := Nat) 0 (fun k => g.n.toNat - k) (fun k => k ≤ g.n.toNat ∧ ∀ q, q < k → g.t (mN g i j) q = g.t i (mN g j q)) [] (fun k => [(9, .d (.int .i64 k))]) (fun k => []) lp_ ?_ ?_
                      · (repeat' (conv => whnf)<;>first|exact True.intro|(refine if_ ?_ ?_<;>intro h<;>first|exact h.elim|(exfalso; omega)|skip)|refine vs_ ?_|refine dv_ ?_|exact fin_|(show ∃ _, _ ∧ _; refine ex_ ?_)|(show ∃ _ _, _ ∧ _; refine ex2_ ?_))
                      · rintro k ⟨hk, hall3⟩
                        by_cases hlt3 : k < g.n.toNat
                        · have hk6 : k < 6 := by omega
                          have m1 := hmn i j (by omega) (by omega)
                          have m2 := hmn j k (by omega) (by omega)
                          have b1 := hm i j
                          have b2 := hm j k
                          have r1 := gt_at1 hat (i := i) (j := j) (k := k) (by omega) hk6
                          have r2 := gt_at2 hat (i := i) (j := j) (k := k) hi6 (by omega)
                          by_cases c3 : g.t (mN g i j) k = g.t i (mN g j k)
                          · (repeat' (conv => whnf)<;>first|exact True.intro|(refine if_ ?_ ?_<;>intro h<;>first|exact h.elim|(exfalso; omega)|skip)|refine vs_ ?_|refine dv_ ?_|exact fin_|(show ∃ _, _ ∧ _; refine ex_ ?_ (by first|with_reducible exact rfl|with_reducible exact hat.t hi6 hj6|with_reducible exact hat.t hj6 hk6|with_reducible exact r1|with_reducible exact r2|exact rd_))|(show ∃ _ _, _ ∧ _; refine ex2_ ?_ (by first|with_reducible exact rfl|with_reducible exact hat.t hi6 hj6|with_reducible exact hat.t hj6 hk6|with_reducible exact r1|with_reducible exact r2|exact rd_)))
                            all_goals (conv => whnf)
                            all_goals (refine ⟨k + 1, ⟨by omega, all_succ hall3 c3⟩, by omega, ?_⟩)
                            all_goals (repeat' (conv => whnf)<;>first|exact True.intro|(refine if_ ?_ ?_<;>intro h<;>first|exact h.elim|(exfalso; omega)|skip)|refine vs_ ?_|refine dv_ ?_|exact fin_|(show ∃ _, _ ∧ _; refine ex_ ?_)|(show ∃ _ _, _ ∧ _; refine ex2_ ?_))
                          · rw [dB_f (bail hlt fun h => c3 (h.2.2 j k (by omega) (by omega)))]
                            (repeat' (conv => whnf)<;>first|exact True.intro|(refine if_ ?_ ?_<;>intro h<;>first|exact h.elim|(exfalso; omega)|skip)|refine vs_ ?_|refine dv_ ?_|exact fin_|(show ∃ _, _ ∧ _; refine ex_ ?_ (by first|with_reducible exact rfl|with_reducible exact hat.t hi6 hj6|with_reducible exact hat.t hj6 hk6|with_reducible exact r1|with_reducible exact r2|exact rd_))|(show ∃ _ _, _ ∧ _; refine ex2_ ?_ (by first|with_reducible exact rfl|with_reducible exact hat.t hi6 hj6|with_reducible exact hat.t hj6 hk6|with_reducible exact r1|with_reducible exact r2|exact rd_)))
                        · (repeat' (conv => whnf)<;>first|exact True.intro|(refine if_ ?_ ?_<;>intro h<;>first|exact h.elim|(exfalso; omega)|skip)|refine vs_ ?_|refine dv_ ?_|exact fin_|(show ∃ _, _ ∧ _; refine ex_ ?_)|(show ∃ _ _, _ ∧ _; refine ex2_ ?_))
                          conv => whnf
                          refine ⟨j + 1, ⟨by omega, all_succ hall2 fun q hq => hall3 q (by omega)⟩, by omega, ?_⟩
                          rw [hfs]
                          (repeat' (conv => whnf)<;>first|exact True.intro|(refine if_ ?_ ?_<;>intro h<;>first|exact h.elim|(exfalso; omega)|skip)|refine vs_ ?_ (by first|exact flag_t c2|exact sd_)|refine dv_ ?_|exact fin_|(show ∃ _, _ ∧ _; refine ex_ ?_)|(show ∃ _ _, _ ∧ _; refine ex2_ ?_))
                    · rw [decide_eq_false (fun h => c2 h.2)] at hfs
                      (repeat' (conv => whnf)<;>first|exact True.intro|(refine if_ ?_ ?_<;>intro h<;>first|exact h.elim|(exfalso; omega)|skip)|refine vs_ ?_|refine dv_ ?_|exact fin_|(show ∃ _, _ ∧ _; refine ex_ ?_ (by first|with_reducible exact rfl|with_reducible exact hat.t hi6 hj6|with_reducible exact hat.t hj6 hi6|exact rd_))|(show ∃ _ _, _ ∧ _; refine ex2_ ?_ (by first|with_reducible exact rfl|with_reducible exact hat.t hi6 hj6|with_reducible exact hat.t hj6 hi6|exact rd_)))
                      conv => whnf
                      refine vc_loop (α := Nat) 0 (fun k => g.n.toNat - k) (fun k => k ≤ g.n.toNat ∧ ∀ q, q < k → g.t (mN g i j) q = g.t i (mN g j q)) [] (fun k => [(9, .d (.int .i64 k))]) (fun k => []) lp_ ?_ ?_
                      · (repeat' (conv => whnf)<;>first|exact True.intro|(refine if_ ?_ ?_<;>intro h<;>first|exact h.elim|(exfalso; omega)|skip)|refine vs_ ?_|refine dv_ ?_|exact fin_|(show ∃ _, _ ∧ _; refine ex_ ?_)|(show ∃ _ _, _ ∧ _; refine ex2_ ?_))
                      · rintro k ⟨hk, hall3⟩
                        by_cases hlt3 : k < g.n.toNat
                        · have hk6 : k < 6 := by omega
                          have m1 := hmn i j (by omega) (by omega)
                          have m2 := hmn j k (by omega) (by omega)
                          have b1 := hm i j
                          have b2 := hm j k
                          have r1 := gt_at1 hat (i := i) (j := j) (k := k) (by omega) hk6
                          have r2 := gt_at2 hat (i := i) (j := j) (k := k) hi6 (by omega)
                          by_cases c3 : g.t (mN g i j) k = g.t i (mN g j k)
                          · (repeat' (conv => whnf)<;>first|exact True.intro|(refine if_ ?_ ?_<;>intro h<;>first|exact h.elim|(exfalso; omega)|skip)|refine vs_ ?_|refine dv_ ?_|exact fin_|(show ∃ _, _ ∧ _; refine ex_ ?_ (by first|with_reducible exact rfl|with_reducible exact hat.t hi6 hj6|with_reducible exact hat.t hj6 hk6|with_reducible exact r1|with_reducible exact r2|exact rd_))|(show ∃ _ _, _ ∧ _; refine ex2_ ?_ (by first|with_reducible exact rfl|with_reducible exact hat.t hi6 hj6|with_reducible exact hat.t hj6 hk6|with_reducible exact r1|with_reducible exact r2|exact rd_)))
                            all_goals (conv => whnf)
                            all_goals (refine ⟨k + 1, ⟨by omega, all_succ hall3 c3⟩, by omega, ?_⟩)
                            all_goals (repeat' (conv => whnf)<;>first|exact True.intro|(refine if_ ?_ ?_<;>intro h<;>first|exact h.elim|(exfalso; omega)|skip)|refine vs_ ?_|refine dv_ ?_|exact fin_|(show ∃ _, _ ∧ _; refine ex_ ?_)|(show ∃ _ _, _ ∧ _; refine ex2_ ?_))
                          · rw [dB_f (bail hlt fun h => c3 (h.2.2 j k (by omega) (by omega)))]
                            (repeat' (conv => whnf)<;>first|exact True.intro|(refine if_ ?_ ?_<;>intro h<;>first|exact h.elim|(exfalso; omega)|skip)|refine vs_ ?_|refine dv_ ?_|exact fin_|(show ∃ _, _ ∧ _; refine ex_ ?_ (by first|with_reducible exact rfl|with_reducible exact hat.t hi6 hj6|with_reducible exact hat.t hj6 hk6|with_reducible exact r1|with_reducible exact r2|exact rd_))|(show ∃ _ _, _ ∧ _; refine ex2_ ?_ (by first|with_reducible exact rfl|with_reducible exact hat.t hi6 hj6|with_reducible exact hat.t hj6 hk6|with_reducible exact r1|with_reducible exact r2|exact rd_)))
                        · (repeat' (conv => whnf)<;>first|exact True.intro|(refine if_ ?_ ?_<;>intro h<;>first|exact h.elim|(exfalso; omega)|skip)|refine vs_ ?_|refine dv_ ?_|exact fin_|(show ∃ _, _ ∧ _; refine ex_ ?_)|(show ∃ _ _, _ ∧ _; refine ex2_ ?_))
                          conv => whnf
                          refine ⟨j + 1, ⟨by omega, all_succ hall2 fun q hq => hall3 q (by omega)⟩, by omega, ?_⟩
                          rw [hfs]
                          (repeat' (conv => whnf)<;>first|exact True.intro|(refine if_ ?_ ?_<;>intro h<;>first|exact h.elim|(exfalso; omega)|skip)|refine vs_ ?_ (by first|exact flag_f c2|exact sd_)|refine dv_ ?_|exact fin_|(show ∃ _, _ ∧ _; refine ex_ ?_)|(show ∃ _ _, _ ∧ _; refine ex2_ ?_))
                  · rw [decide_eq_false (fun h => c1 h.1)] at hfs
                    (repeat' (conv => whnf)<;>first|exact True.intro|(refine if_ ?_ ?_<;>intro h<;>first|exact h.elim|(exfalso; omega)|skip)|refine vs_ ?_|refine dv_ ?_|exact fin_|(show ∃ _, _ ∧ _; refine ex_ ?_ (by first|with_reducible exact rfl|with_reducible exact hat.t hi6 hj6|with_reducible exact hat.t hj6 hi6|exact rd_))|(show ∃ _ _, _ ∧ _; refine ex2_ ?_ (by first|with_reducible exact rfl|with_reducible exact hat.t hi6 hj6|with_reducible exact hat.t hj6 hi6|exact rd_)))
                    conv => whnf
                    refine vc_loop (α := Nat) 0 (fun k => g.n.toNat - k) (fun k => k ≤ g.n.toNat ∧ ∀ q, q < k → g.t (mN g i j) q = g.t i (mN g j q)) [] (fun k => [(9, .d (.int .i64 k))]) (fun k => []) lp_ ?_ ?_
                    · (repeat' (conv => whnf)<;>first|exact True.intro|(refine if_ ?_ ?_<;>intro h<;>first|exact h.elim|(exfalso; omega)|skip)|refine vs_ ?_|refine dv_ ?_|exact fin_|(show ∃ _, _ ∧ _; refine ex_ ?_)|(show ∃ _ _, _ ∧ _; refine ex2_ ?_))
                    · rintro k ⟨hk, hall3⟩
                      by_cases hlt3 : k < g.n.toNat
                      · have hk6 : k < 6 := by omega
                        have m1 := hmn i j (by omega) (by omega)
                        have m2 := hmn j k (by omega) (by omega)
                        have b1 := hm i j
                        have b2 := hm j k
                        have r1 := gt_at1 hat (i := i) (j := j) (k := k) (by omega) hk6
                        have r2 := gt_at2 hat (i := i) (j := j) (k := k) hi6 (by omega)
                        by_cases c3 : g.t (mN g i j) k = g.t i (mN g j k)
                        · (repeat' (conv => whnf)<;>first|exact True.intro|(refine if_ ?_ ?_<;>intro h<;>first|exact h.elim|(exfalso; omega)|skip)|refine vs_ ?_|refine dv_ ?_|exact fin_|(show ∃ _, _ ∧ _; refine ex_ ?_ (by first|with_reducible exact rfl|with_reducible exact hat.t hi6 hj6|with_reducible exact hat.t hj6 hk6|with_reducible exact r1|with_reducible exact r2|exact rd_))|(show ∃ _ _, _ ∧ _; refine ex2_ ?_ (by first|with_reducible exact rfl|with_reducible exact hat.t hi6 hj6|with_reducible exact hat.t hj6 hk6|with_reducible exact r1|with_reducible exact r2|exact rd_)))
                          all_goals (conv => whnf)
                          all_goals (refine ⟨k + 1, ⟨by omega, all_succ hall3 c3⟩, by omega, ?_⟩)
                          all_goals (repeat' (conv => whnf)<;>first|exact True.intro|(refine if_ ?_ ?_<;>intro h<;>first|exact h.elim|(exfalso; omega)|skip)|refine vs_ ?_|refine dv_ ?_|exact fin_|(show ∃ _, _ ∧ _; refine ex_ ?_)|(show ∃ _ _, _ ∧ _; refine ex2_ ?_))
                        · rw [dB_f (bail hlt fun h => c3 (h.2.2 j k (by omega) (by omega)))]
                          (repeat' (conv => whnf)<;>first|exact True.intro|(refine if_ ?_ ?_<;>intro h<;>first|exact h.elim|(exfalso; omega)|skip)|refine vs_ ?_|refine dv_ ?_|exact fin_|(show ∃ _, _ ∧ _; refine ex_ ?_ (by first|with_reducible exact rfl|with_reducible exact hat.t hi6 hj6|with_reducible exact hat.t hj6 hk6|with_reducible exact r1|with_reducible exact r2|exact rd_))|(show ∃ _ _, _ ∧ _; refine ex2_ ?_ (by first|with_reducible exact rfl|with_reducible exact hat.t hi6 hj6|with_reducible exact hat.t hj6 hk6|with_reducible exact r1|with_reducible exact r2|exact rd_)))
                      · (repeat' (conv => whnf)<;>first|exact True.intro|(refine if_ ?_ ?_<;>intro h<;>first|exact h.elim|(exfalso; omega)|skip)|refine vs_ ?_|refine dv_ ?_|exact fin_|(show ∃ _, _ ∧ _; refine ex_ ?_)|(show ∃ _ _, _ ∧ _; refine ex2_ ?_))
                        conv => whnf
                        refine ⟨j + 1, ⟨by omega, all_succ hall2 fun q hq => hall3 q (by omega)⟩, by omega, ?_⟩
                        rw [hfs]
                        (repeat' (conv => whnf)<;>first|exact True.intro|(refine if_ ?_ ?_<;>intro h<;>first|exact h.elim|(exfalso; omega)|skip)|refine vs_ ?_|refine dv_ ?_|exact fin_|(show ∃ _, _ ∧ _; refine ex_ ?_)|(show ∃ _ _, _ ∧ _; refine ex2_ ?_))
              · have hjn : j = g.n.toNat := by omega
                subst hjn
                have b1 := hb.b 0 i
                have b2 := hb.b i 0
                by_cases c0 : flB g i g.n.toNat = true
                · by_cases c1 : g.t 0 i = i
                  · by_cases c2 : g.t i 0 = i
                    · rw [c0]
                      (repeat' (conv => whnf)<;>first|exact True.intro|(refine if_ ?_ ?_<;>intro h<;>first|exact h.elim|(exfalso; omega)|skip)|refine vs_ ?_|refine dv_ ?_|exact fin_|(show ∃ _, _ ∧ _; refine ex_ ?_ (by first|with_reducible exact rfl|with_reducible exact gt_at3 hat hi6|with_reducible exact gt_at4 hat hi6|exact rd_))|(show ∃ _ _, _ ∧ _; refine ex2_ ?_ (by first|with_reducible exact rfl|with_reducible exact gt_at3 hat hi6|with_reducible exact gt_at4 hat hi6|exact rd_)))
                      all_goals (conv => whnf)
                      all_goals (refine ⟨i + 1, ⟨by omega, all_succ hall ⟨⟨c1, c2⟩, flB_iff.1 c0, fun q k hq hk => hall2 q (by omega) k hk⟩⟩, by omega, ?_⟩)
                      all_goals (repeat' (conv => whnf)<;>first|exact True.intro|(refine if_ ?_ ?_<;>intro h<;>first|exact h.elim|(exfalso; omega)|skip)|refine vs_ ?_|refine dv_ ?_|exact fin_|(show ∃ _, _ ∧ _; refine ex_ ?_)|(show ∃ _ _, _ ∧ _; refine ex2_ ?_))
                    · rw [dB_f (bail hlt fun h => c2 h.1.2), c0]
                      (repeat' (conv => whnf)<;>first|exact True.intro|(refine if_ ?_ ?_<;>intro h<;>first|exact h.elim|(exfalso; omega)|skip)|refine vs_ ?_|refine dv_ ?_|exact fin_|(show ∃ _, _ ∧ _; refine ex_ ?_ (by first|with_reducible exact rfl|with_reducible exact gt_at3 hat hi6|with_reducible exact gt_at4 hat hi6|exact rd_))|(show ∃ _ _, _ ∧ _; refine ex2_ ?_ (by first|with_reducible exact rfl|with_reducible exact gt_at3 hat hi6|with_reducible exact gt_at4 hat hi6|exact rd_)))
                  · rw [dB_f (bail hlt fun h => c1 h.1.1), c0]
                    (repeat' (conv => whnf)<;>first|exact True.intro|(refine if_ ?_ ?_<;>intro h<;>first|exact h.elim|(exfalso; omega)|skip)|refine vs_ ?_|refine dv_ ?_|exact fin_|(show ∃ _, _ ∧ _; refine ex_ ?_ (by first|with_reducible exact rfl|with_reducible exact gt_at3 hat hi6|with_reducible exact gt_at4 hat hi6|exact rd_))|(show ∃ _ _, _ ∧ _; refine ex2_ ?_ (by first|with_reducible exact rfl|with_reducible exact gt_at3 hat hi6|with_reducible exact gt_at4 hat hi6|exact rd_)))
                · rw [dB_f (bail hlt fun h => c0 (flB_iff.2 h.2.1)), Bool.eq_false_iff.2 c0]
                  (repeat' (conv => whnf)<;>first|exact True.intro|(refine if_ ?_ ?_<;>intro h<;>first|exact h.elim|(exfalso; omega)|skip)|refine vs_ ?_|refine dv_ ?_|exact fin_|(show ∃ _, _ ∧ _; refine ex_ ?_)|(show ∃ _ _, _ ∧ _; refine ex2_ ?_))
          · rw [dB_t (p := GP g) ⟨g1, g2, fun q hq => hall q (by omega)⟩]
            (repeat' (conv => whnf)<;>first|exact True.intro|(refine if_ ?_ ?_<;>intro h<;>first|exact h.elim|(exfalso; omega)|skip)|refine vs_ ?_|refine dv_ ?_|exact fin_|(show ∃ _, _ ∧ _; refine ex_ ?_)|(show ∃ _ _, _ ∧ _; refine ex2_ ?_))
  · rw [decide_eq_false g1] at hIn'
    rw [dB_f fun h => g1 h.1]
    (repeat' (conv => whnf)<;>first|exact True.intro|(refine if_ ?_ ?_<;>intro h<;>first|exact h.elim|(exfalso; omega)|skip)|refine vs_ ?_|refine dv_ ?_|exact fin_|(show ∃ _, _ ∧ _; refine ex_ ?_ (by first|with_reducible exact rfl|exact hat.n|exact hIn'|exact rd_))|(show ∃ _ _, _ ∧ _; refine ex2_ ?_ (by first|with_reducible exact rfl|exact hat.n|exact hIn'|exact rd_)))
end Go.X
namespace Go.X
open Go Go.RowKit
set_option maxRecDepth 100000
set_option maxHeartbeats 8000000
set_option linter.unusedVariables false
variable {P : Program} {N : FN}
def cjL (g : Grp) (i m : Nat) : List Int := (List.range m).map fun x => ((cj g x i : Nat) : Int)
theorem cjL_len {g : Grp} {i m : Nat} : (cjL g i m).length = m := by unfold cjL; rw [List.length_map, List.length_range]
theorem cjL_app {g : Grp} {i m : Nat} {x : Int} (h : x = ((cj g m i : Nat) : Int)) : Chunk.data 1 (iL (cjL g i m) ++ [[.int .i64 x]]) = .data 1 (iL (cjL g i (m + 1))) := by
  rw [iL_app, h]
  unfold cjL
  rw [List.range_succ, List.map_append]; rfl
theorem iL_iN {L : List Nat} : iL (L.map Int.ofNat) = iN L := by
  unfold iL iN
  rw [List.map_map]; rfl
theorem iN_len (L : List Nat) : (iN L).length = L.length := List.length_map ..
theorem get2_iN {L : List Nat} {i : Nat} (h : i < L.length) : get2 (iN L) ((i : Nat) : Int).toNat 0 = some (.int .i64 ((L.getD i 0 : Nat) : Int)) := by
  have e : L[i]? = some (L.getD i 0) := by rw [List.getD_eq_getElem?_getD, List.getElem?_eq_getElem h]; rfl
  unfold get2 iN
  rw [Int.toNat_natCast, List.getElem?_map, e]
  rfl
theorem c_classOf (hN : C_gN P N) (hT : C_gTimes P N) (hI : C_gInverse P N) (hS : C_SortI P N) (hC : C_CompI P N) (hf : isFn P N.impl_Group_classOf (ir_impl_Group_classOf N) = true) : C_classOf P N := by
  intro sz l e off g i hat hb hg hi
  have hn := hg.1
  have hN' : Can P N.impl_Group_n [.pd sz l e off] (.val (.int .i64 g.n)) := hN hat
  have hS' := hS (L := cjL g i g.n.toNat) (by rw [cjL_len]; omega)
  have hC' := hC (L := sortI (cjL g i g.n.toNat)) (by rw [sortI_len, cjL_len]; omega)
  have e0 : compI (sortI (cjL g i g.n.toNat)) = (clsL g i).map Int.ofNat := cls_imp hb hg hi
  rw [e0, iL_iN] at hC'
  have hi6 : i < 6 := by omega
  refine can_of hf rfl rfl ?_
  (repeat' (conv => whnf)<;>first|exact True.intro|(refine if_ ?_ ?_<;>intro h<;>first|exact h.elim|(exfalso; omega)|skip)|refine vs_ ?_|refine dv_ ?_|exact fin_|(show ∃ _, _ ∧ _; refine ex_ ?_ (by first|with_reducible exact rfl|exact hN'|exact rd_))|(show ∃ _ _, _ ∧ _; refine ex2_ ?_ (by first|with_reducible exact rfl|exact hN'|exact rd_)))
  conv => whnf
  refine vc_loop (α := Nat) 0 (fun x => g.n.toNat - x) (fun x => x ≤ g.n.toNat) [] (fun x => [(5, .row 6 1), (10, .d (.int .i64 x))]) (fun x => [(6, .data 1 (iL (cjL g i x)))]) lp_ ?_ ?_
  · (repeat' (conv => whnf)<;>first|exact True.intro|(refine if_ ?_ ?_<;>intro h<;>first|exact h.elim|(exfalso; omega)|skip)|refine vs_ ?_|refine dv_ ?_|exact fin_|(show ∃ _, _ ∧ _; refine ex_ ?_)|(show ∃ _ _, _ ∧ _; refine ex2_ ?_))
  · intro x hx
    have hlen : (iL (cjL g i x)).length = x := by rw [iL_len, cjL_len]
    by_cases hlt : x < g.n.toNat
    · have hx6 : x < 6 := by omega
      obtain ⟨t1, t2⟩ := GP.tN hb hg hlt hi
      obtain ⟨v1, v2, v3, v4⟩ := GP.inv hb hg hlt
      have hT1 := hT (sz := sz) hat hb hx6 hi6
      rw [t1] at hT1
      have hI' := hI (sz := sz) hat hb (by omega) hx6
      rw [v4] at hI'
      have hT2 := hT (sz := sz) hat hb (i := mN g x i) (j := invN g x) (by omega) (by omega)
      have t3 := (GP.tN hb hg t2 v1).1
      (repeat' (conv => whnf)<;>first|exact True.intro|(refine if_ ?_ ?_<;>intro h<;>first|exact h.elim|(exfalso; omega)|skip)|refine vs_ ?_ (by first|exact ⟨by (simp only [List.length_cons, List.length_nil, hlen, maxRow]; omega), by decide, by decide⟩|exact sd_)|refine dv_ ?_|exact fin_|(show ∃ _, _ ∧ _; refine ex_ ?_ (by first|with_reducible exact rfl|exact hT1|exact hI'|exact hT2|exact rd_))|(show ∃ _ _, _ ∧ _; refine ex2_ ?_ (by first|with_reducible exact rfl|exact hT1|exact hI'|exact hT2|exact rd_)))
      conv => whnf
      refine ⟨x + 1, by omega, by omega, ?_⟩
      (repeat' (conv => whnf)<;>first|exact True.intro|(refine if_ ?_ ?_<;>intro h<;>first|exact h.elim|(exfalso; omega)|skip)|refine vs_ ?_ (by first|exact cjL_app t3|exact sd_)|refine dv_ ?_|exact fin_|(show ∃ _, _ ∧ _; refine ex_ ?_)|(show ∃ _ _, _ ∧ _; refine ex2_ ?_))
    · have : x = g.n.toNat := by omega
      subst this
      (repeat' (conv => whnf)<;>first|exact True.intro|(refine if_ ?_ ?_<;>intro h<;>first|exact h.elim|(exfalso; omega)|skip)|refine vs_ ?_|refine dv_ ?_|exact fin_|(show ∃ _, _ ∧ _; refine ex_ ?_ (by first|with_reducible exact rfl|exact hS'|exact hC'|exact rd_))|(show ∃ _ _, _ ∧ _; refine ex2_ ?_ (by first|with_reducible exact rfl|exact hS'|exact hC'|exact rd_)))
def clU (g : Grp) (m : Nat) : List (List D) := (((List.range m).filter (repB g)).map (clsL g)).map fun c => [.lst 1 (iN c)]
theorem clU_s {g : Grp} {m : Nat} : clU g (m + 1) = if repB g m = true then clU g m ++ [[.lst 1 (iN (clsL g m))]] else clU g m := by
  unfold clU
  rw [List.range_succ, List.filter_append]
  by_cases h : repB g m = true
  · rw [if_pos h, show [m].filter (repB g) = [m] from by rw [List.filter_cons, if_pos h]; rfl, List.map_append, List.map_append]; rfl
  · rw [if_neg h, show [m].filter (repB g) = [] from by rw [List.filter_cons, if_neg h]; rfl, List.append_nil]
theorem clU_len {g : Grp} : ∀ m, (clU g m).length ≤ m
  | 0 => Nat.le_refl _
  | m + 1 => by
    have := clU_len (g := g) m
    rw [clU_s]
    split
    · rw [List.length_append]; simp only [List.length_cons, List.length_nil]; omega
    · omega
theorem c_classes (hN : C_gN P N) (hC : C_classOf P N) (hf : isFn P N.impl_Group_classes (ir_impl_Group_classes N) = true) : C_classes P N := by
  intro sz l e off g hat hb hg
  have hn := hg.1
  have hN' : Can P N.impl_Group_n [.pd sz l e off] (.val (.int .i64 g.n)) := hN hat
  have e0 : clD g = clU g g.n.toNat := rfl
  rw [e0]
  refine can_of hf rfl rfl ?_
  (repeat' (conv => whnf)<;>first|exact True.intro|(refine if_ ?_ ?_<;>intro h<;>first|exact h.elim|(exfalso; omega)|skip)|refine vs_ ?_|refine dv_ ?_|exact fin_|(show ∃ _, _ ∧ _; refine ex_ ?_ (by first|with_reducible exact rfl|exact hN'|exact rd_))|(show ∃ _ _, _ ∧ _; refine ex2_ ?_ (by first|with_reducible exact rfl|exact hN'|exact rd_)))
  conv => whnf
  refine vc_loop (α := Nat) 0 (fun i => g.n.toNat - i) (fun i => i ≤ g.n.toNat) [] (fun i => [(3, .row 4 1), (9, .d (.int .i64 i))]) (fun i => [(4, .data 1 (clU g i))]) lp_ ?_ ?_
  · (repeat' (conv => whnf)<;>first|exact True.intro|(refine if_ ?_ ?_<;>intro h<;>first|exact h.elim|(exfalso; omega)|skip)|refine vs_ ?_|refine dv_ ?_|exact fin_|(show ∃ _, _ ∧ _; refine ex_ ?_)|(show ∃ _ _, _ ∧ _; refine ex2_ ?_))
  · intro i hi
    have hlen := clU_len (g := g) i
    by_cases hlt : i < g.n.toNat
    · have hC' := hC (sz := sz) hat hb hg hlt
      obtain ⟨h1, h2⟩ := cls_head hb hg hlt
      have h3 := iN_len (clsL g i)
      have hz := get2_iN (L := clsL g i) (i := 0) h2
      by_cases c : repB g i = true
      · rw [c, beq_iff_eq] at h1
        rw [h1] at hz
        (repeat' (conv => whnf)<;>first|exact True.intro|(refine if_ ?_ ?_<;>intro h<;>first|exact h.elim|(exfalso; omega)|skip)|refine vs_ ?_ (by first|exact ⟨by (simp only [List.length_cons, List.length_nil, maxRow]; omega), by decide, by decide⟩|exact sd_)|refine dv_ ?_|exact fin_|(show ∃ _, _ ∧ _; refine ex_ ?_ (by first|with_reducible exact rfl|exact hC'|exact hz|exact rd_))|(show ∃ _ _, _ ∧ _; refine ex2_ ?_ (by first|with_reducible exact rfl|exact hC'|exact hz|exact rd_)))
        conv => whnf
        refine ⟨i + 1, by omega, by omega, ?_⟩
        rw [clU_s, if_pos c]
        (repeat' (conv => whnf)<;>first|exact True.intro|(refine if_ ?_ ?_<;>intro h<;>first|exact h.elim|(exfalso; omega)|skip)|refine vs_ ?_|refine dv_ ?_|exact fin_|(show ∃ _, _ ∧ _; refine ex_ ?_)|(show ∃ _ _, _ ∧ _; refine ex2_ ?_))
      · have h1 : ¬ (clsL g i).getD 0 0 = i := fun h => c (by rw [← h1, beq_iff_eq]; exact h)
        (repeat' (conv => whnf)<;>first|exact True.intro|(refine if_ ?_ ?_<;>intro h<;>first|exact h.elim|(exfalso; omega)|skip)|refine vs_ ?_|refine dv_ ?_|exact fin_|(show ∃ _, _ ∧ _; refine ex_ ?_ (by first|with_reducible exact rfl|exact hC'|exact hz|exact rd_))|(show ∃ _ _, _ ∧ _; refine ex2_ ?_ (by first|with_reducible exact rfl|exact hC'|exact hz|exact rd_)))
        conv => whnf
        refine ⟨i + 1, by omega, by omega, ?_⟩
        rw [clU_s, if_neg c]
        (repeat' (conv => whnf)<;>first|exact True.intro|(refine if_ ?_ ?_<;>intro h<;>first|exact h.elim|(exfalso; omega)|skip)|refine vs_ ?_|refine dv_ ?_|exact fin_|(show ∃ _, _ ∧ _; refine ex_ ?_)|(show ∃ _ _, _ ∧ _; refine ex2_ ?_))
    · have : i = g.n.toNat := by omega
      subst this
      (repeat' (conv => whnf)<;>first|exact True.intro|(refine if_ ?_ ?_<;>intro h<;>first|exact h.elim|(exfalso; omega)|skip)|refine vs_ ?_|refine dv_ ?_|exact fin_|(show ∃ _, _ ∧ _; refine ex_ ?_)|(show ∃ _ _, _ ∧ _; refine ex2_ ?_))
end Go.X
