import Derived.Test.YtiefibobgdbcdaaK14
import Derived.Test.YtiefibobgdbcdaaW5
import Derived.Test.YtiefibobgdbcdaaK1
import Derived.Test.YtiefibobgdbcdaaW6
set_option linter.all false
namespace Go.X
open Go Go.RowKit
set_option maxRecDepth 100000
set_option maxHeartbeats 8000000
set_option linter.unusedVariables false
variable {P : Program} {N : FN}
theorem c_eqIS (hf : isFn P N.laws_eqInt64S (ir_laws_eqInt64S N) = true) : C_eqIS P N := by
  intro m f hm
  have hl : (row m f).length = m := row_len ..
  refine can_of hf rfl rfl ?_
  (repeat' (conv => whnf)<;>first|exact True.intro|(refine if_ ?_ ?_<;>intro h<;>first|exact h.elim|(exfalso; omega)|skip)|refine vs_ ?_|refine dv_ ?_|exact fin_|(show ∃ _, _ ∧ _; refine ex_ ?_)|(show ∃ _ _, _ ∧ _; refine ex2_ ?_))
  conv => whnf
  refine vc_loop (α := Nat) 0 (fun i => m - i) (fun i => i ≤ m) [] (fun i => [(5, .d (.int .i64 i))]) (fun i => []) lp_ ?_ ?_
  · (repeat' (conv => whnf)<;>first|exact True.intro|(refine if_ ?_ ?_<;>intro h<;>first|exact h.elim|(exfalso; omega)|skip)|refine vs_ ?_|refine dv_ ?_|exact fin_|(show ∃ _, _ ∧ _; refine ex_ ?_)|(show ∃ _ _, _ ∧ _; refine ex2_ ?_))
  · intro i hi
    by_cases hlt : i < m
    · (repeat' (conv => whnf)<;>first|exact True.intro|(refine if_ ?_ ?_<;>intro h<;>first|exact h.elim|(exfalso; omega)|skip)|refine vs_ ?_|refine dv_ ?_|exact fin_|(show ∃ _, _ ∧ _; refine ex_ ?_)|(show ∃ _ _, _ ∧ _; refine ex2_ ?_))
      conv => whnf
      refine ⟨i + 1, by omega, by omega, ?_⟩
      (repeat' (conv => whnf)<;>first|exact True.intro|(refine if_ ?_ ?_<;>intro h<;>first|exact h.elim|(exfalso; omega)|skip)|refine vs_ ?_|refine dv_ ?_|exact fin_|(show ∃ _, _ ∧ _; refine ex_ ?_)|(show ∃ _ _, _ ∧ _; refine ex2_ ?_))
    · (repeat' (conv => whnf)<;>first|exact True.intro|(refine if_ ?_ ?_<;>intro h<;>first|exact h.elim|(exfalso; omega)|skip)|refine vs_ ?_|refine dv_ ?_|exact fin_|(show ∃ _, _ ∧ _; refine ex_ ?_)|(show ∃ _ _, _ ∧ _; refine ex2_ ?_))
theorem mark_0 {k : Int} {m : Nat} {f : Row} : Chunk.data 1 (row m f) = .data 1 (row m fun j => if j < 0 then k + j else f j) := by
  refine congrArg (Chunk.data 1) (row_ext fun j _ => ?_)
  rw [if_neg (by omega)]
theorem mark_s {k : Int} {f : Row} {i j : Nat} : (if j = i then k + (i : Int) else if j < i then k + (j : Int) else f j) = if j < i + 1 then k + (j : Int) else f j := by
  by_cases c : j = i
  · subst c; rw [if_pos rfl, if_pos (by omega)]
  · rw [if_neg c]
    by_cases g : j < i
    · rw [if_pos g, if_pos (by omega)]
    · rw [if_neg g, if_neg (by omega)]
theorem c_markIS (hf : isFn P N.laws_markInt64S (ir_laws_markInt64S N) = true) : C_markIS P N := by
  intro m f k hm hk
  have hl : (row m f).length = m := row_len ..
  refine can_ofM hf rfl rfl ?_
  (repeat' (conv => whnf)<;>first|exact True.intro|(refine if_ ?_ ?_<;>intro h<;>first|exact h.elim|(exfalso; omega)|skip)|refine vs_ ?_|refine dv_ ?_|exact fin_|(show ∃ _, _ ∧ _; refine ex_ ?_)|(show ∃ _ _, _ ∧ _; refine ex2_ ?_))
  conv => whnf
  refine vc_loop (α := Nat) 0 (fun i => m - i) (fun i => i ≤ m) [] (fun i => [(1, .d (.int .i64 (k + i))), (5, .d (.int .i64 i))]) (fun i => [(0, .data 1 (row m fun j => if j < i then k + j else f j))]) lp_ ?_ ?_
  · (repeat' (conv => whnf)<;>first|exact True.intro|(refine if_ ?_ ?_<;>intro h<;>first|exact h.elim|(exfalso; omega)|skip)|refine vs_ ?_ (by first|exact mark_0 (k := k)|exact sd_)|refine dv_ ?_|exact fin_|(show ∃ _, _ ∧ _; refine ex_ ?_)|(show ∃ _ _, _ ∧ _; refine ex2_ ?_))
  · intro i hi
    have hl2 : (row m fun j => if j < i then k + (j : Int) else f j).length = m := row_len ..
    by_cases hlt : i < m
    · (repeat' (conv => whnf)<;>first|exact True.intro|(refine if_ ?_ ?_<;>intro h<;>first|exact h.elim|(exfalso; omega)|skip)|refine vs_ ?_|refine dv_ ?_|exact fin_|(show ∃ _, _ ∧ _; refine ex_ ?_ (by first|with_reducible exact rfl|exact get_row hlt|exact rd_))|(show ∃ _ _, _ ∧ _; refine ex2_ ?_ (by first|with_reducible exact rfl|exact get_row hlt|exact rd_)))
      conv => whnf
      refine ⟨i + 1, by omega, by omega, ?_⟩
      (repeat' (conv => whnf)<;>first|exact True.intro|(refine if_ ?_ ?_<;>intro h<;>first|exact h.elim|(exfalso; omega)|skip)|refine vs_ ?_ (by first|exact row_set fun j _ => mark_s|exact sd_)|refine dv_ ?_|exact fin_|(show ∃ _, _ ∧ _; refine ex_ ?_)|(show ∃ _ _, _ ∧ _; refine ex2_ ?_))
    · have : i = m := by omega
      subst this
      (repeat' (conv => whnf)<;>first|exact True.intro|(refine if_ ?_ ?_<;>intro h<;>first|exact h.elim|(exfalso; omega)|skip)|refine vs_ ?_|refine dv_ ?_|exact fin_|(show ∃ _, _ ∧ _; refine ex_ ?_)|(show ∃ _ _, _ ∧ _; refine ex2_ ?_))
      conv => whnf
      refine ⟨?_, ?_⟩
      · conv => whnf
        exact ⟨⟨rfl, by rw [row_len, row_len]⟩, row_ext fun j hj => by rw [if_pos hj]⟩
      · conv => whnf
theorem c_heldIS (hf : isFn P N.laws_heldInt64S (ir_laws_heldInt64S N) = true) : C_heldIS P N := by
  intro m k hm hk
  have hl : (row m fun i => k + (i : Int)).length = m := row_len ..
  refine can_of hf rfl rfl ?_
  (repeat' (conv => whnf)<;>first|exact True.intro|(refine if_ ?_ ?_<;>intro h<;>first|exact h.elim|(exfalso; omega)|skip)|refine vs_ ?_|refine dv_ ?_|exact fin_|(show ∃ _, _ ∧ _; refine ex_ ?_)|(show ∃ _ _, _ ∧ _; refine ex2_ ?_))
  conv => whnf
  refine vc_loop (α := Nat) 0 (fun i => m - i) (fun i => i ≤ m) [] (fun i => [(1, .d (.int .i64 (k + i))), (5, .d (.int .i64 i))]) (fun i => []) lp_ ?_ ?_
  · (repeat' (conv => whnf)<;>first|exact True.intro|(refine if_ ?_ ?_<;>intro h<;>first|exact h.elim|(exfalso; omega)|skip)|refine vs_ ?_|refine dv_ ?_|exact fin_|(show ∃ _, _ ∧ _; refine ex_ ?_)|(show ∃ _ _, _ ∧ _; refine ex2_ ?_))
  · intro i hi
    by_cases hlt : i < m
    · (repeat' (conv => whnf)<;>first|exact True.intro|(refine if_ ?_ ?_<;>intro h<;>first|exact h.elim|(exfalso; omega)|skip)|refine vs_ ?_|refine dv_ ?_|exact fin_|(show ∃ _, _ ∧ _; refine ex_ ?_)|(show ∃ _ _, _ ∧ _; refine ex2_ ?_))
      conv => whnf
      refine ⟨i + 1, by omega, by omega, ?_⟩
      (repeat' (conv => whnf)<;>first|exact True.intro|(refine if_ ?_ ?_<;>intro h<;>first|exact h.elim|(exfalso; omega)|skip)|refine vs_ ?_|refine dv_ ?_|exact fin_|(show ∃ _, _ ∧ _; refine ex_ ?_)|(show ∃ _ _, _ ∧ _; refine ex2_ ?_))
    · have : i = m := by omega
      subst this
      (repeat' (conv => whnf)<;>first|exact True.intro|(refine if_ ?_ ?_<;>intro h<;>first|exact h.elim|(exfalso; omega)|skip)|refine vs_ ?_|refine dv_ ?_|exact fin_|(show ∃ _, _ ∧ _; refine ex_ ?_)|(show ∃ _ _, _ ∧ _; refine ex2_ ?_))
end Go.X
namespace Go.X
open Go Go.RowKit
set_option maxRecDepth 100000
set_option maxHeartbeats 8000000
set_option linter.unusedVariables false
variable {P : Program} {N : FN}
def gpQ (g : Grp) (i : Nat) : Prop := (g.t 0 i = i ∧ g.t i 0 = i) ∧ (∃ j : Nat, (j : Int) < g.n ∧ g.t i j = 0 ∧ g.t j i = 0) ∧ ∀ j k : Nat, (j : Int) < g.n → (k : Int) < g.n → g.t (mN g i j) k = g.t i (mN g j k)
theorem c_IsGroup (hIn : C_in P N) (hE : C_gEntries P N) (hN : C_gN P N) (hT : C_gTimes P N) (hI : C_gInverse P N) (hf : isFn P N.impl_IsGroup (ir_impl_IsGroup N) = true) : C_IsGroup P N := by
  intro g hb
  have hat := grpAt_one g
  have hIn' := hIn (n := g.n) (lo := 1) (hi := 6)
  have hE' := hE (sz := (grpL g).length) hat hb
  have hN' : Can P N.impl_Group_n [.pd (grpL g).length [grpL g] 0 0] (.val (.int .i64 g.n)) := hN hat
  refine can_of hf rfl rfl ?_
  by_cases g1 : 1 ≤ g.n ∧ g.n ≤ 6
  · rw [decide_eq_true g1] at hIn'
    by_cases g2 : entP g
    · rw [dB_t g2] at hE'
      have hm : ∀ i j : Nat, g.t i j = (mN g i j : Nat) := fun i j => by have := hb.b i j; unfold mN; omega
      have hmn : ∀ i j : Nat, (i : Int) < g.n → (j : Int) < g.n → mN g i j < g.n.toNat := fun i j hi hj => by
        have := g2 i j (by omega) (by omega)
        rw [if_pos ⟨hi, hj⟩, hm] at this
        omega
      (repeat' (conv => whnf)<;>first|exact True.intro|(refine if_ ?_ ?_<;>intro h<;>first|exact h.elim|(exfalso; omega)|skip)|refine vs_ ?_|refine dv_ ?_|exact fin_|(show ∃ _, _ ∧ _; refine ex_ ?_ (by first|with_reducible exact rfl|exact hat.n|exact hIn'|exact hE'|exact hN'|exact rd_))|(show ∃ _ _, _ ∧ _; refine ex2_ ?_ (by first|with_reducible exact rfl|exact hat.n|exact hIn'|exact hE'|exact hN'|exact rd_)))
      conv => whnf
      refine vc_loop (α := Nat) 0 (fun i => g.n.toNat - i) (fun i => i ≤ g.n.toNat ∧ ∀ q, q < i → gpQ g q) [] (fun i => [(15, .d (.int .i64 i))]) (fun i => []) lp_ ?_ ?_
      · (repeat' (conv => whnf)<;>first|exact True.intro|(refine if_ ?_ ?_<;>intro h<;>first|exact h.elim|(exfalso; omega)|skip)|refine vs_ ?_|refine dv_ ?_|exact fin_|(show ∃ _, _ ∧ _; refine ex_ ?_)|(show ∃ _ _, _ ∧ _; refine ex2_ ?_))
      · rintro i ⟨hi, hall⟩
        by_cases hlt : i < g.n.toNat
        · have hT1 := hT (sz := (grpL g).length) (i := 0) (j := i) hat hb (by omega) (by omega)
          have hT2 := hT (sz := (grpL g).length) (i := i) (j := 0) hat hb (by omega) (by omega)
          have hI' := hI (sz := (grpL g).length) (i := i) hat hb (by omega) (by omega)
          have bail : (¬ gpQ g i) → ¬ GP g := fun hn h => hn (h.2.2 i (by omega))
          by_cases c1 : g.t 0 i = i
          · by_cases c2 : g.t i 0 = i
            · rcases idxF_cases (fun j => decide (g.t i j = 0 ∧ g.t j i = 0)) g.n.toNat with ⟨e, hno⟩ | ⟨q, hq, e, hyes, _⟩
              · rw [e] at hI'
                rw [dB_f (bail fun h => by
                  obtain ⟨j, hj, h1, h2⟩ := h.2.1
                  exact of_decide_eq_false (hno j (by omega)) ⟨h1, h2⟩)]
                (repeat' (conv => whnf)<;>first|exact True.intro|(refine if_ ?_ ?_<;>intro h<;>first|exact h.elim|(exfalso; omega)|skip)|refine vs_ ?_|refine dv_ ?_|exact fin_|(show ∃ _, _ ∧ _; refine ex_ ?_ (by first|with_reducible exact rfl|exact hT1|exact hT2|exact hI'|exact hN'|exact rd_))|(show ∃ _ _, _ ∧ _; refine ex2_ ?_ (by first|with_reducible exact rfl|exact hT1|exact hT2|exact hI'|exact hN'|exact rd_)))
              · rw [e] at hI'
                have hinv : ∃ j : Nat, (j : Int) < g.n ∧ g.t i j = 0 ∧ g.t j i = 0 := ⟨q, by omega, of_decide_eq_true hyes⟩
                (repeat' (conv => whnf)<;>first|exact True.intro|(refine if_ ?_ ?_<;>intro h<;>first|exact h.elim|(exfalso; omega)|skip)|refine vs_ ?_|refine dv_ ?_|exact fin_|(show ∃ _, _ ∧ _; refine ex_ ?_ (by first|with_reducible exact rfl|exact hT1|exact hT2|exact hI'|exact hN'|exact rd_))|(show ∃ _ _, _ ∧ _; refine ex2_ ?_ (by first|with_reducible exact rfl|exact hT1|exact hT2|exact hI'|exact hN'|exact rd_)))
                conv => whnf
                refine vc_loop (α := Nat) 0 (fun j => g.n.toNat - j) (fun j => j ≤ g.n.toNat ∧ ∀ q, q < j → ∀ k : Nat, (k : Int) < g.n → g.t (mN g i q) k = g.t i (mN g q k)) [] (fun j => [(34, .d (.int .i64 j))]) (fun j => []) lp_ ?_ ?_
                · (repeat' (conv => whnf)<;>first|exact True.intro|(refine if_ ?_ ?_<;>intro h<;>first|exact h.elim|(exfalso; omega)|skip)|refine vs_ ?_|refine dv_ ?_|exact fin_|(show ∃ _, _ ∧ _; refine ex_ ?_)|(show ∃ _ _, _ ∧ _; refine ex2_ ?_))
                · rintro j ⟨hj, hall2⟩
                  by_cases hlt2 : j < g.n.toNat
                  · (repeat' (conv => whnf)<;>first|exact True.intro|(refine if_ ?_ ?_<;>intro h<;>first|exact h.elim|(exfalso; omega)|skip)|refine vs_ ?_|refine dv_ ?_|exact fin_|(show ∃ _, _ ∧ _; refine ex_ ?_ (by first|with_reducible exact rfl|exact hN'|exact rd_))|(show ∃ _ _, _ ∧ _; refine ex2_ ?_ (by first|with_reducible exact rfl|exact hN'|exact rd_)))
                    conv => whnf
                    refine vc_loop (α := Nat) 0 (fun k => g.n.toNat - k) (fun k => k ≤ g.n.toNat ∧ ∀ q, q < k → g.t (mN g i j) q = g.t i (mN g j q)) [] (fun k => [(38, .d (.int .i64 k))]) (fun k => []) lp_ ?_ ?_
                    · (repeat' (conv => whnf)<;>first|exact True.intro|(refine if_ ?_ ?_<;>intro h<;>first|exact h.elim|(exfalso; omega)|skip)|refine vs_ ?_|refine dv_ ?_|exact fin_|(show ∃ _, _ ∧ _; refine ex_ ?_)|(show ∃ _ _, _ ∧ _; refine ex2_ ?_))
                    · rintro k ⟨hk, hall3⟩
                      by_cases hlt3 : k < g.n.toNat
                      · have m1 := hmn i j (by omega) (by omega)
                        have m2 := hmn j k (by omega) (by omega)
                        have hA := hT (sz := (grpL g).length) (i := i) (j := j) hat hb (by omega) (by omega)
                        have hB := hT (sz := (grpL g).length) (i := mN g i j) (j := k) hat hb (by omega) (by omega)
                        have hC := hT (sz := (grpL g).length) (i := j) (j := k) hat hb (by omega) (by omega)
                        have hD := hT (sz := (grpL g).length) (i := i) (j := mN g j k) hat hb (by omega) (by omega)
                        rw [hm i j] at hA
                        rw [hm j k] at hC
                        by_cases c3 : g.t (mN g i j) k = g.t i (mN g j k)
                        · (repeat' (conv => whnf)<;>first|exact True.intro|(refine if_ ?_ ?_<;>intro h<;>first|exact h.elim|(exfalso; omega)|skip)|refine vs_ ?_|refine dv_ ?_|exact fin_|(show ∃ _, _ ∧ _; refine ex_ ?_ (by first|with_reducible exact rfl|exact hA|exact hB|exact hC|exact hD|exact rd_))|(show ∃ _ _, _ ∧ _; refine ex2_ ?_ (by first|with_reducible exact rfl|exact hA|exact hB|exact hC|exact hD|exact rd_)))
                          all_goals (conv => whnf)
                          all_goals (refine ⟨k + 1, ⟨by omega, all_succ hall3 c3⟩, by omega, ?_⟩)
                          all_goals (repeat' (conv => whnf)<;>first|exact True.intro|(refine if_ ?_ ?_<;>intro h<;>first|exact h.elim|(exfalso; omega)|skip)|refine vs_ ?_|refine dv_ ?_|exact fin_|(show ∃ _, _ ∧ _; refine ex_ ?_)|(show ∃ _ _, _ ∧ _; refine ex2_ ?_))
                        · rw [dB_f (bail fun h => c3 (h.2.2 j k (by omega) (by omega)))]
                          (repeat' (conv => whnf)<;>first|exact True.intro|(refine if_ ?_ ?_<;>intro h<;>first|exact h.elim|(exfalso; omega)|skip)|refine vs_ ?_|refine dv_ ?_|exact fin_|(show ∃ _, _ ∧ _; refine ex_ ?_ (by first|with_reducible exact rfl|exact hA|exact hB|exact hC|exact hD|exact rd_))|(show ∃ _ _, _ ∧ _; refine ex2_ ?_ (by first|with_reducible exact rfl|exact hA|exact hB|exact hC|exact hD|exact rd_)))
                      · (repeat' (conv => whnf)<;>first|exact True.intro|(refine if_ ?_ ?_<;>intro h<;>first|exact h.elim|(exfalso; omega)|skip)|refine vs_ ?_|refine dv_ ?_|exact fin_|(show ∃ _, _ ∧ _; refine ex_ ?_)|(show ∃ _ _, _ ∧ _; refine ex2_ ?_))
                        conv => whnf
                        refine ⟨j + 1, ⟨by omega, all_succ hall2 fun q hq => hall3 q (by omega)⟩, by omega, ?_⟩
                        (repeat' (conv => whnf)<;>first|exact True.intro|(refine if_ ?_ ?_<;>intro h<;>first|exact h.elim|(exfalso; omega)|skip)|refine vs_ ?_|refine dv_ ?_|exact fin_|(show ∃ _, _ ∧ _; refine ex_ ?_)|(show ∃ _ _, _ ∧ _; refine ex2_ ?_))
                  · (repeat' (conv => whnf)<;>first|exact True.intro|(refine if_ ?_ ?_<;>intro h<;>first|exact h.elim|(exfalso; omega)|skip)|refine vs_ ?_|refine dv_ ?_|exact fin_|(show ∃ _, _ ∧ _; refine ex_ ?_)|(show ∃ _ _, _ ∧ _; refine ex2_ ?_))
                    conv => whnf
                    refine ⟨i + 1, ⟨by omega, all_succ hall ⟨⟨c1, c2⟩, hinv, fun q k hq hk => hall2 q (by omega) k hk⟩⟩, by omega, ?_⟩
                    (repeat' (conv => whnf)<;>first|exact True.intro|(refine if_ ?_ ?_<;>intro h<;>first|exact h.elim|(exfalso; omega)|skip)|refine vs_ ?_|refine dv_ ?_|exact fin_|(show ∃ _, _ ∧ _; refine ex_ ?_)|(show ∃ _ _, _ ∧ _; refine ex2_ ?_))
            · rw [dB_f (bail fun h => c2 h.1.2)]
              (repeat' (conv => whnf)<;>first|exact True.intro|(refine if_ ?_ ?_<;>intro h<;>first|exact h.elim|(exfalso; omega)|skip)|refine vs_ ?_|refine dv_ ?_|exact fin_|(show ∃ _, _ ∧ _; refine ex_ ?_ (by first|with_reducible exact rfl|exact hT1|exact hT2|exact hN'|exact rd_))|(show ∃ _ _, _ ∧ _; refine ex2_ ?_ (by first|with_reducible exact rfl|exact hT1|exact hT2|exact hN'|exact rd_)))
          · rw [dB_f (bail fun h => c1 h.1.1)]
            (repeat' (conv => whnf)<;>first|exact True.intro|(refine if_ ?_ ?_<;>intro h<;>first|exact h.elim|(exfalso; omega)|skip)|refine vs_ ?_|refine dv_ ?_|exact fin_|(show ∃ _, _ ∧ _; refine ex_ ?_ (by first|with_reducible exact rfl|exact hT1|exact hN'|exact rd_))|(show ∃ _ _, _ ∧ _; refine ex2_ ?_ (by first|with_reducible exact rfl|exact hT1|exact hN'|exact rd_)))
        · rw [dB_t (p := GP g) ⟨g1, g2, fun q hq => hall q (by omega)⟩]
          (repeat' (conv => whnf)<;>first|exact True.intro|(refine if_ ?_ ?_<;>intro h<;>first|exact h.elim|(exfalso; omega)|skip)|refine vs_ ?_|refine dv_ ?_|exact fin_|(show ∃ _, _ ∧ _; refine ex_ ?_)|(show ∃ _ _, _ ∧ _; refine ex2_ ?_))
    · rw [dB_f g2] at hE'
      rw [dB_f fun h => g2 h.2.1]
      (repeat' (conv => whnf)<;>first|exact True.intro|(refine if_ ?_ ?_<;>intro h<;>first|exact h.elim|(exfalso; omega)|skip)|refine vs_ ?_|refine dv_ ?_|exact fin_|(show ∃ _, _ ∧ _; refine ex_ ?_ (by first|with_reducible exact rfl|exact hat.n|exact hIn'|exact hE'|exact rd_))|(show ∃ _ _, _ ∧ _; refine ex2_ ?_ (by first|with_reducible exact rfl|exact hat.n|exact hIn'|exact hE'|exact rd_)))
  · rw [decide_eq_false g1] at hIn'
    rw [dB_f fun h => g1 h.1]
    (repeat' (conv => whnf)<;>first|exact True.intro|(refine if_ ?_ ?_<;>intro h<;>first|exact h.elim|(exfalso; omega)|skip)|refine vs_ ?_|refine dv_ ?_|exact fin_|(show ∃ _, _ ∧ _; refine ex_ ?_ (by first|with_reducible exact rfl|exact hat.n|exact hIn'|exact rd_))|(show ∃ _ _, _ ∧ _; refine ex2_ ?_ (by first|with_reducible exact rfl|exact hat.n|exact hIn'|exact rd_)))
end Go.X
namespace Go.X
open Go Go.RowKit
set_option maxRecDepth 100000
set_option maxHeartbeats 8000000
set_option linter.unusedVariables false
variable {P : Program} {N : FN}
theorem c_nan (hf : isFn P N.cmp_isNaN_int64 (ir_cmp_isNaN_int64 N) = true) : C_nan P N := by
  intro x
  refine can_of hf rfl rfl ?_
  (repeat' (conv => whnf)<;>first|exact True.intro|(refine if_ ?_ ?_<;>intro h<;>first|exact h.elim|(exfalso; omega)|skip)|refine vs_ ?_ (by first|exact congrArg D.bool (by show (!decide (x = x)) = false; rw [decide_eq_true rfl]; rfl)|exact sd_)|refine dv_ ?_|exact fin_|(show ∃ _, _ ∧ _; refine ex_ ?_)|(show ∃ _ _, _ ∧ _; refine ex2_ ?_))
  conv => whnf
  exact congrArg D.bool (by show (!decide (x = x)) = false; rw [decide_eq_true rfl]; rfl)
theorem c_less (hN : C_nan P N) (hf : isFn P N.cmp_Less_int64 (ir_cmp_Less_int64 N) = true) : C_less P N := by
  intro x y
  have hN' := hN (x := x)
  refine can_of hf rfl rfl ?_
  (repeat' (conv => whnf)<;>first|exact True.intro|(refine if_ ?_ ?_<;>intro h<;>first|exact h.elim|(exfalso; omega)|skip)|refine vs_ ?_|refine dv_ ?_|exact fin_|(show ∃ _, _ ∧ _; refine ex_ ?_ (by first|with_reducible exact rfl|exact hN'|exact rd_))|(show ∃ _ _, _ ∧ _; refine ex2_ ?_ (by first|with_reducible exact rfl|exact hN'|exact rd_)))
theorem sort_I1 (L : List Int) : sortI (L.take 1) ++ L.drop 1 = L := by
  cases L with
  | nil => rfl
  | cons v r => rfl
theorem st_swI {S : List Int} {v : Int} {R : List Int} {q : Nat} (h : q + 1 ≤ S.length) : Chunk.data 1 (((iL (midI S v R (q + 1))).set ((q + 1 : Nat) : Int).toNat ([D.int .i64 v].set 0 (.int .i64 (S.getD q 0)))).set (((q + 1 : Nat) : Int) - 1).toNat ([D.int .i64 (S.getD q 0)].set 0 (.int .i64 v))) = .data 1 (iL (midI S v R q)) := by
  rw [show (((q + 1 : Nat) : Int) - 1) = ((q : Nat) : Int) by omega, iL_set rfl, iL_set rfl, midI_swap h]
theorem get_iL2 {S : List Int} {v : Int} {R : List Int} {q : Nat} {x : List D} (h : q + 1 ≤ S.length) : ((iL (midI S v R (q + 1))).set ((q + 1 : Nat) : Int).toNat x)[(((q + 1 : Nat) : Int) - 1).toNat]? = some [.int .i64 (S.getD q 0)] := by
  rw [show (((q + 1 : Nat) : Int) - 1) = ((q : Nat) : Int) by omega, List.getElem?_set_ne (by omega)]
  exact get_iL (by rw [midI_len (by omega)]; omega) (midI_be h)
theorem c_insI (hL : C_less P N) (hf : isFn P N.slices_insertionSortOrdered_int64 (ir_slices_insertionSortOrdered_int64 N) = true) : C_insI P N := by
  intro L hl
  refine can_ofM hf rfl rfl ?_
  (repeat' (conv => whnf)<;>first|exact True.intro|(refine if_ ?_ ?_<;>intro h<;>first|exact h.elim|(exfalso; omega)|skip)|refine vs_ ?_|refine dv_ ?_|exact fin_|(show ∃ _, _ ∧ _; refine ex_ ?_)|(show ∃ _ _, _ ∧ _; refine ex2_ ?_))
  conv => whnf
  refine vc_loop (α := Nat) 0 (fun i => L.length - i) (fun i => i + 1 ≤ L.length ∨ (i = 0 ∧ L.length = 0)) [] (fun i => [(0, .row 0 1), (1, .d (.int .i64 0)), (2, .d (.int .i64 L.length)), (6, .d (.int .i64 ((i + 1 : Nat) : Int)))]) (fun i => [(0, .data 1 (iL (sortI (L.take (i + 1)) ++ L.drop (i + 1))))]) lp_ ?_ ?_
  · rw [sort_I1]
    (repeat' (conv => whnf)<;>first|exact True.intro|(refine if_ ?_ ?_<;>intro h<;>first|exact h.elim|(exfalso; omega)|skip)|refine vs_ ?_|refine dv_ ?_|exact fin_|(show ∃ _, _ ∧ _; refine ex_ ?_)|(show ∃ _ _, _ ∧ _; refine ex2_ ?_))
  · intro i hi
    by_cases hlt : i + 1 < L.length
    · (repeat' (conv => whnf)<;>first|exact True.intro|(refine if_ ?_ ?_<;>intro h<;>first|exact h.elim|(exfalso; omega)|skip)|refine vs_ ?_|refine dv_ ?_|exact fin_|(show ∃ _, _ ∧ _; refine ex_ ?_)|(show ∃ _ _, _ ∧ _; refine ex2_ ?_))
      conv => whnf
      have hS : (sortI (L.take (i + 1))).length = i + 1 := by rw [sortI_len, List.length_take]; omega
      have hR : (L.drop (i + 2)).length = L.length - (i + 2) := List.length_drop ..
      have hasc := sortI_asc (L.take (i + 1))
      have hs1 : sortI (L.take (i + 1 + 1)) = insI (L.getD (i + 1) 0) (sortI (L.take (i + 1))) := by rw [takeI hlt, sortI_snoc]
      have e0 : sortI (L.take (i + 1)) ++ L.drop (i + 1) = midI (sortI (L.take (i + 1))) (L.getD (i + 1) 0) (L.drop (i + 2)) (i + 1) := by
        rw [midI_end hS.symm, dropI hlt]
      rw [e0]
      generalize hSe : sortI (L.take (i + 1)) = S at *
      generalize L.getD (i + 1) 0 = v at *
      generalize hRe : L.drop (i + 2) = R at *
      refine vc_loop (α := Nat) (i + 1) (fun j => j) (fun j => j ≤ i + 1 ∧ ∀ k, j ≤ k → k < i + 1 → v < S.getD k 0) [] (fun j => [(0, .row 0 1), (1, .d (.int .i64 0)), (2, .d (.int .i64 L.length)), (6, .d (.int .i64 ((i + 1 : Nat) : Int))), (7, .d (.int .i64 (j : Nat)))]) (fun j => [(0, .data 1 (iL (midI S v R j)))]) lp_ ?_ ?_
      · (repeat' (conv => whnf)<;>first|exact True.intro|(refine if_ ?_ ?_<;>intro h<;>first|exact h.elim|(exfalso; omega)|skip)|refine vs_ ?_|refine dv_ ?_|exact fin_|(show ∃ _, _ ∧ _; refine ex_ ?_)|(show ∃ _ _, _ ∧ _; refine ex2_ ?_))
      · rintro j ⟨hj, hgt⟩
        have hml : (midI S v R j).length = L.length := by rw [midI_len (by omega)]; omega
        have hil : (iL (midI S v R j)).length = L.length := by rw [iL_len, hml]
        have hfin : (∀ k, k < j → S.getD k 0 ≤ v) → sortI (L.take (i + 1 + 1)) ++ L.drop (i + 1 + 1) = midI S v R j := fun h => by
          rw [hs1, show L.drop (i + 1 + 1) = R from hRe]
          exact insI_mid (by omega) h (fun hj2 => hgt j (Nat.le_refl _) (by omega))
        cases j with
        | zero =>
          (repeat' (conv => whnf)<;>first|exact True.intro|(refine if_ ?_ ?_<;>intro h<;>first|exact h.elim|(exfalso; omega)|skip)|refine vs_ ?_|refine dv_ ?_|exact fin_|(show ∃ _, _ ∧ _; refine ex_ ?_)|(show ∃ _ _, _ ∧ _; refine ex2_ ?_))
          conv => whnf
          refine ⟨i + 1, .inl (by omega), by omega, ?_⟩
          rw [hfin (fun k hk => by omega)]
          (repeat' (conv => whnf)<;>first|exact True.intro|(refine if_ ?_ ?_<;>intro h<;>first|exact h.elim|(exfalso; omega)|skip)|refine vs_ ?_|refine dv_ ?_|exact fin_|(show ∃ _, _ ∧ _; refine ex_ ?_)|(show ∃ _ _, _ ∧ _; refine ex2_ ?_))
        | succ q =>
          have hl' := hL (x := v) (y := S.getD q 0)
          have hq1 : q + 1 ≤ S.length := by omega
          have ht := get2_iL (L := midI S v R (q + 1)) (i := q + 1) (by omega) (midI_at (by omega))
          have ht2 := get2_iLp (L := midI S v R (q + 1)) (i := q) (by omega) (midI_be hq1)
          have ht3 := get_iL (L := midI S v R (q + 1)) (i := q + 1) (by omega) (midI_at (by omega))
          by_cases c : v < S.getD q 0
          · rw [decide_eq_true c] at hl'
            (repeat' (conv => whnf)<;>first|exact True.intro|(refine if_ ?_ ?_<;>intro h<;>first|exact h.elim|(exfalso; omega)|skip)|refine vs_ ?_ (by first|exact ⟨rfl, by omega, by rw [List.length_set, hil]; omega⟩|exact sd_)|refine dv_ ?_|exact fin_|(show ∃ _, _ ∧ _; refine ex_ ?_ (by first|with_reducible exact rfl|with_reducible exact ht|with_reducible exact ht2|exact hl'|with_reducible exact ht3|with_reducible exact get_iL2 hq1|exact rd_))|(show ∃ _ _, _ ∧ _; refine ex2_ ?_ (by first|with_reducible exact rfl|with_reducible exact ht|with_reducible exact ht2|exact hl'|with_reducible exact ht3|with_reducible exact get_iL2 hq1|exact rd_)))
            conv => whnf
            refine ⟨q, ⟨by omega, fun k hk1 hk2 => ?_⟩, by omega, ?_⟩
            · by_cases e : k = q
              · rw [e]; exact c
              · exact hgt k (by omega) hk2
            · (repeat' (conv => whnf)<;>first|exact True.intro|(refine if_ ?_ ?_<;>intro h<;>first|exact h.elim|(exfalso; omega)|skip)|refine vs_ ?_ (by first|exact st_swI hq1|exact sd_)|refine dv_ ?_|exact fin_|(show ∃ _, _ ∧ _; refine ex_ ?_)|(show ∃ _ _, _ ∧ _; refine ex2_ ?_))
          · rw [decide_eq_false c] at hl'
            (repeat' (conv => whnf)<;>first|exact True.intro|(refine if_ ?_ ?_<;>intro h<;>first|exact h.elim|(exfalso; omega)|skip)|refine vs_ ?_|refine dv_ ?_|exact fin_|(show ∃ _, _ ∧ _; refine ex_ ?_ (by first|with_reducible exact rfl|with_reducible exact ht|with_reducible exact ht2|exact hl'|exact rd_))|(show ∃ _ _, _ ∧ _; refine ex2_ ?_ (by first|with_reducible exact rfl|with_reducible exact ht|with_reducible exact ht2|exact hl'|exact rd_)))
            conv => whnf
            refine ⟨i + 1, .inl (by omega), by omega, ?_⟩
            rw [hfin (fun k hk => by
              have := ascI_le hasc (a := k) (b := q) (by omega) (by omega)
              omega)]
            (repeat' (conv => whnf)<;>first|exact True.intro|(refine if_ ?_ ?_<;>intro h<;>first|exact h.elim|(exfalso; omega)|skip)|refine vs_ ?_|refine dv_ ?_|exact fin_|(show ∃ _, _ ∧ _; refine ex_ ?_)|(show ∃ _ _, _ ∧ _; refine ex2_ ?_))
    · have hl1 : L.take (i + 1) = L := List.take_of_length_le (by omega)
      have hl2 : L.drop (i + 1) = [] := List.drop_of_length_le (by omega)
      rw [hl1, hl2, List.append_nil]
      (repeat' (conv => whnf)<;>first|exact True.intro|(refine if_ ?_ ?_<;>intro h<;>first|exact h.elim|(exfalso; omega)|skip)|refine vs_ ?_|refine dv_ ?_|exact fin_|(show ∃ _, _ ∧ _; refine ex_ ?_)|(show ∃ _ _, _ ∧ _; refine ex2_ ?_))
      conv => whnf
      refine ⟨?_, ?_⟩
      · conv => whnf
        exact ⟨⟨rfl, by rw [iL_len, iL_len, sortI_len]⟩, rfl⟩
      · conv => whnf
        exact ⟨by decide, rfl⟩
theorem c_pdqI (hI : C_insI P N) (hf : isFn P N.slices_pdqsortOrdered_int64 (ir_slices_pdqsortOrdered_int64 N) = true) : C_pdqI P N := by
  intro L k hL
  have hI' := hI hL
  have hlen : (iL L).length = L.length := iL_len ..
  refine can_ofM hf rfl rfl ?_
  (repeat' (conv => whnf)<;>first|exact True.intro|(refine if_ ?_ ?_<;>intro h<;>first|exact h.elim|(exfalso; omega)|skip)|refine vs_ ?_|refine dv_ ?_|exact fin_|(show ∃ _, _ ∧ _; refine ex_ ?_)|(show ∃ _ _, _ ∧ _; refine ex2_ ?_))
  conv => whnf
  refine vc_loop (α := Nat) 0 (fun i => i) (fun i => i = 0) [] (fun i => [(0, .row 0 1), (1, .d (.int .i64 0)), (2, .d (.int .i64 L.length))]) (fun i => [(0, .data 1 (iL L))]) lp_ ?_ ?_
  · (repeat' (conv => whnf)<;>first|exact True.intro|(refine if_ ?_ ?_<;>intro h<;>first|exact h.elim|(exfalso; omega)|skip)|refine vs_ ?_|refine dv_ ?_|exact fin_|(show ∃ _, _ ∧ _; refine ex_ ?_)|(show ∃ _ _, _ ∧ _; refine ex2_ ?_))
  · intro i hi
    (repeat' (conv => whnf)<;>first|exact True.intro|(refine if_ ?_ ?_<;>intro h<;>first|exact h.elim|(exfalso; omega)|skip)|refine vs_ ?_|refine dv_ ?_|exact fin_|(show ∃ _, _ ∧ _; refine ex_ ?_ (by first|with_reducible exact rfl|exact hI'|exact rd_))|(show ∃ _ _, _ ∧ _; refine ex2_ ?_ (by first|with_reducible exact rfl|exact hI'|exact rd_)))
    conv => whnf
    refine ⟨?_, ?_⟩
    · conv => whnf
      exact ⟨⟨rfl, by rw [iL_len, iL_len, sortI_len]⟩, rfl⟩
    · conv => whnf
      exact ⟨by decide, rfl⟩
theorem c_SortI (hS : C_pdqI P N) (hN : C_Len P N) (hf : isFn P N.slices_Sort_Lint64_int64 (ir_slices_Sort_Lint64_int64 N) = true) : C_SortI P N := by
  intro L hL
  have hlen : (iL L).length = L.length := iL_len ..
  have hN' := hN (x := L.length) hL
  have hS' := hS (k := lenB L.length) hL
  refine can_ofM hf rfl rfl ?_
  conv => whnf
  refine wk_u64 (by rw [hlen]; omega) ?_
  rw [hlen]
  (repeat' (conv => whnf)<;>first|exact True.intro|(refine if_ ?_ ?_<;>intro h<;>first|exact h.elim|(exfalso; omega)|skip)|refine vs_ ?_|refine dv_ ?_|exact fin_|(show ∃ _, _ ∧ _; refine ex_ ?_ (by first|with_reducible exact rfl|exact hN'|exact hS'|exact rd_))|(show ∃ _ _, _ ∧ _; refine ex2_ ?_ (by first|with_reducible exact rfl|exact hN'|exact hS'|exact rd_)))
  conv => whnf
  refine ⟨?_, ?_⟩
  · conv => whnf
    exact ⟨⟨rfl, by rw [iL_len, sortI_len]⟩, rfl⟩
  · conv => whnf
    exact ⟨by decide, rfl⟩
end Go.X
namespace Go.X
open Go Go.RowKit
set_option maxRecDepth 100000
set_option maxHeartbeats 8000000
set_option linter.unusedVariables false
variable {P : Program} {N : FN}
def cmpF (L : List Int) (m : Nat) : List Int := compI (L.take m) ++ L.drop (compI (L.take m)).length
theorem cmpF_len {L : List Int} {m : Nat} : (cmpF L m).length = L.length := by
  have := compI_len (L.take m)
  have h2 : (L.take m).length ≤ L.length := by rw [List.length_take]; omega
  unfold cmpF
  rw [List.length_append, List.length_drop]; omega
theorem cmpF_at {L : List Int} {m q : Nat} (h : (compI (L.take m)).length ≤ q) : (cmpF L m).getD q 0 = L.getD q 0 := by
  unfold cmpF
  rw [gI_right h, gI_drop]
  congr 1; omega
theorem q_len {a b : Nat} (h : a = b) : AV.d (D.int .i64 ((a : Nat) : Int)) = AV.d (D.int .i64 ((b : Nat) : Int)) := by rw [h]
theorem q_len2 {a b : Nat} (h : a + 1 = b) : AV.d (D.int .i64 (((a : Nat) : Int) + 1)) = AV.d (D.int .i64 ((b : Nat) : Int)) := by rw [← h]; rfl
theorem q_sub {L : List Int} {q : Nat} (h : (iL L).length = L.length) : AV.sub 0 1 ((q : Nat) : Int).toNat ((((iL L).length : Nat) : Int).toNat - ((q : Nat) : Int).toNat) = AV.sub 0 1 q (L.length - q) := by rw [h, Int.toNat_natCast, Int.toNat_natCast]
theorem c_CompI (hf : isFn P N.slices_Compact_Lint64_int64 (ir_slices_Compact_Lint64_int64 N) = true) : C_CompI P N := by
  intro L hl
  have hil : (iL L).length = L.length := iL_len ..
  refine can_ofM hf rfl rfl ?_
  by_cases h2 : L.length < 2
  · rw [compI_one (by omega)]
    (repeat' (conv => whnf)<;>first|exact True.intro|(refine if_ ?_ ?_<;>intro h<;>first|exact h.elim|(exfalso; omega)|skip)|refine vs_ ?_|refine dv_ ?_|exact fin_|(show ∃ _, _ ∧ _; refine ex_ ?_)|(show ∃ _ _, _ ∧ _; refine ex2_ ?_))
    conv => whnf
    refine ⟨trivial, ?_⟩
    conv => whnf
    exact ⟨⟨rfl, rfl, .inl rfl⟩, rfl⟩
  · (repeat' (conv => whnf)<;>first|exact True.intro|(refine if_ ?_ ?_<;>intro h<;>first|exact h.elim|(exfalso; omega)|skip)|refine vs_ ?_|refine dv_ ?_|exact fin_|(show ∃ _, _ ∧ _; refine ex_ ?_)|(show ∃ _ _, _ ∧ _; refine ex2_ ?_))
    conv => whnf
    refine vc_loop (α := Nat) 1 (fun k => L.length - k) (fun k => (1 ≤ k ∧ k ≤ L.length) ∧ (k = 1 ∨ compI (L.take k) = L.take k)) [] (fun k => [(0, .row 0 1), (3, .d (.int .i64 k))]) (fun k => [(0, .data 1 (iL L))]) lp_ ?_ ?_
    · (repeat' (conv => whnf)<;>first|exact True.intro|(refine if_ ?_ ?_<;>intro h<;>first|exact h.elim|(exfalso; omega)|skip)|refine vs_ ?_|refine dv_ ?_|exact fin_|(show ∃ _, _ ∧ _; refine ex_ ?_)|(show ∃ _ _, _ ∧ _; refine ex2_ ?_))
    · rintro k ⟨⟨hk1, hk2⟩, hk⟩
      have hk : compI (L.take k) = L.take k := hk.elim (fun e => by rw [e]; exact compI_one (by rw [List.length_take]; omega)) id
      by_cases hlt : k < L.length
      · obtain ⟨q, rfl⟩ : ∃ q, k = q + 1 := ⟨k - 1, by omega⟩
        have ht := compI_take (L := L) (m := q) hlt
        by_cases c : L.getD (q + 1) 0 = L.getD q 0
        · rw [if_pos c, hk] at ht
          have htl : (compI (L.take (q + 1 + 1))).length = q + 1 := by rw [ht, List.length_take]; omega
          have e0 : L = cmpF L (q + 1 + 1) := by
            unfold cmpF
            rw [htl, ht, List.take_append_drop]
          (repeat' (conv => whnf)<;>first|exact True.intro|(refine if_ ?_ ?_<;>intro h<;>first|exact h.elim|(exfalso; omega)|skip)|refine vs_ ?_|refine dv_ ?_|exact fin_|(show ∃ _, _ ∧ _; refine ex_ ?_ (by first|with_reducible exact rfl|with_reducible exact get2_iL hlt rfl|with_reducible exact get2_iLp (by omega) rfl|exact rd_))|(show ∃ _ _, _ ∧ _; refine ex2_ ?_ (by first|with_reducible exact rfl|with_reducible exact get2_iL hlt rfl|with_reducible exact get2_iLp (by omega) rfl|exact rd_)))
          conv => whnf
          refine vc_loop (α := Nat) 1 (fun j => L.length - j) (fun j => (1 ≤ j ∧ q + 1 + j ≤ L.length) ∧ (compI (L.take (q + 1 + j))).length + 1 ≤ q + 1 + j) [] (fun j => [(0, .row 0 1), (3, .d (.int .i64 ((compI (L.take (q + 1 + j))).length : Nat))), (4, .sub 0 1 (q + 1) (L.length - (q + 1))), (5, .d (.int .i64 j))]) (fun j => [(0, .data 1 (iL (cmpF L (q + 1 + j))))]) lp_ ?_ ?_
          · (repeat' (conv => whnf)<;>first|exact True.intro|(refine if_ ?_ ?_<;>intro h<;>first|exact h.elim|(exfalso; omega)|skip)|refine vs_ ?_ (by first|exact q_len htl.symm | exact q_sub hil | exact congrArg (fun x => Chunk.data 1 (iL x)) e0|exact sd_)|refine dv_ ?_|exact fin_|(show ∃ _, _ ∧ _; refine ex_ ?_)|(show ∃ _ _, _ ∧ _; refine ex2_ ?_))
          · rintro j ⟨⟨hj1, hj2⟩, hle⟩
            have hml : (cmpF L (q + 1 + j)).length = L.length := cmpF_len
            have hil2 : (iL (cmpF L (q + 1 + j))).length = L.length := by rw [iL_len, hml]
            by_cases hlt2 : q + 1 + j < L.length
            · obtain ⟨r, rfl⟩ : ∃ r, j = r + 1 := ⟨j - 1, by omega⟩
              have hj3 : r + 1 < L.length - (q + 1) := by omega
              have ht2 := compI_take (L := L) (m := q + 1 + r) (by omega)
              have r1 : get2 (iL (cmpF L (q + 1 + (r + 1)))) (q + 1 + ((r + 1 : Nat) : Int).toNat) 0 = some (.int .i64 (L.getD (q + 1 + r + 1) 0)) := get2_iL (i := q + 1 + (r + 1)) (by omega) (cmpF_at (by omega))
              have r2 : get2 (iL (cmpF L (q + 1 + (r + 1)))) (q + 1 + (((r + 1 : Nat) : Int) - 1).toNat) 0 = some (.int .i64 (L.getD (q + 1 + r) 0)) := by
                rw [show (((r + 1 : Nat) : Int) - 1).toNat = r by omega]
                exact get2_iL (i := q + 1 + r) (by omega) (cmpF_at (by omega))
              by_cases c2 : L.getD (q + 1 + r + 1) 0 = L.getD (q + 1 + r) 0
              · rw [if_pos c2] at ht2
                have ht3 : compI (L.take (q + 1 + (r + 2))) = compI (L.take (q + 1 + (r + 1))) := ht2
                have hF : cmpF L (q + 1 + (r + 2)) = cmpF L (q + 1 + (r + 1)) := by unfold cmpF; rw [ht3]
                (repeat' (conv => whnf)<;>first|exact True.intro|(refine if_ ?_ ?_<;>intro h<;>first|exact h.elim|(exfalso; omega)|skip)|refine vs_ ?_|refine dv_ ?_|exact fin_|(show ∃ _, _ ∧ _; refine ex_ ?_ (by first|with_reducible exact rfl|with_reducible exact r1|with_reducible exact r2|exact rd_))|(show ∃ _ _, _ ∧ _; refine ex2_ ?_ (by first|with_reducible exact rfl|with_reducible exact r1|with_reducible exact r2|exact rd_)))
                conv => whnf
                refine ⟨r + 1 + 1, ⟨⟨by omega, by omega⟩, by rw [ht3]; omega⟩, by omega, ?_⟩
                rw [hF, ht3]
                (repeat' (conv => whnf)<;>first|exact True.intro|(refine if_ ?_ ?_<;>intro h<;>first|exact h.elim|(exfalso; omega)|skip)|refine vs_ ?_|refine dv_ ?_|exact fin_|(show ∃ _, _ ∧ _; refine ex_ ?_)|(show ∃ _ _, _ ∧ _; refine ex2_ ?_))
              · rw [if_neg c2] at ht2
                have ht3 : compI (L.take (q + 1 + (r + 2))) = compI (L.take (q + 1 + (r + 1))) ++ [L.getD (q + 1 + r + 1) 0] := ht2
                have hln : (compI (L.take (q + 1 + (r + 1)))).length + 1 = (compI (L.take (q + 1 + (r + 2)))).length := by rw [ht3, List.length_append]; rfl
                have hF : (cmpF L (q + 1 + (r + 1))).set (compI (L.take (q + 1 + (r + 1)))).length (L.getD (q + 1 + r + 1) 0) = cmpF L (q + 1 + (r + 2)) := by
                  unfold cmpF
                  rw [set_end (by omega), ht3, List.length_append]; rfl
                have r3 := get_iL (L := cmpF L (q + 1 + (r + 1))) (i := (compI (L.take (q + 1 + (r + 1)))).length) (by omega) rfl
                (repeat' (conv => whnf)<;>first|exact True.intro|(refine if_ ?_ ?_<;>intro h<;>first|exact h.elim|(exfalso; omega)|skip)|refine vs_ ?_|refine dv_ ?_|exact fin_|(show ∃ _, _ ∧ _; refine ex_ ?_ (by first|with_reducible exact rfl|with_reducible exact r1|with_reducible exact r2|with_reducible exact r3|exact rd_))|(show ∃ _ _, _ ∧ _; refine ex2_ ?_ (by first|with_reducible exact rfl|with_reducible exact r1|with_reducible exact r2|with_reducible exact r3|exact rd_)))
                conv => whnf
                refine ⟨r + 1 + 1, ⟨⟨by omega, by omega⟩, by rw [show q + 1 + (r + 1 + 1) = q + 1 + (r + 2) from rfl, ← hln]; omega⟩, by omega, ?_⟩
                (repeat' (conv => whnf)<;>first|exact True.intro|(refine if_ ?_ ?_<;>intro h<;>first|exact h.elim|(exfalso; omega)|skip)|refine vs_ ?_ (by first|exact q_len2 hln | exact congrArg (Chunk.data 1) ((iL_set rfl).trans (congrArg iL hF))|exact sd_)|refine dv_ ?_|exact fin_|(show ∃ _, _ ∧ _; refine ex_ ?_)|(show ∃ _ _, _ ∧ _; refine ex2_ ?_))
            · have hj : q + 1 + j = L.length := by omega
              have hcl : compI (L.take (q + 1 + j)) = compI L := by rw [hj, List.take_length]
              have hF : cmpF L (q + 1 + j) = compI L ++ L.drop (compI L).length := by unfold cmpF; rw [hcl]
              rw [hcl] at hle ⊢
              rw [hF] at hil2 ⊢
              have hlc : ((compI L).length : Nat) < L.length := by omega
              (repeat' (conv => whnf)<;>first|exact True.intro|(refine if_ ?_ ?_<;>intro h<;>first|exact h.elim|(exfalso; omega)|skip)|refine vs_ ?_|refine dv_ ?_|exact fin_|(show ∃ _, _ ∧ _; refine ex_ ?_)|(show ∃ _ _, _ ∧ _; refine ex2_ ?_))
              · conv => whnf
                refine ⟨trivial, ?_⟩
                conv => whnf
                refine ⟨⟨rfl, rfl, rfl, rfl, rfl, ?_⟩, ?_⟩
                · rw [List.length_append, List.length_take]; omega
                · have e : ((((compI L).length : Nat) : Int).toNat - Int.toNat 0) = (iL (compI L)).length := by rw [iL_len]; omega
                  have e2 : (iL (compI L ++ L.drop (compI L).length)).take (((compI L).length : Nat) : Int).toNat = iL (compI L) := by
                    rw [Int.toNat_natCast, ← iL_len]
                    unfold iL
                    rw [List.map_append, List.take_left]
                  rw [e, e2, List.take_left]
              · exfalso
                rw [List.length_replicate] at h
                omega
        · (repeat' (conv => whnf)<;>first|exact True.intro|(refine if_ ?_ ?_<;>intro h<;>first|exact h.elim|(exfalso; omega)|skip)|refine vs_ ?_|refine dv_ ?_|exact fin_|(show ∃ _, _ ∧ _; refine ex_ ?_ (by first|with_reducible exact rfl|with_reducible exact get2_iL hlt rfl|with_reducible exact get2_iLp (by omega) rfl|exact rd_))|(show ∃ _ _, _ ∧ _; refine ex2_ ?_ (by first|with_reducible exact rfl|with_reducible exact get2_iL hlt rfl|with_reducible exact get2_iLp (by omega) rfl|exact rd_)))
          conv => whnf
          refine ⟨q + 1 + 1, ⟨⟨by omega, by omega⟩, .inr ?_⟩, by omega, ?_⟩
          · rw [ht, if_neg c, hk, ← takeI hlt]
          · (repeat' (conv => whnf)<;>first|exact True.intro|(refine if_ ?_ ?_<;>intro h<;>first|exact h.elim|(exfalso; omega)|skip)|refine vs_ ?_|refine dv_ ?_|exact fin_|(show ∃ _, _ ∧ _; refine ex_ ?_)|(show ∃ _ _, _ ∧ _; refine ex2_ ?_))
      · have : k = L.length := by omega
        subst this
        rw [List.take_length] at hk
        rw [hk]
        (repeat' (conv => whnf)<;>first|exact True.intro|(refine if_ ?_ ?_<;>intro h<;>first|exact h.elim|(exfalso; omega)|skip)|refine vs_ ?_|refine dv_ ?_|exact fin_|(show ∃ _, _ ∧ _; refine ex_ ?_)|(show ∃ _ _, _ ∧ _; refine ex2_ ?_))
        conv => whnf
        refine ⟨trivial, ?_⟩
        conv => whnf
        exact ⟨⟨rfl, rfl, .inl rfl⟩, rfl⟩
end Go.X
