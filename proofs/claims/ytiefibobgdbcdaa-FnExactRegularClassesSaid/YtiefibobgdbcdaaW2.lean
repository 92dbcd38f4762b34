import Derived.Test.YtiefibobgdbcdaaM1
import Derived.Test.YtiefibobgdbcdaaK3
set_option linter.all false
namespace Go.X
open Go Go.RowKit
set_option maxRecDepth 100000
set_option maxHeartbeats 8000000
set_option linter.unusedSimpArgs false
set_option linter.unusedVariables false
variable {P : Program} {N : FN}
def C_id (P : Program) (f : FuncId) (m : Nat) : Prop := ∀ {g : Nat → Int}, Can P f [.agg (cel .u8 m g)] (.val (.agg (cel .u8 m g)))
theorem rd_blk {k : IntKind} {m n i : Nat} {g : Nat → Int} (h : i * n + n ≤ m) : sub2 [cel k m g] 0 (0 + ((i : Nat) : Int).toNat * n) n = some (cel k n fun q => g (i * n + q)) := by
  simp only [sub2, List.getElem?_cons_zero, Option.bind_some, Nat.zero_add, Int.toNat_natCast]
  exact arr_cut h
theorem st_blk {k : IntKind} {m n i z : Nat} {g : Nat → Int} (h : i * n + n ≤ m) :
    Chunk.data z ([cel k m (prog (i * n) g Z)].set 0 (splice (cel k m (prog (i * n) g Z)) (0 + ((i : Nat) : Int).toNat * n) (cel k n fun q => g (i * n + q)))) = .data z [cel k m (prog ((i + 1) * n) g Z)] := by
  simp only [Nat.zero_add, Int.toNat_natCast, List.set_cons_zero]
  congr 2
  refine (arr_splice h).trans (arr_ext fun q hq => ?_)
  have e : (i + 1) * n = i * n + n := by rw [Nat.add_mul, Nat.one_mul]
  unfold prog
  rw [e]
  by_cases c : i * n ≤ q ∧ q < i * n + n
  · rw [if_pos c, if_pos c.2]
    show D.int k (g (i * n + (q - i * n))) = _
    rw [show i * n + (q - i * n) = q by omega]
  · rw [if_neg c]
    by_cases c2 : q < i * n
    · rw [if_pos c2, if_pos (by omega)]
    · rw [if_neg c2, if_neg (by omega)]
theorem st_zer {m n z : Nat} {g : Nat → Int} : Chunk.data z [List.replicate m (.int .u8 0)] = .data z [cel .u8 m (prog (0 * n) g Z)] := by
  rw [Nat.zero_mul, prog_zero, arr_replicate]; rfl
theorem c_toByteA6 (hf : isFn P N.laws_toByteA6 (ir_laws_toByteA6 N) = true) : C_id P N.laws_toByteA6 6 := by
  intro v
  refine can_of hf rfl rfl ?_
  (repeat' (conv => whnf)<;>first|exact True.intro|(refine if_ ?_ ?_<;>intro h<;>first|exact h.elim|(exfalso; omega)|skip)|refine vs_ ?_|refine dv_ ?_|exact fin_|(show ∃ _, _ ∧ _; refine ex_ ?_)|(show ∃ _ _, _ ∧ _; refine ex2_ ?_))
  conv => whnf
  refine vc_loop (α := Nat) 0 (fun i => 6 - i) (fun i => i ≤ 6) [] (fun i => [(4, .d (.int .i64 i))]) (fun i => [(4, .data 6 [cel .u8 6 (prog i v Z)])]) lp_ ?_ ?_
  · (repeat' (conv => whnf)<;>first|exact True.intro|(refine if_ ?_ ?_<;>intro h<;>first|exact h.elim|(exfalso; omega)|skip)|refine vs_ ?_ (by first|exact zeros6 (fun i _ => by rw [prog_zero]; rfl)|exact sd_)|refine dv_ ?_|exact fin_|(show ∃ _, _ ∧ _; refine ex_ ?_)|(show ∃ _ _, _ ∧ _; refine ex2_ ?_))
  · intro i hi
    by_cases hlt : i < 6
    · (repeat' (conv => whnf)<;>first|exact True.intro|(refine if_ ?_ ?_<;>intro h<;>first|exact h.elim|(exfalso; omega)|skip)|refine vs_ ?_|refine dv_ ?_|exact fin_|(show ∃ _, _ ∧ _; refine ex_ ?_)|(show ∃ _ _, _ ∧ _; refine ex2_ ?_))
      conv => whnf
      refine ⟨i + 1, by omega, by omega, ?_⟩
      (repeat' (conv => whnf)<;>first|exact True.intro|(refine if_ ?_ ?_<;>intro h<;>first|exact h.elim|(exfalso; omega)|skip)|refine vs_ ?_|refine dv_ ?_|exact fin_|(show ∃ _, _ ∧ _; refine ex_ ?_)|(show ∃ _ _, _ ∧ _; refine ex2_ ?_))
    · have : i = 6 := by omega
      rw [this]
      (repeat' (conv => whnf)<;>first|exact True.intro|(refine if_ ?_ ?_<;>intro h<;>first|exact h.elim|(exfalso; omega)|skip)|refine vs_ ?_|refine dv_ ?_|exact fin_|(show ∃ _, _ ∧ _; refine ex_ ?_)|(show ∃ _ _, _ ∧ _; refine ex2_ ?_))
theorem c_toByteA6A6 (hV : C_id P N.laws_toByteA6 6) (hf : isFn P N.laws_toByteA6A6 (ir_laws_toByteA6A6 N) = true) : C_id P N.laws_toByteA6A6 36 := by
  intro v
  refine can_of hf rfl rfl ?_
  (repeat' (conv => whnf)<;>first|exact True.intro|(refine if_ ?_ ?_<;>intro h<;>first|exact h.elim|(exfalso; omega)|skip)|refine vs_ ?_|refine dv_ ?_|exact fin_|(show ∃ _, _ ∧ _; refine ex_ ?_)|(show ∃ _ _, _ ∧ _; refine ex2_ ?_))
  conv => whnf
  refine vc_loop (α := Nat) 0 (fun i => 6 - i) (fun i => i ≤ 6) [] (fun i => [(4, .d (.int .i64 i))]) (fun i => [(4, .data 36 [cel .u8 36 (prog (i * 6) v Z)])]) lp_ ?_ ?_
  · (repeat' (conv => whnf)<;>first|exact True.intro|(refine if_ ?_ ?_<;>intro h<;>first|exact h.elim|(exfalso; omega)|skip)|refine vs_ ?_ (by first|exact st_zer|exact sd_)|refine dv_ ?_|exact fin_|(show ∃ _, _ ∧ _; refine ex_ ?_)|(show ∃ _ _, _ ∧ _; refine ex2_ ?_))
  · intro i hi
    by_cases hlt : i < 6
    · (repeat' (conv => whnf)<;>first|exact True.intro|(refine if_ ?_ ?_<;>intro h<;>first|exact h.elim|(exfalso; omega)|skip)|refine vs_ ?_|refine dv_ ?_|exact fin_|(show ∃ _, _ ∧ _; refine ex_ ?_ (by first|with_reducible exact rfl|exact rd_blk (by omega)|exact hV|exact rd_))|(show ∃ _ _, _ ∧ _; refine ex2_ ?_ (by first|with_reducible exact rfl|exact rd_blk (by omega)|exact hV|exact rd_)))
      conv => whnf
      refine ⟨i + 1, by omega, by omega, ?_⟩
      (repeat' (conv => whnf)<;>first|exact True.intro|(refine if_ ?_ ?_<;>intro h<;>first|exact h.elim|(exfalso; omega)|skip)|refine vs_ ?_ (by first|exact st_blk (by omega)|exact sd_)|refine dv_ ?_|exact fin_|(show ∃ _, _ ∧ _; refine ex_ ?_)|(show ∃ _ _, _ ∧ _; refine ex2_ ?_))
    · have : i = 6 := by omega
      rw [this]
      (repeat' (conv => whnf)<;>first|exact True.intro|(refine if_ ?_ ?_<;>intro h<;>first|exact h.elim|(exfalso; omega)|skip)|refine vs_ ?_|refine dv_ ?_|exact fin_|(show ∃ _, _ ∧ _; refine ex_ ?_)|(show ∃ _ _, _ ∧ _; refine ex2_ ?_))
end Go.X
