import Derived.Test.YtphelkciklpakaaK18
import Derived.Test.YtphelkciklpakaaK16
import Derived.Test.YtphelkciklpakaaM1
set_option linter.all false
namespace Go.X
open Go Go.RowKit
set_option maxRecDepth 100000
set_option maxHeartbeats 8000000
set_option linter.unusedVariables false
variable {P : Program} {N : FN}
def C_Mul (P : Program) (N : FN) : Prop := ∀ {a : Alg} {v w : Row}, AlgIn a → Byts v → Byts w → Can P N.impl_MultiplyVectors [algD a, vecD v, vecD w] (mulR a v w (dB (IsAlgP a ∧ AllSm a 2 (twoV v w))))
def C_sMul (P : Program) (N : FN) : Prop := ∀ {a : Alg} {v w : Row}, SAlgIn a → Byts v → Byts w → Can P N.spec_MultiplyVectors [algD a, vecD v, vecD w] (mulR a v w (dB (sAlgP a ∧ AllSm a 2 (twoV v w))))
def C_FormOf (P : Program) (N : FN) : Prop := ∀ {a : Alg} {v : Row}, AlgIn a → Byts v → Can P N.impl_FormOf [algD a, vecD v] (formR a v (dB (IsAlgP a ∧ AllSm a 1 fun _ => v)))
def C_sFormOf (P : Program) (N : FN) : Prop := ∀ {a : Alg} {v : Row}, SAlgIn a → Byts v → Can P N.spec_FormOf [algD a, vecD v] (formR a v (dB (sAlgP a ∧ AllSm a 1 fun _ => v)))
theorem spl_z (v : Row) : splice (vecL Z) 0 (cel .u8 6 v) = vecL v := splice_whole (by rw [cel_len, cel_len])
theorem c_FormOf (hV : C_validL P N) (hF : C_form P N) (hf : isFn P N.impl_FormOf (ir_impl_FormOf N) = true) : C_FormOf P N := by
  intro a v hi hv
  have hal := (algAt_one a).all
  have hV' : Can P N.impl_valid [algD a, .lst 6 [vecL v]] _ := hV (q := 1) (s := fun _ => v) hi (by omega) (fun _ => hv)
  by_cases g : IsAlgP a ∧ AllSm a 1 fun _ => v
  · rw [dB_t g] at hV' ⊢
    have ha := hi.alg g.1
    have hp := prime_bd ha.p
    have hF' := hF (sz := (algL a).length) (algAt_one a) ha.b hv (by omega)
    rw [if_pos rfl] at hV'
    refine can_of hf rfl rfl ?_
    (repeat' (conv => whnf)<;>first|exact True.intro|(refine if_ ?_ ?_<;>intro h<;>first|exact h.elim|(exfalso; omega)|skip)|refine vs_ ?_|refine dv_ ?_|exact fin_|(show ∃ _, _ ∧ _; refine ex_ ?_ (by first|with_reducible exact rfl|with_reducible exact hal|exact hV'|exact hF'|exact rd_))|(show ∃ _ _, _ ∧ _; refine ex2_ ?_ (by first|with_reducible exact rfl|with_reducible exact hal|exact hV'|exact hF'|exact rd_)))
  · rw [dB_f g] at hV' ⊢
    rw [if_neg (by decide)] at hV'
    refine can_of hf rfl rfl ?_
    (repeat' (conv => whnf)<;>first|exact True.intro|(refine if_ ?_ ?_<;>intro h<;>first|exact h.elim|(exfalso; omega)|skip)|refine vs_ ?_|refine dv_ ?_|exact fin_|(show ∃ _, _ ∧ _; refine ex_ ?_ (by first|with_reducible exact rfl|with_reducible exact hal|exact hV'|exact rd_))|(show ∃ _ _, _ ∧ _; refine ex2_ ?_ (by first|with_reducible exact rfl|with_reducible exact hal|exact hV'|exact rd_)))
theorem c_sFormOf (hV : C_sCodeL P N) (hF : C_sForm P N) (hf : isFn P N.spec_FormOf (ir_spec_FormOf N) = true) : C_sFormOf P N := by
  intro a v hi hv
  have hal := (algAt_one a).all
  have hV' : Can P N.spec_l01Code [algD a, .lst 6 [vecL v]] _ := hV (q := 1) (s := fun _ => v) hi (by omega) (fun _ => hv)
  by_cases g : sAlgP a ∧ AllSm a 1 fun _ => v
  · rw [dB_t g] at hV' ⊢
    have ha := hi.ok g.1.1
    have hp := prime_bd ha.p
    have hF' := hF ha.b hv (by omega)
    rw [if_pos rfl] at hV'
    refine can_of hf rfl rfl ?_
    (repeat' (conv => whnf)<;>first|exact True.intro|(refine if_ ?_ ?_<;>intro h<;>first|exact h.elim|(exfalso; omega)|skip)|refine vs_ ?_|refine dv_ ?_|exact fin_|(show ∃ _, _ ∧ _; refine ex_ ?_ (by first|with_reducible exact rfl|with_reducible exact hal|exact hV'|exact hF'|exact rd_))|(show ∃ _ _, _ ∧ _; refine ex2_ ?_ (by first|with_reducible exact rfl|with_reducible exact hal|exact hV'|exact hF'|exact rd_)))
  · rw [dB_f g] at hV' ⊢
    rw [if_neg (by decide)] at hV'
    refine can_of hf rfl rfl ?_
    (repeat' (conv => whnf)<;>first|exact True.intro|(refine if_ ?_ ?_<;>intro h<;>first|exact h.elim|(exfalso; omega)|skip)|refine vs_ ?_|refine dv_ ?_|exact fin_|(show ∃ _, _ ∧ _; refine ex_ ?_ (by first|with_reducible exact rfl|with_reducible exact hal|exact hV'|exact rd_))|(show ∃ _ _, _ ∧ _; refine ex2_ ?_ (by first|with_reducible exact rfl|with_reducible exact hal|exact hV'|exact rd_)))
theorem c_Mul (hV : C_validL P N) (hT : C_times P N) (hf : isFn P N.impl_MultiplyVectors (ir_impl_MultiplyVectors N) = true) : C_Mul P N := by
  intro a v w hi hv hw
  have hal := (algAt_one a).all
  have hV' : Can P N.impl_valid [algD a, .lst 6 [vecL v, vecL w]] _ := hV (q := 2) (s := twoV v w) hi (by omega) (twoV_byt hv hw)
  by_cases g : IsAlgP a ∧ AllSm a 2 (twoV v w)
  · rw [dB_t g] at hV' ⊢
    have ha := hi.alg g.1
    have hp := prime_bd ha.p
    have hn := ha.n
    have hT' := hT (sz := (algL a).length) (algAt_one a) ha.b hv hw (by omega) (by omega)
    rw [if_pos rfl] at hV'
    refine can_of hf rfl rfl ?_
    (repeat' (conv => whnf)<;>first|exact True.intro|(refine if_ ?_ ?_<;>intro h<;>first|exact h.elim|(exfalso; omega)|skip)|refine vs_ ?_|refine dv_ ?_|exact fin_|(show ∃ _, _ ∧ _; refine ex_ ?_ (by first|with_reducible exact rfl|with_reducible exact hal|exact hV'|exact hT'|exact rd_))|(show ∃ _ _, _ ∧ _; refine ex2_ ?_ (by first|with_reducible exact rfl|with_reducible exact hal|exact hV'|exact hT'|exact rd_)))
    all_goals (rw [show splice (vecL Z) 0 (cel .u8 6 (timesV a v w)) = vecL (timesV a v w) from spl_z _]; (repeat' (conv => whnf)<;>first|exact True.intro|(refine if_ ?_ ?_<;>intro h<;>first|exact h.elim|(exfalso; omega)|skip)|refine vs_ ?_|refine dv_ ?_|exact fin_|(show ∃ _, _ ∧ _; refine ex_ ?_)|(show ∃ _ _, _ ∧ _; refine ex2_ ?_)))
  · rw [dB_f g] at hV' ⊢
    rw [if_neg (by decide)] at hV'
    refine can_of hf rfl rfl ?_
    (repeat' (conv => whnf)<;>first|exact True.intro|(refine if_ ?_ ?_<;>intro h<;>first|exact h.elim|(exfalso; omega)|skip)|refine vs_ ?_|refine dv_ ?_|exact fin_|(show ∃ _, _ ∧ _; refine ex_ ?_ (by first|with_reducible exact rfl|with_reducible exact hal|exact hV'|exact rd_))|(show ∃ _ _, _ ∧ _; refine ex2_ ?_ (by first|with_reducible exact rfl|with_reducible exact hal|exact hV'|exact rd_)))
theorem c_sMul (hV : C_sCodeL P N) (hT : C_sTimes P N) (hf : isFn P N.spec_MultiplyVectors (ir_spec_MultiplyVectors N) = true) : C_sMul P N := by
  intro a v w hi hv hw
  have hal := (algAt_one a).all
  have hV' : Can P N.spec_l01Code [algD a, .lst 6 [vecL v, vecL w]] _ := hV (q := 2) (s := twoV v w) hi (by omega) (twoV_byt hv hw)
  by_cases g : sAlgP a ∧ AllSm a 2 (twoV v w)
  · rw [dB_t g] at hV' ⊢
    have ha := hi.ok g.1.1
    have hp := prime_bd ha.p
    have hn := ha.n
    have hT' := hT ha.b hv hw (by omega) (by omega)
    rw [if_pos rfl] at hV'
    refine can_of hf rfl rfl ?_
    (repeat' (conv => whnf)<;>first|exact True.intro|(refine if_ ?_ ?_<;>intro h<;>first|exact h.elim|(exfalso; omega)|skip)|refine vs_ ?_|refine dv_ ?_|exact fin_|(show ∃ _, _ ∧ _; refine ex_ ?_ (by first|with_reducible exact rfl|with_reducible exact hal|exact hV'|exact hT'|exact rd_))|(show ∃ _ _, _ ∧ _; refine ex2_ ?_ (by first|with_reducible exact rfl|with_reducible exact hal|exact hV'|exact hT'|exact rd_)))
    all_goals (rw [show splice (vecL Z) 0 (cel .u8 6 (timesV a v w)) = vecL (timesV a v w) from spl_z _]; (repeat' (conv => whnf)<;>first|exact True.intro|(refine if_ ?_ ?_<;>intro h<;>first|exact h.elim|(exfalso; omega)|skip)|refine vs_ ?_|refine dv_ ?_|exact fin_|(show ∃ _, _ ∧ _; refine ex_ ?_)|(show ∃ _ _, _ ∧ _; refine ex2_ ?_)))
  · rw [dB_f g] at hV' ⊢
    rw [if_neg (by decide)] at hV'
    refine can_of hf rfl rfl ?_
    (repeat' (conv => whnf)<;>first|exact True.intro|(refine if_ ?_ ?_<;>intro h<;>first|exact h.elim|(exfalso; omega)|skip)|refine vs_ ?_|refine dv_ ?_|exact fin_|(show ∃ _, _ ∧ _; refine ex_ ?_ (by first|with_reducible exact rfl|with_reducible exact hal|exact hV'|exact rd_))|(show ∃ _ _, _ ∧ _; refine ex2_ ?_ (by first|with_reducible exact rfl|with_reducible exact hal|exact hV'|exact rd_)))
end Go.X
namespace Go.X
open Go Go.RowKit
set_option maxRecDepth 100000
set_option maxHeartbeats 8000000
set_option linter.unusedVariables false
variable {P : Program} {N : FN}
theorem c_next (hf : isFn P N.spec_l01Next (ir_spec_l01Next N) = true) : C_next P N := by
  intro s n hs hn
  have h1 := hs.h
  have h2 := hN_bd s.h
  have h3 := hs.b s.pos
  have h4 := hs.a
  have h5 := hs.m
  have hl := nb_len s.f s.m
  have hX := nextX_bd hs
  by_cases c : n < 1
  · unfold nextT nextV
    rw [if_pos c, if_pos c]
    refine can_ofB hf rfl rfl rfl rfl ?_
    (repeat' (conv => whnf)<;>first|exact True.intro|(refine if_ ?_ ?_<;>intro h<;>first|exact h.elim|(exfalso; omega)|skip)|refine vs_ ?_|refine dv_ ?_|exact fin_|(show ∃ _, _ ∧ _; refine ex_ ?_)|(show ∃ _ _, _ ∧ _; refine ex2_ ?_))
  · unfold nextT nextV
    rw [if_neg c, if_neg c]
    refine can_ofB hf rfl rfl rfl rfl ?_
    have e : (s.h * 6364136223846793005 % 18446744073709551616 + 1442695040888963407) % 18446744073709551616 = hN s.h := by unfold hN; omega
    have ex : nextX s = hN s.h / 8589934592 % 16777216 + (if s.pos < s.m then s.f s.pos else 0) := rfl
    have es : srcL (nextS s) = [.lst 1 (nbL s.f s.m), .int .i64 ((if s.pos < s.m then s.pos + 1 else s.pos : Nat) : Int), .int .u64 (hN s.h)] := rfl
    by_cases c2 : s.pos < s.m
    · rw [if_pos c2] at ex es
      rw [show ((s.pos + 1 : Nat) : Int) = (s.pos : Int) + 1 from by omega] at es
      rw [es, ex]
      show CF.exB (Can P) _ 3 [[.lst 1 (nbL s.f s.m), .int .i64 (s.pos : Int), .int .u64 s.h]] _ _ _
      (repeat' (conv => whnf)<;>first|exact True.intro|(refine if_ ?_ ?_<;>intro h<;>first|exact h.elim|(exfalso; omega)|skip)|refine vs_ ?_|refine dv_ ?_|exact fin_|(show ∃ _, _ ∧ _; refine ex_ ?_)|(show ∃ _ _, _ ∧ _; refine ex2_ ?_))
      refine ar64_mul trivial ?_
      (repeat' (conv => whnf)<;>first|exact True.intro|(refine if_ ?_ ?_<;>intro h<;>first|exact h.elim|(exfalso; omega)|skip)|refine vs_ ?_|refine dv_ ?_|exact fin_|(show ∃ _, _ ∧ _; refine ex_ ?_)|(show ∃ _ _, _ ∧ _; refine ex2_ ?_))
      refine ar64_add trivial ?_
      rw [e]
      (repeat' (conv => whnf)<;>first|exact True.intro|(refine if_ ?_ ?_<;>intro h<;>first|exact h.elim|(exfalso; omega)|skip)|refine vs_ ?_|refine dv_ ?_|exact fin_|(show ∃ _, _ ∧ _; refine ex_ ?_)|(show ∃ _ _, _ ∧ _; refine ex2_ ?_))
      refine ar64_shr h2.1 ?_
      conv => whnf
      refine ⟨rfl, ar64_and (by omega) ?_⟩
      (repeat' (conv => whnf)<;>first|exact True.intro|(refine if_ ?_ ?_<;>intro h<;>first|exact h.elim|(exfalso; omega)|skip)|refine vs_ ?_ (by first|(simp only [List.length_set, List.length_cons, List.length_nil]; omega)|exact sd_)|refine dv_ ?_|exact fin_|(show ∃ _, _ ∧ _; refine ex_ ?_ (by first|with_reducible exact rfl|with_reducible exact nb_get c2|exact rd_))|(show ∃ _ _, _ ∧ _; refine ex2_ ?_ (by first|with_reducible exact rfl|with_reducible exact nb_get c2|exact rd_)))
    · rw [if_neg c2] at ex es
      rw [Int.add_zero] at ex
      rw [es, ex]
      show CF.exB (Can P) _ 3 [[.lst 1 (nbL s.f s.m), .int .i64 (s.pos : Int), .int .u64 s.h]] _ _ _
      (repeat' (conv => whnf)<;>first|exact True.intro|(refine if_ ?_ ?_<;>intro h<;>first|exact h.elim|(exfalso; omega)|skip)|refine vs_ ?_|refine dv_ ?_|exact fin_|(show ∃ _, _ ∧ _; refine ex_ ?_)|(show ∃ _ _, _ ∧ _; refine ex2_ ?_))
      refine ar64_mul trivial ?_
      (repeat' (conv => whnf)<;>first|exact True.intro|(refine if_ ?_ ?_<;>intro h<;>first|exact h.elim|(exfalso; omega)|skip)|refine vs_ ?_|refine dv_ ?_|exact fin_|(show ∃ _, _ ∧ _; refine ex_ ?_)|(show ∃ _ _, _ ∧ _; refine ex2_ ?_))
      refine ar64_add trivial ?_
      rw [e]
      (repeat' (conv => whnf)<;>first|exact True.intro|(refine if_ ?_ ?_<;>intro h<;>first|exact h.elim|(exfalso; omega)|skip)|refine vs_ ?_|refine dv_ ?_|exact fin_|(show ∃ _, _ ∧ _; refine ex_ ?_)|(show ∃ _ _, _ ∧ _; refine ex2_ ?_))
      refine ar64_shr h2.1 ?_
      conv => whnf
      refine ⟨rfl, ar64_and (by omega) ?_⟩
      (repeat' (conv => whnf)<;>first|exact True.intro|(refine if_ ?_ ?_<;>intro h<;>first|exact h.elim|(exfalso; omega)|skip)|refine vs_ ?_|refine dv_ ?_|exact fin_|(show ∃ _, _ ∧ _; refine ex_ ?_)|(show ∃ _ _, _ ∧ _; refine ex2_ ?_))
end Go.X
