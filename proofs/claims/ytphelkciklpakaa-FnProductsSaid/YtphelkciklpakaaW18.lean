import Derived.Test.YtphelkciklpakaaW17
import Derived.Test.YtphelkciklpakaaW9
import Derived.Test.YtphelkciklpakaaW4
set_option linter.all false
namespace Go.X
open Go Go.RowKit
set_option maxRecDepth 100000
set_option maxHeartbeats 8000000
set_option linter.unusedVariables false
set_option linter.unusedSimpArgs false
variable {P : Program} {N : FN}
def C_bad (P : Program) (N : FN) : Prop := ∀ {s : Src} {a : Alg}, SrcOk s → AlgOk a → ∃ a' s', AlgRep a' ∧ (0 ≤ a'.p ∧ a'.p ≤ 255) ∧ (-1 ≤ a'.n ∧ a'.n ≤ 7) ∧ SrcOk s' ∧ Can P N.spec_l01Bad [algD a] (.postB 3 [srcL s] [srcL s'] (.val (algD a')))
theorem setP_rep {a : Alg} (h : AlgRep a) (p : Int) : AlgRep { a with p := p } := ⟨h.b, h.z, h.fz⟩
theorem setN_rep {a : Alg} (h : AlgRep a) (n : Int) : AlgRep { a with n := n } := ⟨h.b, h.z, h.fz⟩
theorem setZ_rep {a : Alg} (h : AlgRep a) : AlgRep { a with f := Z } := ⟨⟨h.b.1, fun _ => ⟨Int.le_refl _, by show (0 : Int) ≤ 255; decide⟩⟩, h.z, fun _ _ => rfl⟩
theorem L_setP0 {a : Alg} {x : Int} : (algL a).set (0 + 0) (.int .i64 x) = algL { a with p := x } := L_setP
theorem litF4 {x : Int} (h : 0 ≤ x ∧ x < ((4 : Nat) : Int)) (L : List Int) {Q : Int → Prop} (h0 : Q (litF L 0)) (h1 : Q (litF L 1)) (h2 : Q (litF L 2)) (h3 : Q (litF L 3)) : Q (litF L x.toNat) := by
  have h4 : ∀ i : Fin 4, Q (litF L i.val) := fun i => by
    match i with
    | 0 => exact h0
    | 1 => exact h1
    | 2 => exact h2
    | 3 => exact h3
  exact h4 ⟨x.toNat, by omega⟩
theorem c_bad (hNx : C_next P N) (hK : C_pick P N) (hf : isFn P N.spec_l01Bad (ir_spec_l01Bad N) = true) : C_bad P N := by
  intro s a hs ha
  have hpb := prime_bd ha.p
  have hn := ha.n
  have hr := ha.rep
  have f0 := (algAt_one a).p
  have f1 := (algAt_one a).n
  have fa := (algAt_one a).all
  have fall : ∀ a : Alg, sub2 [algL a] 0 0 224 = some (algL a) := fun a => (algAt_one a).all
  have hla : ∀ a : Alg, (algL a).length = 224 := fun a => arr_len ..
  have N0 := hNx (n := 40) hs (by omega)
  have b0 := nextV_bd (s := s) (n := 40) (by omega)
  have hs0 := nextT_ok hs 40
  generalize nextV s 40 = d at *
  generalize nextT s 40 = s0 at *
  by_cases d0 : d = 0
  · subst d0
    have b1 := nextV_bd (s := s0) (n := ((4 : Nat) : Int)) (by omega)
    have K1 := hK (m := 4) (f := litF [0, 4, 17, 3]) hs0 (by omega)
    rw [show rowD 4 (litF [0, 4, 17, 3]) = D.lst 1 [[.int .i64 0], [.int .i64 4], [.int .i64 17], [.int .i64 3]] from rfl] at K1
    refine ⟨{ a with p := litF [0, 4, 17, 3] (nextV s0 ((4 : Nat) : Int)).toNat }, _, setP_rep hr _, litF4 b1 [0, 4, 17, 3] (Q := fun x => 0 ≤ x ∧ x ≤ 255) (by decide) (by decide) (by decide) (by decide), by show -1 ≤ a.n ∧ a.n ≤ 7; omega, nextT_ok hs0 ((4 : Nat) : Int), ?_⟩
    refine can_ofB hf rfl rfl rfl rfl ?_
    (repeat' (conv => whnf)<;>first|exact True.intro|(refine if_ ?_ ?_<;>intro h<;>first|exact h.elim|(exfalso; omega)|skip)|refine vs_ ?_ (by first|(rw [hla]; omega)|exact sd_)|refine dv_ ?_|exact fin_|(show ∃ _, _ ∧ _; refine ex_ ?_ (by first|with_reducible exact rfl|with_reducible exact N0|exact K1|exact rd_))|(show ∃ _ _, _ ∧ _; refine ex2_ ?_ (by first|with_reducible exact rfl|with_reducible exact N0|exact K1|exact rd_)))
    all_goals (rw [L_setP0])
    all_goals ((repeat' (conv => whnf)<;>first|exact True.intro|(refine if_ ?_ ?_<;>intro h<;>first|exact h.elim|(exfalso; omega)|skip)|refine vs_ ?_|refine dv_ ?_|exact fin_|(show ∃ _, _ ∧ _; refine ex_ ?_ (by first|with_reducible exact rfl|exact fall _|exact rd_))|(show ∃ _ _, _ ∧ _; refine ex2_ ?_ (by first|with_reducible exact rfl|exact fall _|exact rd_))))
  by_cases d1 : d = 1
  · subst d1
    have b1 := nextV_bd (s := s0) (n := ((4 : Nat) : Int)) (by omega)
    have K1 := hK (m := 4) (f := litF [0, 7, -1, a.n - 1]) hs0 (by omega)
    rw [show rowD 4 (litF [0, 7, -1, a.n - 1]) = D.lst 1 [[.int .i64 0], [.int .i64 7], [.int .i64 (-1)], [.int .i64 (a.n - 1)]] from rfl] at K1
    refine ⟨{ a with n := litF [0, 7, -1, a.n - 1] (nextV s0 ((4 : Nat) : Int)).toNat }, _, setN_rep hr _, by show 0 ≤ a.p ∧ a.p ≤ 255; omega, litF4 b1 [0, 7, -1, a.n - 1] (Q := fun x => -1 ≤ x ∧ x ≤ 7) (by show -1 ≤ (0 : Int) ∧ (0 : Int) ≤ 7; decide) (by show -1 ≤ (7 : Int) ∧ (7 : Int) ≤ 7; decide) (by show -1 ≤ (-1 : Int) ∧ (-1 : Int) ≤ 7; decide) (by show -1 ≤ a.n - 1 ∧ a.n - 1 ≤ 7; omega), nextT_ok hs0 ((4 : Nat) : Int), ?_⟩
    refine can_ofB hf rfl rfl rfl rfl ?_
    (repeat' (conv => whnf)<;>first|exact True.intro|(refine if_ ?_ ?_<;>intro h<;>first|exact h.elim|(exfalso; omega)|skip)|refine vs_ ?_ (by first|(rw [hla]; omega)|exact sd_)|refine dv_ ?_|exact fin_|(show ∃ _, _ ∧ _; refine ex_ ?_ (by first|with_reducible exact rfl|with_reducible exact N0|with_reducible exact f1|exact K1|exact rd_))|(show ∃ _ _, _ ∧ _; refine ex2_ ?_ (by first|with_reducible exact rfl|with_reducible exact N0|with_reducible exact f1|exact K1|exact rd_)))
    all_goals (rw [L_setN])
    all_goals ((repeat' (conv => whnf)<;>first|exact True.intro|(refine if_ ?_ ?_<;>intro h<;>first|exact h.elim|(exfalso; omega)|skip)|refine vs_ ?_|refine dv_ ?_|exact fin_|(show ∃ _, _ ∧ _; refine ex_ ?_ (by first|with_reducible exact rfl|exact fall _|exact rd_))|(show ∃ _ _, _ ∧ _; refine ex2_ ?_ (by first|with_reducible exact rfl|exact fall _|exact rd_))))
  by_cases d2 : d = 2
  · subst d2
    have b1 := nextV_bd (s := s0) (n := 6) (by omega)
    have N1 := hNx (n := 6) hs0 (by omega)
    have hs1 := nextT_ok hs0 6
    generalize nextV s0 6 = i at *
    generalize nextT s0 6 = s1 at *
    have b2 := nextV_bd (s := s1) (n := 6) (by omega)
    have N2 := hNx (n := 6) hs1 (by omega)
    have hs2 := nextT_ok hs1 6
    generalize nextV s1 6 = j at *
    generalize nextT s1 6 = s2 at *
    have b3 := nextV_bd (s := s2) (n := 6) (by omega)
    have N3 := hNx (n := 6) hs2 (by omega)
    have hs3 := nextT_ok hs2 6
    generalize nextV s2 6 = k at *
    generalize nextT s2 6 = s3 at *
    have b4 := nextV_bd (s := s3) (n := 4) (by omega)
    have N4 := hNx (n := 4) hs3 (by omega)
    have hs4 := nextT_ok hs3 4
    generalize nextV s3 4 = x at *
    generalize nextT s3 4 = s4 at *
    refine ⟨setT a i.toNat j.toNat k.toNat x, s4, setT_rep hr (by omega) (by omega), by show 0 ≤ a.p ∧ a.p ≤ 255; omega, by show -1 ≤ a.n ∧ a.n ≤ 7; omega, hs4, ?_⟩
    refine can_ofB hf rfl rfl rfl rfl ?_
    (repeat' (conv => whnf)<;>first|exact True.intro|(refine if_ ?_ ?_<;>intro h<;>first|exact h.elim|(exfalso; omega)|skip)|refine vs_ ?_ (by first|(rw [hla]; omega)|exact sd_)|refine dv_ ?_|exact fin_|(show ∃ _, _ ∧ _; refine ex_ ?_ (by first|with_reducible exact rfl|with_reducible exact N0|with_reducible exact N1|with_reducible exact N2|with_reducible exact N3|with_reducible exact N4|exact rd_))|(show ∃ _ _, _ ∧ _; refine ex2_ ?_ (by first|with_reducible exact rfl|with_reducible exact N0|with_reducible exact N1|with_reducible exact N2|with_reducible exact N3|with_reducible exact N4|exact rd_)))
    all_goals (rw [L_setTi (i := i.toNat) (j := j.toNat) (k := k.toNat) (by omega) (by omega) (by omega) (by omega) (by omega) (by omega)])
    all_goals ((repeat' (conv => whnf)<;>first|exact True.intro|(refine if_ ?_ ?_<;>intro h<;>first|exact h.elim|(exfalso; omega)|skip)|refine vs_ ?_|refine dv_ ?_|exact fin_|(show ∃ _, _ ∧ _; refine ex_ ?_ (by first|with_reducible exact rfl|exact fall _|exact rd_))|(show ∃ _ _, _ ∧ _; refine ex2_ ?_ (by first|with_reducible exact rfl|exact fall _|exact rd_))))
  by_cases d3 : d = 3 ∨ d = 4
  · have b1 := nextV_bd (s := s0) (n := a.n) (by omega)
    have N1 := hNx (n := a.n) hs0 (by omega)
    have hs1 := nextT_ok hs0 a.n
    generalize nextV s0 a.n = i at *
    generalize nextT s0 a.n = s1 at *
    have b2 := nextV_bd (s := s1) (n := a.p) (by omega)
    have N2 := hNx (n := a.p) hs1 (by omega)
    have hs2 := nextT_ok hs1 a.p
    generalize nextV s1 a.p = x at *
    generalize nextT s1 a.p = s2 at *
    refine ⟨setF a i.toNat x, s2, setF_rep hr (by omega) (by omega), by show 0 ≤ a.p ∧ a.p ≤ 255; omega, by show -1 ≤ a.n ∧ a.n ≤ 7; omega, hs2, ?_⟩
    rcases d3 with rfl | rfl
    all_goals (refine can_ofB hf rfl rfl rfl rfl ?_)
    all_goals ((repeat' (conv => whnf)<;>first|exact True.intro|(refine if_ ?_ ?_<;>intro h<;>first|exact h.elim|(exfalso; omega)|skip)|refine vs_ ?_ (by first|(rw [hla]; omega)|exact sd_)|refine dv_ ?_|exact fin_|(show ∃ _, _ ∧ _; refine ex_ ?_ (by first|with_reducible exact rfl|with_reducible exact N0|with_reducible exact N1|with_reducible exact N2|with_reducible exact f1|with_reducible exact f0|exact rd_))|(show ∃ _ _, _ ∧ _; refine ex2_ ?_ (by first|with_reducible exact rfl|with_reducible exact N0|with_reducible exact N1|with_reducible exact N2|with_reducible exact f1|with_reducible exact f0|exact rd_))))
    all_goals (rw [L_setFi (i := i.toNat) (by omega) (by omega)])
    all_goals ((repeat' (conv => whnf)<;>first|exact True.intro|(refine if_ ?_ ?_<;>intro h<;>first|exact h.elim|(exfalso; omega)|skip)|refine vs_ ?_|refine dv_ ?_|exact fin_|(show ∃ _, _ ∧ _; refine ex_ ?_ (by first|with_reducible exact rfl|exact fall _|exact rd_))|(show ∃ _ _, _ ∧ _; refine ex2_ ?_ (by first|with_reducible exact rfl|exact fall _|exact rd_))))
  by_cases d5 : d = 5
  · subst d5
    refine ⟨{ a with f := Z }, s0, setZ_rep hr, by show 0 ≤ a.p ∧ a.p ≤ 255; omega, by show -1 ≤ a.n ∧ a.n ≤ 7; omega, hs0, ?_⟩
    refine can_ofB hf rfl rfl rfl rfl ?_
    (repeat' (conv => whnf)<;>first|exact True.intro|(refine if_ ?_ ?_<;>intro h<;>first|exact h.elim|(exfalso; omega)|skip)|refine vs_ ?_ (by first|(rw [hla]; decide)|exact sd_)|refine dv_ ?_|exact fin_|(show ∃ _, _ ∧ _; refine ex_ ?_ (by first|with_reducible exact rfl|with_reducible exact N0|exact rd_))|(show ∃ _ _, _ ∧ _; refine ex2_ ?_ (by first|with_reducible exact rfl|with_reducible exact N0|exact rd_)))
    all_goals (rw [show ([.int .u8 0, .int .u8 0, .int .u8 0, .int .u8 0, .int .u8 0, .int .u8 0] : List D) = vecL Z from rfl, L_setV])
    all_goals ((repeat' (conv => whnf)<;>first|exact True.intro|(refine if_ ?_ ?_<;>intro h<;>first|exact h.elim|(exfalso; omega)|skip)|refine vs_ ?_|refine dv_ ?_|exact fin_|(show ∃ _, _ ∧ _; refine ex_ ?_ (by first|with_reducible exact rfl|exact fall _|exact rd_))|(show ∃ _ _, _ ∧ _; refine ex2_ ?_ (by first|with_reducible exact rfl|exact fall _|exact rd_))))
  · refine ⟨a, s0, hr, by omega, by omega, hs0, ?_⟩
    refine can_ofB hf rfl rfl rfl rfl ?_
    (repeat' (conv => whnf)<;>first|exact True.intro|(refine if_ ?_ ?_<;>intro h<;>first|exact h.elim|(exfalso; omega)|skip)|refine vs_ ?_|refine dv_ ?_|exact fin_|(show ∃ _, _ ∧ _; refine ex_ ?_ (by first|with_reducible exact rfl|with_reducible exact N0|with_reducible exact fa|exact rd_))|(show ∃ _ _, _ ∧ _; refine ex2_ ?_ (by first|with_reducible exact rfl|with_reducible exact N0|with_reducible exact fa|exact rd_)))
end Go.X
namespace Go.X
open Go Go.RowKit
set_option maxRecDepth 100000
set_option maxHeartbeats 8000000
set_option linter.unusedVariables false
set_option linter.unusedSimpArgs false
variable {P : Program} {N : FN}
def invR (o : Option Row) (b : Bool) : Res := .tup (if b then (match o with | none => [vecD Z, .int .i64 4] | some w => [vecD w, .int .i64 0]) else [vecD Z, .int .i64 1])
def C_ainv (P : Program) (N : FN) : Prop := ∀ {sz : Nat} {l : List (List D)} {e off : Nat} {a : Alg} {v : Row}, AlgAt l e off a → AlgOk a → Byts v → Can P N.impl_Algebra_inverse [.pd sz l e off, vecD v] (optD (iBack a v))
def C_Inv (P : Program) (N : FN) : Prop := ∀ {a : Alg} {v : Row}, AlgIn a → Byts v → Can P N.impl_InverseVector [algD a, vecD v] (invR (iBack a v) (dB (IsAlgP a ∧ AllSm a 1 fun _ => v)))
noncomputable def sBackO (a : Alg) (v : Row) : Option Row := if (backV a v).2 then some (backV a v).1 else none
def C_sInv (P : Program) (N : FN) : Prop := ∀ {a : Alg} {v : Row}, SAlgIn a → Byts v → Can P N.spec_InverseVector [algD a, vecD v] (invR (sBackO a v) (dB (sAlgP a ∧ AllSm a 1 fun _ => v)))
def ahG (N : FN) (q : Nat) : FuncId := if q % 2 = 0 then N.impl_Algebra_ahead_1 else N.impl_Algebra_behind_1
theorem c_ainv (hU : C_unit P N) (hb : C_behind P N) (hh : C_ahead P N) (hb1 : C_behind1 P N) (hh1 : C_ahead1 P N) (hS : C_solved P N) (hf : isFn P N.impl_Algebra_inverse (ir_impl_Algebra_inverse N) = true) : C_ainv P N := by
  intro sz l e off a v hat ha hv
  have hn := ha.n
  have hp2 := prime_bd ha.p
  have hU' : Can P N.impl_Algebra_unit [.pd sz l e off] (.val (vecD (iUnit a))) := hU hat ha
  have hS' := hS (sz := sz) (m := 2) (g := ahG N) (c := fun _ => .pd 1 [[.pd sz l e off]] 0 0) (d := fun _ => .pd 6 [vecL v] 0 0) (M := invM a v) (tg := fun _ => iUnit a) hat ha (by omega) (fun q i k => invM_rw (by omega) v q i k) (fun q k => iUnit_rw ha k) (fun q i hq hi => by
      unfold ahG invM
      split
      · exact hh1 hat ha (basV_byt i) hv
      · exact hb1 hat ha (basV_byt i) hv)
  have hS2 : Can P N.impl_Algebra_solved [.pd sz l e off, .lst 6 [vecL (iUnit a), vecL (iUnit a)], .lst 1 [[fnAhead N sz l e off v], [fnBehind N sz l e off v]]] (optD (iBack a v)) := hS'
  have hh' := hh (sz := sz) (l := l) (e := e) (off := off) (w := v)
  have hb' := hb (sz := sz) (l := l) (e := e) (off := off) (w := v)
  refine can_of hf rfl (by cases iBack a v <;> rfl) ?_
  generalize iBack a v = o at *
  cases o with
  | none =>
    (repeat' (conv => whnf)<;>first|exact True.intro|(refine if_ ?_ ?_<;>intro h<;>first|exact h.elim|(exfalso; omega)|skip)|refine vs_ ?_|refine dv_ ?_|exact fin_|(show ∃ _, _ ∧ _; refine ex_ ?_ (by first|with_reducible exact rfl|exact hU'|exact hh'|exact hb'|exact hS2|exact rd_v1|exact rd_))|(show ∃ _ _, _ ∧ _; refine ex2_ ?_ (by first|with_reducible exact rfl|exact hU'|exact hh'|exact hb'|exact hS2|exact rd_v1|exact rd_)))
  | some w =>
    (repeat' (conv => whnf)<;>first|exact True.intro|(refine if_ ?_ ?_<;>intro h<;>first|exact h.elim|(exfalso; omega)|skip)|refine vs_ ?_|refine dv_ ?_|exact fin_|(show ∃ _, _ ∧ _; refine ex_ ?_ (by first|with_reducible exact rfl|exact hU'|exact hh'|exact hb'|exact hS2|exact rd_v1|exact rd_))|(show ∃ _ _, _ ∧ _; refine ex2_ ?_ (by first|with_reducible exact rfl|exact hU'|exact hh'|exact hb'|exact hS2|exact rd_v1|exact rd_)))
theorem c_Inv (hV : C_validL P N) (hI : C_ainv P N) (hf : isFn P N.impl_InverseVector (ir_impl_InverseVector N) = true) : C_Inv P N := by
  intro a v hi hv
  have hal := (algAt_one a).all
  have hV' : Can P N.impl_valid [algD a, .lst 6 [vecL v]] _ := hV (q := 1) (s := fun _ => v) hi (by omega) (fun _ => hv)
  unfold invR
  by_cases g : IsAlgP a ∧ AllSm a 1 fun _ => v
  · rw [dB_t g] at hV' ⊢
    have ha := hi.alg g.1
    have hI' := hI (sz := (algL a).length) (algAt_one a) ha hv
    rw [if_pos rfl] at hV' ⊢
    generalize iBack a v = o at *
    cases o with
    | none =>
      refine can_of hf rfl rfl ?_
      (repeat' (conv => whnf)<;>first|exact True.intro|(refine if_ ?_ ?_<;>intro h<;>first|exact h.elim|(exfalso; omega)|skip)|refine vs_ ?_|refine dv_ ?_|exact fin_|(show ∃ _, _ ∧ _; refine ex_ ?_ (by first|with_reducible exact rfl|with_reducible exact hal|exact hV'|exact hI'|exact rd_))|(show ∃ _ _, _ ∧ _; refine ex2_ ?_ (by first|with_reducible exact rfl|with_reducible exact hal|exact hV'|exact hI'|exact rd_)))
    | some w =>
      refine can_of hf rfl rfl ?_
      (repeat' (conv => whnf)<;>first|exact True.intro|(refine if_ ?_ ?_<;>intro h<;>first|exact h.elim|(exfalso; omega)|skip)|refine vs_ ?_|refine dv_ ?_|exact fin_|(show ∃ _, _ ∧ _; refine ex_ ?_ (by first|with_reducible exact rfl|with_reducible exact hal|exact hV'|exact hI'|exact rd_v1|exact rd_))|(show ∃ _ _, _ ∧ _; refine ex2_ ?_ (by first|with_reducible exact rfl|with_reducible exact hal|exact hV'|exact hI'|exact rd_v1|exact rd_)))
      all_goals (rw [show splice (vecL Z) 0 (cel .u8 6 w) = vecL w from spl_z _]; (repeat' (conv => whnf)<;>first|exact True.intro|(refine if_ ?_ ?_<;>intro h<;>first|exact h.elim|(exfalso; omega)|skip)|refine vs_ ?_|refine dv_ ?_|exact fin_|(show ∃ _, _ ∧ _; refine ex_ ?_)|(show ∃ _ _, _ ∧ _; refine ex2_ ?_)))
  · rw [dB_f g] at hV' ⊢
    rw [if_neg (by decide)] at hV' ⊢
    refine can_of hf rfl rfl ?_
    (repeat' (conv => whnf)<;>first|exact True.intro|(refine if_ ?_ ?_<;>intro h<;>first|exact h.elim|(exfalso; omega)|skip)|refine vs_ ?_|refine dv_ ?_|exact fin_|(show ∃ _, _ ∧ _; refine ex_ ?_ (by first|with_reducible exact rfl|with_reducible exact hal|exact hV'|exact rd_))|(show ∃ _ _, _ ∧ _; refine ex2_ ?_ (by first|with_reducible exact rfl|with_reducible exact hal|exact hV'|exact rd_)))
theorem c_sInv (hV : C_sCodeL P N) (hI : C_sBack P N) (hf : isFn P N.spec_InverseVector (ir_spec_InverseVector N) = true) : C_sInv P N := by
  intro a v hi hv
  have hal := (algAt_one a).all
  have hV' : Can P N.spec_l01Code [algD a, .lst 6 [vecL v]] _ := hV (q := 1) (s := fun _ => v) hi (by omega) (fun _ => hv)
  unfold invR sBackO
  by_cases g : sAlgP a ∧ AllSm a 1 fun _ => v
  · rw [dB_t g] at hV' ⊢
    have ha := hi.ok g.1.1
    have hI' := hI ha hv
    rw [if_pos rfl] at hV' ⊢
    generalize backV a v = o at *
    obtain ⟨w, b⟩ := o
    dsimp only at hI' ⊢
    cases b with
    | false =>
      refine can_of hf rfl rfl ?_
      (repeat' (conv => whnf)<;>first|exact True.intro|(refine if_ ?_ ?_<;>intro h<;>first|exact h.elim|(exfalso; omega)|skip)|refine vs_ ?_|refine dv_ ?_|exact fin_|(show ∃ _, _ ∧ _; refine ex_ ?_ (by first|with_reducible exact rfl|with_reducible exact hal|exact hV'|exact hI'|exact rd_))|(show ∃ _ _, _ ∧ _; refine ex2_ ?_ (by first|with_reducible exact rfl|with_reducible exact hal|exact hV'|exact hI'|exact rd_)))
    | true =>
      refine can_of hf rfl rfl ?_
      (repeat' (conv => whnf)<;>first|exact True.intro|(refine if_ ?_ ?_<;>intro h<;>first|exact h.elim|(exfalso; omega)|skip)|refine vs_ ?_|refine dv_ ?_|exact fin_|(show ∃ _, _ ∧ _; refine ex_ ?_ (by first|with_reducible exact rfl|with_reducible exact hal|exact hV'|exact hI'|exact rd_v1|exact rd_))|(show ∃ _ _, _ ∧ _; refine ex2_ ?_ (by first|with_reducible exact rfl|with_reducible exact hal|exact hV'|exact hI'|exact rd_v1|exact rd_)))
      all_goals (rw [show splice (vecL Z) 0 (cel .u8 6 w) = vecL w from spl_z _]; (repeat' (conv => whnf)<;>first|exact True.intro|(refine if_ ?_ ?_<;>intro h<;>first|exact h.elim|(exfalso; omega)|skip)|refine vs_ ?_|refine dv_ ?_|exact fin_|(show ∃ _, _ ∧ _; refine ex_ ?_)|(show ∃ _ _, _ ∧ _; refine ex2_ ?_)))
  · rw [dB_f g] at hV' ⊢
    rw [if_neg (by decide)] at hV' ⊢
    refine can_of hf rfl rfl ?_
    (repeat' (conv => whnf)<;>first|exact True.intro|(refine if_ ?_ ?_<;>intro h<;>first|exact h.elim|(exfalso; omega)|skip)|refine vs_ ?_|refine dv_ ?_|exact fin_|(show ∃ _, _ ∧ _; refine ex_ ?_ (by first|with_reducible exact rfl|with_reducible exact hal|exact hV'|exact rd_))|(show ∃ _ _, _ ∧ _; refine ex2_ ?_ (by first|with_reducible exact rfl|with_reducible exact hal|exact hV'|exact rd_)))
end Go.X
