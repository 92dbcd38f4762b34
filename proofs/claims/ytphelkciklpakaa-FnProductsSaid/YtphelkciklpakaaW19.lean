import Derived.Test.YtphelkciklpakaaW18
set_option linter.all false
namespace Go.X
open Go Go.RowKit
set_option maxRecDepth 100000
set_option maxHeartbeats 8000000
set_option linter.unusedVariables false
set_option linter.unusedSimpArgs false
variable {P : Program} {N : FN}
structure DrA (a : Alg) : Prop where
  r : AlgRep a
  p : 0 ≤ a.p ∧ a.p ≤ 255
  n : -1 ≤ a.n ∧ a.n ≤ 7
structure DrV (v : Row) : Prop where
  b : Byts v
  z : ∀ i : Nat, 6 ≤ i → v i = 0
theorem DrA.inn {a : Alg} (h : DrA a) : AlgIn a := h.r.inn
def cut6 (v : Row) : Row := fun i => if i < 6 then v i else 0
theorem cut6_L (v : Row) : vecL (cut6 v) = vecL v := cel_ext fun i hi => by unfold cut6; rw [if_pos hi]
theorem cut6_ok {v : Row} (h : Byts v) : DrV (cut6 v) := ⟨fun i => by
  have := h i
  unfold cut6; split <;> omega, fun i hi => by unfold cut6; rw [if_neg (by omega)]⟩
theorem AlgOk.dr {a : Alg} (h : AlgOk a) : DrA a := by
  have h1 := h.n
  have h2 := prime_bd h.p
  exact ⟨h.rep, by omega, by omega⟩
theorem litF6 {x : Int} (h : 0 ≤ x ∧ x < ((6 : Nat) : Int)) (L : List Int) {Q : Int → Prop} (h0 : Q (litF L 0)) (h1 : Q (litF L 1)) (h2 : Q (litF L 2)) (h3 : Q (litF L 3)) (h4 : Q (litF L 4)) (h5 : Q (litF L 5)) : Q (litF L x.toNat) := by
  have h6 : ∀ i : Fin 6, Q (litF L i.val) := fun i => by
    match i with
    | 0 => exact h0
    | 1 => exact h1
    | 2 => exact h2
    | 3 => exact h3
    | 4 => exact h4
    | 5 => exact h5
  exact h6 ⟨x.toNat, by omega⟩
def C_draw (P : Program) (N : FN) : Prop := ∀ {s : Src}, SrcOk s → ∃ a s', AlgOk a ∧ SrcOk s' ∧ Can P N.spec_l01Draw [] (.postB 3 [srcL s] [srcL s'] (.val (algD a)))
theorem c_draw (hP : C_drawPrime P N) (hK : C_pick P N) (hD : C_drawOf P N) (hf : isFn P N.spec_l01Draw (ir_spec_l01Draw N) = true) : C_draw P N := by
  intro s hs
  obtain ⟨p, s1, hp, hs1, D1⟩ := hP hs
  have b1 := nextV_bd (s := s1) (n := ((6 : Nat) : Int)) (by omega)
  have K1 := hK (m := 6) (f := litF [1, 2, 3, 4, 4, 6]) hs1 (by omega)
  rw [show rowD 6 (litF [1, 2, 3, 4, 4, 6]) = D.lst 1 [[.int .i64 1], [.int .i64 2], [.int .i64 3], [.int .i64 4], [.int .i64 4], [.int .i64 6]] from rfl] at K1
  have hm := litF6 b1 [1, 2, 3, 4, 4, 6] (Q := fun x => 1 ≤ x ∧ x ≤ 6) (by decide) (by decide) (by decide) (by decide) (by decide) (by decide)
  generalize litF [1, 2, 3, 4, 4, 6] (nextV s1 ((6 : Nat) : Int)).toNat = most at *
  have hs2 := nextT_ok hs1 ((6 : Nat) : Int)
  obtain ⟨a, s3, ha, _, _, hs3, D3⟩ := hD hs2 hp hm
  refine ⟨a, s3, ha, hs3, ?_⟩
  refine can_ofB hf rfl rfl rfl rfl ?_
  (repeat' (conv => whnf)<;>first|exact True.intro|(refine if_ ?_ ?_<;>intro h<;>first|exact h.elim|(exfalso; omega)|skip)|refine vs_ ?_|refine dv_ ?_|exact fin_|(show ∃ _, _ ∧ _; refine ex_ ?_ (by first|with_reducible exact rfl|with_reducible exact D1|exact K1|with_reducible exact D3|exact rd_))|(show ∃ _ _, _ ∧ _; refine ex2_ ?_ (by first|with_reducible exact rfl|with_reducible exact D1|exact K1|with_reducible exact D3|exact rd_)))
def C_spoil (P : Program) (N : FN) : Prop := ∀ {s : Src}, SrcOk s → ∃ a s', DrA a ∧ SrcOk s' ∧ Can P N.spec_l01Spoil [] (.postB 3 [srcL s] [srcL s'] (.val (algD a)))
theorem c_spoil (hD : C_draw P N) (hB : C_bad P N) (hf : isFn P N.spec_l01Spoil (ir_spec_l01Spoil N) = true) : C_spoil P N := by
  intro s hs
  obtain ⟨a, s1, ha, hs1, D1⟩ := hD hs
  obtain ⟨a', s2, hr, hp, hn, hs2, D2⟩ := hB hs1 ha
  refine ⟨a', s2, ⟨hr, hp, hn⟩, hs2, ?_⟩
  refine can_ofB hf rfl rfl rfl rfl ?_
  (repeat' (conv => whnf)<;>first|exact True.intro|(refine if_ ?_ ?_<;>intro h<;>first|exact h.elim|(exfalso; omega)|skip)|refine vs_ ?_|refine dv_ ?_|exact fin_|(show ∃ _, _ ∧ _; refine ex_ ?_ (by first|with_reducible exact rfl|with_reducible exact D1|with_reducible exact D2|exact rd_))|(show ∃ _ _, _ ∧ _; refine ex2_ ?_ (by first|with_reducible exact rfl|with_reducible exact D1|with_reducible exact D2|exact rd_)))
def C_with (P : Program) (N : FN) : Prop := ∀ {s : Src}, SrcOk s → ∃ a v s', DrA a ∧ DrV v ∧ SrcOk s' ∧ Can P N.spec_l01With [] (.postB 3 [srcL s] [srcL s'] (.tup [algD a, vecD v]))
theorem rd_v4 {v : Row} {j : Int} {x : Int} (h : 0 ≤ j) : sub2 (([z6].set 0 (splice z6 0 (vecL v))).set 0 ((splice z6 0 (vecL v)).set (0 + j.toNat * 1) (.int .u8 x))) 0 0 6 = some (vecL (upd v j.toNat x)) := by
  obtain ⟨q, rfl⟩ : ∃ q : Nat, j = q := ⟨j.toNat, by omega⟩
  exact rd_v3
theorem c_with (hNx : C_next P N) (hD : C_draw P N) (hV : C_drawVec P N) (hB : C_bad P N) (hf : isFn P N.spec_l01With (ir_spec_l01With N) = true) : C_with P N := by
  intro s hs
  obtain ⟨a, s1, ha, hs1, D1⟩ := hD hs
  have hpb := prime_bd ha.p
  obtain ⟨v, s2, hv, hs2, D2⟩ := hV (a := a) hs1 (by omega)
  have N3 := hNx (n := 40) hs2 (by omega)
  have hs3 := nextT_ok hs2 40
  have b3 := nextV_bd (s := s2) (n := 40) (by omega)
  generalize nextV s2 40 = d at *
  generalize nextT s2 40 = s3 at *
  have r1 : sub2 ([algZ].set 0 (splice algZ 0 (algL a))) 0 0 224 = some (algL a) := by rw [sz_alg]; exact (algAt_one a).all
  by_cases d0 : d = 0
  · subst d0
    have b4 := nextV_bd (s := s3) (n := 6) (by omega)
    have N4 := hNx (n := 6) hs3 (by omega)
    have hs4 := nextT_ok hs3 6
    generalize nextV s3 6 = i at *
    generalize nextT s3 6 = s4 at *
    have b5 := nextV_bd (s := s4) (n := 16) (by omega)
    have N5 := hNx (n := 16) hs4 (by omega)
    have hs5 := nextT_ok hs4 16
    generalize nextV s4 16 = x at *
    generalize nextT s4 16 = s5 at *
    refine ⟨a, cut6 (upd v i.toNat x), s5, ha.dr, cut6_ok (upd_byt hv (by omega)), hs5, ?_⟩
    rw [show vecD (cut6 (upd v i.toNat x)) = vecD (upd v i.toNat x) from congrArg D.agg (cut6_L _)]
    refine can_ofB hf rfl rfl rfl rfl ?_
    (repeat' (conv => whnf)<;>first|exact True.intro|(refine if_ ?_ ?_<;>intro h<;>first|exact h.elim|(exfalso; omega)|skip)|refine vs_ ?_|refine dv_ ?_|exact fin_|(show ∃ _, _ ∧ _; refine ex_ ?_ (by first|with_reducible exact rfl|with_reducible exact D1|with_reducible exact r1|with_reducible exact D2|with_reducible exact N3|with_reducible exact N4|with_reducible exact N5|exact rd_v4 b4.1|exact rd_))|(show ∃ _ _, _ ∧ _; refine ex2_ ?_ (by first|with_reducible exact rfl|with_reducible exact D1|with_reducible exact r1|with_reducible exact D2|with_reducible exact N3|with_reducible exact N4|with_reducible exact N5|exact rd_v4 b4.1|exact rd_)))
  by_cases d1 : d = 1
  · subst d1
    obtain ⟨a', s4, hr, hp, hn, hs4, D4⟩ := hB hs3 ha
    refine ⟨a', cut6 v, s4, ⟨hr, hp, hn⟩, cut6_ok hv, hs4, ?_⟩
    rw [show vecD (cut6 v) = vecD v from congrArg D.agg (cut6_L _)]
    refine can_ofB hf rfl rfl rfl rfl ?_
    (repeat' (conv => whnf)<;>first|exact True.intro|(refine if_ ?_ ?_<;>intro h<;>first|exact h.elim|(exfalso; omega)|skip)|refine vs_ ?_|refine dv_ ?_|exact fin_|(show ∃ _, _ ∧ _; refine ex_ ?_ (by first|with_reducible exact rfl|with_reducible exact D1|with_reducible exact r1|with_reducible exact D2|with_reducible exact N3|with_reducible exact D4|exact rd_v1|exact rd_))|(show ∃ _ _, _ ∧ _; refine ex2_ ?_ (by first|with_reducible exact rfl|with_reducible exact D1|with_reducible exact r1|with_reducible exact D2|with_reducible exact N3|with_reducible exact D4|exact rd_v1|exact rd_)))
  · refine ⟨a, cut6 v, s3, ha.dr, cut6_ok hv, hs3, ?_⟩
    rw [show vecD (cut6 v) = vecD v from congrArg D.agg (cut6_L _)]
    refine can_ofB hf rfl rfl rfl rfl ?_
    (repeat' (conv => whnf)<;>first|exact True.intro|(refine if_ ?_ ?_<;>intro h<;>first|exact h.elim|(exfalso; omega)|skip)|refine vs_ ?_|refine dv_ ?_|exact fin_|(show ∃ _, _ ∧ _; refine ex_ ?_ (by first|with_reducible exact rfl|with_reducible exact D1|with_reducible exact r1|with_reducible exact D2|with_reducible exact N3|exact rd_v1|exact rd_))|(show ∃ _ _, _ ∧ _; refine ex2_ ?_ (by first|with_reducible exact rfl|with_reducible exact D1|with_reducible exact r1|with_reducible exact D2|with_reducible exact N3|exact rd_v1|exact rd_)))
end Go.X
