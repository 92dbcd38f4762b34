import Derived.Test.YtphelkciklpakaaK21
import Derived.Test.YtphelkciklpakaaW13
import Derived.Test.YtphelkciklpakaaW16
import Derived.Test.YtphelkciklpakaaK6
import Derived.Test.YtphelkciklpakaaK4
set_option linter.all false
namespace Go.X
open Go Go.RowKit
set_option maxRecDepth 100000
set_option maxHeartbeats 8000000
set_option linter.unusedVariables false
set_option linter.unusedSimpArgs false
variable {P : Program} {N : FN}
theorem nm_get {x : Int} (h : 0 ≤ x ∧ x < 6) : get2 (strsL nmL) x.toNat 0 = some (.str (nmS x.toNat)) := by
  have h6 : ∀ i : Fin 6, get2 (strsL nmL) i.val 0 = some (.str (nmS i.val)) := fun i => by
    match i with
    | 0 => rfl
    | 1 => rfl
    | 2 => rfl
    | 3 => rfl
    | 4 => rfl
    | 5 => rfl
  exact h6 ⟨x.toNat, by omega⟩
def C_drawOf (P : Program) (N : FN) : Prop := ∀ {s : Src} {p most : Int}, SrcOk s → p ∈ primes → 1 ≤ most ∧ most ≤ 6 → ∃ a s', AlgOk a ∧ a.p = p ∧ a.n ≤ most ∧ SrcOk s' ∧ Can P N.spec_l01DrawOf [.int .i64 p, .int .i64 most] (.postB 3 [srcL s] [srcL s'] (.val (algD a)))
theorem nmL_len : (strsL nmL).length = 6 := rfl
theorem sz_alg {a : Alg} : splice algZ 0 (algL a) = algL a := splice_whole (by rw [algZ_len]; exact arr_len ..)
theorem al_alg {a b : Alg} : splice (algL b) 0 (algL a) = algL a := splice_whole (by rw [show (algL a).length = 224 from arr_len .., show (algL b).length = 224 from arr_len ..])
theorem c_drawOf (hNx : C_next P N) (hK : C_pick P N) (hV : C_drawVec P N) (hL : C_names P N) (hA : C_named P N) (hS : C_sumA P N) (hT : C_tenA P N) (hH : C_sheA P N) (hB : C_sBack P N) (hBs : C_sBasis P N) (hTm : C_sTimes P N) (hFm : C_sForm P N)
    (hf : isFn P N.spec_l01DrawOf (ir_spec_l01DrawOf N) = true) : C_drawOf P N := by
  intro s p most hs hp hm
  have hpb := prime_bd hp
  have b0 := nextV_bd (s := s) (n := 6) (by omega)
  have N0 := hNx (n := 6) hs (by omega)
  have hs0 := nextT_ok hs 6
  have A0 : Can P N.spec_l01Named [.str (nmS (nextV s 6).toNat), .int .i64 p] (.tup [algD (nmA (nextV s 6).toNat p), .bool true]) := hA (by omega) hp
  have G0 := nm_get b0
  have ok0 := nmA_ok (k := (nextV s 6).toNat) hp
  have ap0 := (nmA_n (k := (nextV s 6).toNat) (p := p)).2
  generalize nextV s 6 = k0 at *
  generalize nextT s 6 = s0 at *
  generalize nmA k0.toNat p = a0 at *
  obtain ⟨n, hn1, hn2⟩ := fit_ex (p := p) (s := s0) (a := a0) hs0 hm.1
  have hfit := fitF_ok hp hs0 ok0 ap0
  have hF0 : fitF p s0 a0 0 = (s0, a0) := rfl
  have hFs : ∀ i, fitF p s0 a0 (i + 1) = fitS p (fitF p s0 a0 i) := fun _ => rfl
  generalize fitF p s0 a0 = F at *
  have hs1 := (hfit n).1
  have ok1 := (hfit n).2.1
  have ap1 := (hfit n).2.2
  have b1 := nextV_bd (s := (F n).1) (n := 3) (by omega)
  have N1 := hNx (n := 3) hs1 (by omega)
  have hs2 := nextT_ok hs1 3
  have A1 : Can P N.spec_l01Named [.str (nmS (nextV (F n).1 3).toNat), .int .i64 p] (.tup [algD (nmA (nextV (F n).1 3).toNat p), .bool true]) := hA (by omega) hp
  have G1 := nm_get (x := nextV (F n).1 3) (by omega)
  have ok2 := nmA_ok (k := (nextV (F n).1 3).toNat) hp
  have ap2 := (nmA_n (k := (nextV (F n).1 3).toNat) (p := p)).2
  generalize nextV (F n).1 3 = k1 at *
  generalize nextT (F n).1 3 = s2 at *
  generalize nmA k1.toNat p = a2 at *
  have J : ∃ s4 A2, SrcOk s4 ∧ AlgOk A2 ∧ A2.p = p ∧ A2.n ≤ most ∧ (((F n).2.n + a2.n ≤ most ∧ nextV s2 3 = 0 ∧ s4 = nextT s2 3 ∧ A2 = sumA (F n).2 a2) ∨
      (∃ s3, SrcOk s3 ∧ (((F n).2.n + a2.n ≤ most ∧ ¬ nextV s2 3 = 0 ∧ s3 = nextT s2 3) ∨ (¬ (F n).2.n + a2.n ≤ most ∧ s3 = s2)) ∧
        (((F n).2.n * a2.n ≤ most ∧ nextV s3 3 = 0 ∧ s4 = nextT s3 3 ∧ A2 = tenA (F n).2 a2) ∨ ((F n).2.n * a2.n ≤ most ∧ ¬ nextV s3 3 = 0 ∧ s4 = nextT s3 3 ∧ A2 = (F n).2) ∨ (¬ (F n).2.n * a2.n ≤ most ∧ s4 = s3 ∧ A2 = (F n).2)))) := by
    have tail : ∀ s3, SrcOk s3 → ∃ s4 A2, SrcOk s4 ∧ AlgOk A2 ∧ A2.p = p ∧ A2.n ≤ most ∧ (((F n).2.n * a2.n ≤ most ∧ nextV s3 3 = 0 ∧ s4 = nextT s3 3 ∧ A2 = tenA (F n).2 a2) ∨ ((F n).2.n * a2.n ≤ most ∧ ¬ nextV s3 3 = 0 ∧ s4 = nextT s3 3 ∧ A2 = (F n).2) ∨ (¬ (F n).2.n * a2.n ≤ most ∧ s4 = s3 ∧ A2 = (F n).2)) := fun s3 h3 => by
      by_cases c3 : (F n).2.n * a2.n ≤ most
      · by_cases c4 : nextV s3 3 = 0
        · exact ⟨_, _, nextT_ok h3 3, tenA_ok ok1 ok2 (by omega), ap1, c3, .inl ⟨c3, c4, rfl, rfl⟩⟩
        · exact ⟨_, _, nextT_ok h3 3, ok1, ap1, hn1, .inr (.inl ⟨c3, c4, rfl, rfl⟩)⟩
      · exact ⟨_, _, h3, ok1, ap1, hn1, .inr (.inr ⟨c3, rfl, rfl⟩)⟩
    by_cases c1 : (F n).2.n + a2.n ≤ most
    · by_cases c2 : nextV s2 3 = 0
      · exact ⟨_, _, nextT_ok hs2 3, sumA_ok ok1 ok2 (ap1.trans ap2.symm) (by omega), ap1, c1, .inl ⟨c1, c2, rfl, rfl⟩⟩
      · obtain ⟨s4, A2, g1, g2, g3, g4, g5⟩ := tail _ (nextT_ok hs2 3)
        exact ⟨s4, A2, g1, g2, g3, g4, .inr ⟨_, nextT_ok hs2 3, .inl ⟨c1, c2, rfl⟩, g5⟩⟩
    · obtain ⟨s4, A2, g1, g2, g3, g4, g5⟩ := tail _ hs2
      exact ⟨s4, A2, g1, g2, g3, g4, .inr ⟨_, hs2, .inr ⟨c1, rfl⟩, g5⟩⟩
  obtain ⟨s4, A2, hs4, ok3, ap3, hn3, J⟩ := J
  have b4 := nextV_bd (s := s4) (n := ((4 : Nat) : Int)) (by omega)
  have K4 := hK (m := 4) (f := litF [0, 0, 1, 3]) hs4 (by omega)
  rw [show rowD 4 (litF [0, 0, 1, 3]) = D.lst 1 [[.int .i64 0], [.int .i64 0], [.int .i64 1], [.int .i64 3]] from rfl] at K4
  have hs5 := nextT_ok hs4 ((4 : Nat) : Int)
  obtain ⟨C, hC, hC3⟩ : ∃ C : Nat, litF [0, 0, 1, 3] (nextV s4 ((4 : Nat) : Int)).toNat = C ∧ C ≤ 3 := by
    have h4 : ∀ i : Fin 4, ∃ C : Nat, litF [0, 0, 1, 3] i.val = C ∧ C ≤ 3 := fun i => by
      match i with
      | 0 => exact ⟨0, rfl, by omega⟩
      | 1 => exact ⟨0, rfl, by omega⟩
      | 2 => exact ⟨1, rfl, by omega⟩
      | 3 => exact ⟨3, rfl, by omega⟩
    exact h4 ⟨_, (by omega : (nextV s4 ((4 : Nat) : Int)).toNat < 4)⟩
  rw [hC] at K4
  generalize nextT s4 ((4 : Nat) : Int) = s5 at *
  have hshr := shrF_ok (p := p) hs5 ok3
  have hS0 : shrF p s5 A2 0 = (s5, A2) := rfl
  have hSs : ∀ i, shrF p s5 A2 (i + 1) = shrS p (shrF p s5 A2 i) := fun _ => rfl
  generalize shrF p s5 A2 = S at *
  obtain ⟨R, hR⟩ : ∃ R, R = if 1 < A2.n then C else 0 := ⟨_, rfl⟩
  obtain ⟨hsR, okR, nR, pR⟩ := hshr R
  have pR' : (S R).2.p = p := by rw [pR, ap3]
  obtain ⟨v, s6, hv, hs6, V6⟩ := hV (s := (S R).1) (a := (S R).2) hsR (by omega)
  have N6 := hNx (n := 3) hs6 (by omega)
  have hs7 := nextT_ok hs6 3
  have B6 := hB okR hv
  generalize backV (S R).2 v = bk at *
  obtain ⟨bv, bb⟩ := bk
  dsimp only at B6
  obtain ⟨A4, okA4, pA4, nA4, eA4⟩ : ∃ A4, AlgOk A4 ∧ A4.p = p ∧ A4.n ≤ most ∧ ((nextV s6 3 = 0 ∧ bb = true ∧ A4 = { (S R).2 with f := newF (S R).2 v }) ∨ (nextV s6 3 = 0 ∧ bb = false ∧ A4 = (S R).2) ∨ (¬ nextV s6 3 = 0 ∧ A4 = (S R).2)) := by
    by_cases c6 : nextV s6 3 = 0
    · cases bb with
      | true => exact ⟨_, newF_ok okR v, pR', by show (S R).2.n ≤ most; omega, .inl ⟨c6, rfl, rfl⟩⟩
      | false => exact ⟨_, okR, pR', by omega, .inr (.inl ⟨c6, rfl, rfl⟩)⟩
    · exact ⟨_, okR, pR', by omega, .inr (.inr ⟨c6, rfl⟩)⟩
  refine ⟨A4, nextT s6 3, okA4, pA4, nA4, hs7, ?_⟩
  have hRq : ∀ q, q < R → q < C ∧ 1 < A2.n := fun q hq => by
    rw [hR] at hq
    split at hq
    · exact ⟨hq, by assumption⟩
    · omega
  have hRe : R = C ∨ A2.n ≤ 1 := by
    rw [hR]
    split
    · exact .inl rfl
    · exact .inr (by omega)
  have k0a : Chunk.data 3 [srcL s5] = .data 3 [srcL (S 0).1] := by rw [hS0]
  have k0b : ∀ X, Chunk.data 224 ([algL X].set 0 (splice (algL X) 0 (algL A2))) = .data 224 [algL A2] := fun X => by rw [al_alg]; rfl
  have k0c : Chunk.data 224 [algL A2] = .data 224 [algL (S 0).2] := by rw [hS0]
  have newF_prog : vecL (prog (S R).2.n.toNat (newF (S R).2 v) Z) = vecL (newF (S R).2 v) := cel_ext fun j _ => by
    unfold prog newF Z
    split
    · rfl
    · rw [if_neg (by omega)]
  clear hR
  have T2 := hNx (n := 3) hs2 (by omega)
  have fF : ∀ i, get2 [algL (F i).2] 0 (0 + 1) = some (.int .i64 (F i).2.n) := fun i => (algAt_one _).n
  have f2 : get2 [algL a2] 0 (0 + 1) = some (.int .i64 a2.n) := (algAt_one _).n
  have fall : ∀ a : Alg, sub2 [algL a] 0 0 224 = some (algL a) := fun a => (algAt_one a).all
  have fn : ∀ a : Alg, get2 [algL a] 0 (0 + 1) = some (.int .i64 a.n) := fun a => (algAt_one a).n
  have hla : ∀ a : Alg, (algL a).length = 224 := fun a => arr_len ..
  have h0a : Chunk.data 3 [srcL s0] = .data 3 [srcL (F 0).1] := by rw [hF0]
  have h0b : Chunk.data algZ.length ([algZ].set 0 (splice algZ 0 (algL a0))) = .data 224 [algL (F 0).2] := by rw [hF0, sz_alg, algZ_len]; rfl
  have z1 := ok1.n
  have z2 := ok2.n
  have z3 : 0 ≤ (F n).2.n * a2.n ∧ (F n).2.n * a2.n ≤ 6 * 6 := mul_bd (by omega) (by omega)
  refine can_ofB hf rfl rfl rfl rfl ?_
  (repeat' (conv => whnf)<;>first|exact True.intro|(refine if_ ?_ ?_<;>intro h<;>first|exact h.elim|(exfalso; omega)|skip)|refine vs_ ?_ (by first|(rw [nmL_len]; exact ⟨rfl, b0⟩) | exact ⟨rfl, b0⟩|exact sd_)|refine dv_ ?_|exact fin_|(show ∃ _, _ ∧ _; refine ex_ ?_ (by first|with_reducible exact rfl|exact hL|with_reducible exact N0|with_reducible exact G0|with_reducible exact A0|exact rd_))|(show ∃ _ _, _ ∧ _; refine ex2_ ?_ (by first|with_reducible exact rfl|exact hL|with_reducible exact N0|with_reducible exact G0|with_reducible exact A0|exact rd_)))
  conv => whnf
  refine vc_loop (α := Nat) 0 (fun i => n - i) (fun i => i ≤ n) [] (fun i => [(8, .ptr 9 224 0 0)]) (fun i => [(0, .data 3 [srcL (F i).1]), (9, .data 224 [algL (F i).2])]) lp_ ?_ ?_
  · (repeat' (conv => whnf)<;>first|exact True.intro|(refine if_ ?_ ?_<;>intro h<;>first|exact h.elim|(exfalso; omega)|skip)|refine vs_ ?_ (by first|exact h0a | exact h0b|exact sd_)|refine dv_ ?_|exact fin_|(show ∃ _, _ ∧ _; refine ex_ ?_)|(show ∃ _ _, _ ∧ _; refine ex2_ ?_))
  · intro i hi
    obtain ⟨g1, g2, g3⟩ := hfit i
    by_cases hlt : i < n
    · have q0 := hn2 i hlt
      have b5 := nextV_bd (s := (F i).1) (n := 4) (by omega)
      have N5 := hNx (n := 4) g1 (by omega)
      have A5 : Can P N.spec_l01Named [.str (nmS (nextV (F i).1 4).toNat), .int .i64 p] (.tup [algD (nmA (nextV (F i).1 4).toNat p), .bool true]) := hA (by omega) hp
      have G5 := nm_get (x := nextV (F i).1 4) (by omega)
      (repeat' (conv => whnf)<;>first|exact True.intro|(refine if_ ?_ ?_<;>intro h<;>first|exact h.elim|(exfalso; omega)|skip)|refine vs_ ?_ (by first|(rw [nmL_len]; exact ⟨rfl, by omega⟩) | exact ⟨rfl, by omega⟩ | (rw [hla]; omega)|exact sd_)|refine dv_ ?_|exact fin_|(show ∃ _, _ ∧ _; refine ex_ ?_ (by first|with_reducible exact rfl|with_reducible exact fF i|with_reducible exact N5|with_reducible exact G5|with_reducible exact A5|exact rd_))|(show ∃ _ _, _ ∧ _; refine ex2_ ?_ (by first|with_reducible exact rfl|with_reducible exact fF i|with_reducible exact N5|with_reducible exact G5|with_reducible exact A5|exact rd_)))
      conv => whnf
      refine ⟨i + 1, by omega, by omega, ?_⟩
      rw [hFs]
      (repeat' (conv => whnf)<;>first|exact True.intro|(refine if_ ?_ ?_<;>intro h<;>first|exact h.elim|(exfalso; omega)|skip)|refine vs_ ?_ (by first|(rw [al_alg]; exact rfl)|exact sd_)|refine dv_ ?_|exact fin_|(show ∃ _, _ ∧ _; refine ex_ ?_)|(show ∃ _ _, _ ∧ _; refine ex2_ ?_))
    · have : i = n := by omega
      subst this
      (repeat' (conv => whnf)<;>first|exact True.intro|(refine if_ ?_ ?_<;>intro h<;>first|exact h.elim|(exfalso; omega)|skip)|refine vs_ ?_ (by first|(rw [nmL_len]; exact ⟨rfl, by omega⟩) | exact ⟨rfl, by omega⟩ | (rw [hla]; omega)|exact sd_)|refine dv_ ?_|exact fin_|(show ∃ _, _ ∧ _; refine ex_ ?_ (by first|with_reducible exact rfl|with_reducible exact fF i|with_reducible exact N1|with_reducible exact G1|with_reducible exact A1|exact rd_))|(show ∃ _ _, _ ∧ _; refine ex2_ ?_ (by first|with_reducible exact rfl|with_reducible exact fF i|with_reducible exact N1|with_reducible exact G1|with_reducible exact A1|exact rd_)))
      conv => whnf
      refine vc_cut [] [(8, .ptr 9 224 0 0)] [(0, .data 3 [srcL s4]), (9, .data 224 [algL A2])] ?_ ?_
      rotate_left
      · intro K hK
        have y2 : get2 ([algZ].set 0 (splice algZ 0 (algL a2))) 0 (0 + 1) = some (.int .i64 a2.n) := by rw [sz_alg]; exact f2
        have y3 : sub2 ([algZ].set 0 (splice algZ 0 (algL a2))) 0 0 224 = some (algL a2) := by rw [sz_alg]; exact fall a2
        rcases J with ⟨c1, c2, rfl, rfl⟩ | ⟨s3, hs3, ⟨c1, c2, rfl⟩ | ⟨c1, rfl⟩, ⟨c3, c4, rfl, rfl⟩ | ⟨c3, c4, rfl, rfl⟩ | ⟨c3, rfl, rfl⟩⟩
        · have SS := hS ok1 ok2 (by omega)
          (repeat' (conv => whnf)<;>first|exact True.intro|(refine if_ ?_ ?_<;>intro h<;>first|exact h.elim|(exfalso; omega)|skip)|refine vs_ ?_ (by first|(rw [nmL_len]; exact ⟨rfl, by omega⟩) | exact ⟨rfl, by omega⟩ | (rw [hla]; omega)|exact sd_)|refine dv_ ?_|exact fin_|(show ∃ _, _ ∧ _; refine ex_ ?_ (by first|with_reducible exact rfl|with_reducible exact fF i|with_reducible exact y2|with_reducible exact y3|with_reducible exact fall _|with_reducible exact T2|exact SS|exact rd_))|(show ∃ _ _, _ ∧ _; refine ex2_ ?_ (by first|with_reducible exact rfl|with_reducible exact fF i|with_reducible exact y2|with_reducible exact y3|with_reducible exact fall _|with_reducible exact T2|exact SS|exact rd_)))
          all_goals (refine hK _ ?_)
          all_goals ((repeat' (conv => whnf)<;>first|exact True.intro|(refine if_ ?_ ?_<;>intro h<;>first|exact h.elim|(exfalso; omega)|skip)|refine vs_ ?_ (by first|exact k0b _|exact sd_)|refine dv_ ?_|exact fin_|(show ∃ _, _ ∧ _; refine ex_ ?_)|(show ∃ _ _, _ ∧ _; refine ex2_ ?_)))
        · have T3 := hNx (n := 3) hs3 (by omega)
          have TT := hT ok1 ok2 (by omega)
          (repeat' (conv => whnf)<;>first|exact True.intro|(refine if_ ?_ ?_<;>intro h<;>first|exact h.elim|(exfalso; omega)|skip)|refine vs_ ?_ (by first|(rw [nmL_len]; exact ⟨rfl, by omega⟩) | exact ⟨rfl, by omega⟩ | (rw [hla]; omega)|exact sd_)|refine dv_ ?_|exact fin_|(show ∃ _, _ ∧ _; refine ex_ ?_ (by first|with_reducible exact rfl|with_reducible exact fF i|with_reducible exact y2|with_reducible exact y3|with_reducible exact fall _|with_reducible exact T2|exact T3|exact TT|exact rd_))|(show ∃ _ _, _ ∧ _; refine ex2_ ?_ (by first|with_reducible exact rfl|with_reducible exact fF i|with_reducible exact y2|with_reducible exact y3|with_reducible exact fall _|with_reducible exact T2|exact T3|exact TT|exact rd_)))
          all_goals (refine hK _ ?_)
          all_goals ((repeat' (conv => whnf)<;>first|exact True.intro|(refine if_ ?_ ?_<;>intro h<;>first|exact h.elim|(exfalso; omega)|skip)|refine vs_ ?_ (by first|exact k0b _|exact sd_)|refine dv_ ?_|exact fin_|(show ∃ _, _ ∧ _; refine ex_ ?_)|(show ∃ _ _, _ ∧ _; refine ex2_ ?_)))
        · have T3 := hNx (n := 3) hs3 (by omega)
          (repeat' (conv => whnf)<;>first|exact True.intro|(refine if_ ?_ ?_<;>intro h<;>first|exact h.elim|(exfalso; omega)|skip)|refine vs_ ?_ (by first|(rw [nmL_len]; exact ⟨rfl, by omega⟩) | exact ⟨rfl, by omega⟩ | (rw [hla]; omega)|exact sd_)|refine dv_ ?_|exact fin_|(show ∃ _, _ ∧ _; refine ex_ ?_ (by first|with_reducible exact rfl|with_reducible exact fF i|with_reducible exact y2|with_reducible exact y3|with_reducible exact fall _|with_reducible exact T2|exact T3|exact rd_))|(show ∃ _ _, _ ∧ _; refine ex2_ ?_ (by first|with_reducible exact rfl|with_reducible exact fF i|with_reducible exact y2|with_reducible exact y3|with_reducible exact fall _|with_reducible exact T2|exact T3|exact rd_)))
          all_goals (refine hK _ ?_)
          all_goals ((repeat' (conv => whnf)<;>first|exact True.intro|(refine if_ ?_ ?_<;>intro h<;>first|exact h.elim|(exfalso; omega)|skip)|refine vs_ ?_ (by first|exact k0b _|exact sd_)|refine dv_ ?_|exact fin_|(show ∃ _, _ ∧ _; refine ex_ ?_)|(show ∃ _ _, _ ∧ _; refine ex2_ ?_)))
        · have T3 := hNx (n := 3) hs3 (by omega)
          (repeat' (conv => whnf)<;>first|exact True.intro|(refine if_ ?_ ?_<;>intro h<;>first|exact h.elim|(exfalso; omega)|skip)|refine vs_ ?_ (by first|(rw [nmL_len]; exact ⟨rfl, by omega⟩) | exact ⟨rfl, by omega⟩ | (rw [hla]; omega)|exact sd_)|refine dv_ ?_|exact fin_|(show ∃ _, _ ∧ _; refine ex_ ?_ (by first|with_reducible exact rfl|with_reducible exact fF i|with_reducible exact y2|with_reducible exact y3|with_reducible exact fall _|with_reducible exact T2|exact T3|exact rd_))|(show ∃ _ _, _ ∧ _; refine ex2_ ?_ (by first|with_reducible exact rfl|with_reducible exact fF i|with_reducible exact y2|with_reducible exact y3|with_reducible exact fall _|with_reducible exact T2|exact T3|exact rd_)))
          all_goals (refine hK _ ?_)
          all_goals ((repeat' (conv => whnf)<;>first|exact True.intro|(refine if_ ?_ ?_<;>intro h<;>first|exact h.elim|(exfalso; omega)|skip)|refine vs_ ?_ (by first|exact k0b _|exact sd_)|refine dv_ ?_|exact fin_|(show ∃ _, _ ∧ _; refine ex_ ?_)|(show ∃ _ _, _ ∧ _; refine ex2_ ?_)))
        · have T3 := hNx (n := 3) hs3 (by omega)
          have TT := hT ok1 ok2 (by omega)
          (repeat' (conv => whnf)<;>first|exact True.intro|(refine if_ ?_ ?_<;>intro h<;>first|exact h.elim|(exfalso; omega)|skip)|refine vs_ ?_ (by first|(rw [nmL_len]; exact ⟨rfl, by omega⟩) | exact ⟨rfl, by omega⟩ | (rw [hla]; omega)|exact sd_)|refine dv_ ?_|exact fin_|(show ∃ _, _ ∧ _; refine ex_ ?_ (by first|with_reducible exact rfl|with_reducible exact fF i|with_reducible exact y2|with_reducible exact y3|with_reducible exact fall _|with_reducible exact T2|exact T3|exact TT|exact rd_))|(show ∃ _ _, _ ∧ _; refine ex2_ ?_ (by first|with_reducible exact rfl|with_reducible exact fF i|with_reducible exact y2|with_reducible exact y3|with_reducible exact fall _|with_reducible exact T2|exact T3|exact TT|exact rd_)))
          all_goals (refine hK _ ?_)
          all_goals ((repeat' (conv => whnf)<;>first|exact True.intro|(refine if_ ?_ ?_<;>intro h<;>first|exact h.elim|(exfalso; omega)|skip)|refine vs_ ?_ (by first|exact k0b _|exact sd_)|refine dv_ ?_|exact fin_|(show ∃ _, _ ∧ _; refine ex_ ?_)|(show ∃ _ _, _ ∧ _; refine ex2_ ?_)))
        · have T3 := hNx (n := 3) hs3 (by omega)
          (repeat' (conv => whnf)<;>first|exact True.intro|(refine if_ ?_ ?_<;>intro h<;>first|exact h.elim|(exfalso; omega)|skip)|refine vs_ ?_ (by first|(rw [nmL_len]; exact ⟨rfl, by omega⟩) | exact ⟨rfl, by omega⟩ | (rw [hla]; omega)|exact sd_)|refine dv_ ?_|exact fin_|(show ∃ _, _ ∧ _; refine ex_ ?_ (by first|with_reducible exact rfl|with_reducible exact fF i|with_reducible exact y2|with_reducible exact y3|with_reducible exact fall _|with_reducible exact T2|exact T3|exact rd_))|(show ∃ _ _, _ ∧ _; refine ex2_ ?_ (by first|with_reducible exact rfl|with_reducible exact fF i|with_reducible exact y2|with_reducible exact y3|with_reducible exact fall _|with_reducible exact T2|exact T3|exact rd_)))
          all_goals (refine hK _ ?_)
          all_goals ((repeat' (conv => whnf)<;>first|exact True.intro|(refine if_ ?_ ?_<;>intro h<;>first|exact h.elim|(exfalso; omega)|skip)|refine vs_ ?_ (by first|exact k0b _|exact sd_)|refine dv_ ?_|exact fin_|(show ∃ _, _ ∧ _; refine ex_ ?_)|(show ∃ _ _, _ ∧ _; refine ex2_ ?_)))
        · have T3 := hNx (n := 3) hs3 (by omega)
          (repeat' (conv => whnf)<;>first|exact True.intro|(refine if_ ?_ ?_<;>intro h<;>first|exact h.elim|(exfalso; omega)|skip)|refine vs_ ?_ (by first|(rw [nmL_len]; exact ⟨rfl, by omega⟩) | exact ⟨rfl, by omega⟩ | (rw [hla]; omega)|exact sd_)|refine dv_ ?_|exact fin_|(show ∃ _, _ ∧ _; refine ex_ ?_ (by first|with_reducible exact rfl|with_reducible exact fF i|with_reducible exact y2|with_reducible exact y3|with_reducible exact fall _|with_reducible exact T2|exact T3|exact rd_))|(show ∃ _ _, _ ∧ _; refine ex2_ ?_ (by first|with_reducible exact rfl|with_reducible exact fF i|with_reducible exact y2|with_reducible exact y3|with_reducible exact fall _|with_reducible exact T2|exact T3|exact rd_)))
          all_goals (refine hK _ ?_)
          all_goals ((repeat' (conv => whnf)<;>first|exact True.intro|(refine if_ ?_ ?_<;>intro h<;>first|exact h.elim|(exfalso; omega)|skip)|refine vs_ ?_ (by first|exact k0b _|exact sd_)|refine dv_ ?_|exact fin_|(show ∃ _, _ ∧ _; refine ex_ ?_)|(show ∃ _ _, _ ∧ _; refine ex2_ ?_)))
      · (repeat' (conv => whnf)<;>first|exact True.intro|(refine if_ ?_ ?_<;>intro h<;>first|exact h.elim|(exfalso; omega)|skip)|refine vs_ ?_|refine dv_ ?_|exact fin_|(show ∃ _, _ ∧ _; refine ex_ ?_ (by first|with_reducible exact rfl|exact K4|exact rd_))|(show ∃ _ _, _ ∧ _; refine ex2_ ?_ (by first|with_reducible exact rfl|exact K4|exact rd_)))
        conv => whnf
        refine vc_cut [] [] [(0, .data 3 [srcL (S R).1]), (9, .data 224 [algL (S R).2])] ?_ ?_
        rotate_left
        · intro K hK
          conv => whnf
          refine vc_loop (α := Nat) 0 (fun q => R - q) (fun q => q ≤ R) [] (fun q => [(12, .d (.int .i64 ((C : Int) - q)))]) (fun q => [(0, .data 3 [srcL (S q).1]), (9, .data 224 [algL (S q).2])]) lp_ ?_ ?_
          · (repeat' (conv => whnf)<;>first|exact True.intro|(refine if_ ?_ ?_<;>intro h<;>first|exact h.elim|(exfalso; omega)|skip)|refine vs_ ?_ (by first|exact k0a | exact k0c|exact sd_)|refine dv_ ?_|exact fin_|(show ∃ _, _ ∧ _; refine ex_ ?_)|(show ∃ _ _, _ ∧ _; refine ex2_ ?_))
          · intro q hq
            obtain ⟨g1, g2, g3, g4⟩ := hshr q
            have y1 := g2.n
            by_cases hlt2 : q < R
            · have hq2 := hRq q hlt2
              have bi := nextV_bd (s := (S q).1) (n := (S q).2.n) (by omega)
              have Ni := hNx (n := (S q).2.n) g1 (by omega)
              have g5 := nextT_ok g1 (S q).2.n
              have hst := hSs q
              unfold shrS at hst
              dsimp only at hst
              have fq := fn (S q).2
              have faq := fall (S q).2
              generalize nextV (S q).1 (S q).2.n = i0 at *
              generalize nextT (S q).1 (S q).2.n = t1 at *
              have bj := nextV_bd (s := t1) (n := (S q).2.n) (by omega)
              have Nj := hNx (n := (S q).2.n) g5 (by omega)
              have g6 := nextT_ok g5 (S q).2.n
              generalize nextV t1 (S q).2.n = j0 at *
              generalize nextT t1 (S q).2.n = t2 at *
              have bkk := nextV_bd (s := t2) (n := p) (by omega)
              have Nk := hNx (n := p) g6 (by omega)
              have HS := hH (a := (S q).2) (i := i0.toNat) (j := j0.toNat) (k := nextV t2 p) g2 (by omega) (by omega) (by omega)
              rw [show ((i0.toNat : Nat) : Int) = i0 by omega, show ((j0.toNat : Nat) : Int) = j0 by omega] at HS
              by_cases cij : i0 = j0
              · rw [if_pos cij] at hst
                (repeat' (conv => whnf)<;>first|exact True.intro|(refine if_ ?_ ?_<;>intro h<;>first|exact h.elim|(exfalso; omega)|skip)|refine vs_ ?_|refine dv_ ?_|exact fin_|(show ∃ _, _ ∧ _; refine ex_ ?_ (by first|with_reducible exact rfl|with_reducible exact fq|with_reducible exact Ni|with_reducible exact Nj|exact rd_))|(show ∃ _ _, _ ∧ _; refine ex2_ ?_ (by first|with_reducible exact rfl|with_reducible exact fq|with_reducible exact Ni|with_reducible exact Nj|exact rd_)))
                conv => whnf
                refine ⟨q + 1, by omega, by omega, ?_⟩
                rw [hst]
                (repeat' (conv => whnf)<;>first|exact True.intro|(refine if_ ?_ ?_<;>intro h<;>first|exact h.elim|(exfalso; omega)|skip)|refine vs_ ?_|refine dv_ ?_|exact fin_|(show ∃ _, _ ∧ _; refine ex_ ?_)|(show ∃ _ _, _ ∧ _; refine ex2_ ?_))
              · rw [if_neg cij] at hst
                (repeat' (conv => whnf)<;>first|exact True.intro|(refine if_ ?_ ?_<;>intro h<;>first|exact h.elim|(exfalso; omega)|skip)|refine vs_ ?_ (by first|(rw [hla]; omega)|exact sd_)|refine dv_ ?_|exact fin_|(show ∃ _, _ ∧ _; refine ex_ ?_ (by first|with_reducible exact rfl|with_reducible exact fq|with_reducible exact Ni|with_reducible exact Nj|with_reducible exact Nk|with_reducible exact HS|with_reducible exact faq|exact rd_))|(show ∃ _ _, _ ∧ _; refine ex2_ ?_ (by first|with_reducible exact rfl|with_reducible exact fq|with_reducible exact Ni|with_reducible exact Nj|with_reducible exact Nk|with_reducible exact HS|with_reducible exact faq|exact rd_)))
                conv => whnf
                refine ⟨q + 1, by omega, by omega, ?_⟩
                rw [hst]
                (repeat' (conv => whnf)<;>first|exact True.intro|(refine if_ ?_ ?_<;>intro h<;>first|exact h.elim|(exfalso; omega)|skip)|refine vs_ ?_ (by first|(rw [al_alg]; exact rfl)|exact sd_)|refine dv_ ?_|exact fin_|(show ∃ _, _ ∧ _; refine ex_ ?_)|(show ∃ _ _, _ ∧ _; refine ex2_ ?_))
            · have : q = R := by omega
              subst this
              have fq := fn (S q).2
              (repeat' (conv => whnf)<;>first|exact True.intro|(refine if_ ?_ ?_<;>intro h<;>first|exact h.elim|(exfalso; omega)|skip)|refine vs_ ?_|refine dv_ ?_|exact fin_|(show ∃ _, _ ∧ _; refine ex_ ?_ (by first|with_reducible exact rfl|with_reducible exact fq|exact rd_))|(show ∃ _ _, _ ∧ _; refine ex2_ ?_ (by first|with_reducible exact rfl|with_reducible exact fq|exact rd_)))
              all_goals (refine hK _ ?_)
              all_goals (repeat' (conv => whnf)<;>first|exact True.intro|(refine if_ ?_ ?_<;>intro h<;>first|exact h.elim|(exfalso; omega)|skip)|refine vs_ ?_|refine dv_ ?_|exact fin_|(show ∃ _, _ ∧ _; refine ex_ ?_)|(show ∃ _ _, _ ∧ _; refine ex2_ ?_))
        · have fq := fn (S R).2
          have faq := fall (S R).2
          rcases eA4 with ⟨c6, rfl, rfl⟩ | ⟨c6, rfl, rfl⟩ | ⟨c6, rfl⟩
          · (repeat' (conv => whnf)<;>first|exact True.intro|(refine if_ ?_ ?_<;>intro h<;>first|exact h.elim|(exfalso; omega)|skip)|refine vs_ ?_ (by first|(rw [hla]; omega)|exact sd_)|refine dv_ ?_|exact fin_|(show ∃ _, _ ∧ _; refine ex_ ?_ (by first|with_reducible exact rfl|with_reducible exact fq|with_reducible exact faq|exact V6|exact N6|exact B6|exact rd_v1|exact rd_))|(show ∃ _ _, _ ∧ _; refine ex2_ ?_ (by first|with_reducible exact rfl|with_reducible exact fq|with_reducible exact faq|exact V6|exact N6|exact B6|exact rd_v1|exact rd_)))
            conv => whnf
            refine vc_loop (α := Nat) 0 (fun x => (S R).2.n.toNat - x) (fun x => x ≤ (S R).2.n.toNat) [] (fun x => [(19, .d (.int .i64 x))]) (fun x => [(19, .data 6 [vecL (prog x (newF (S R).2 v) Z)])]) lp_ ?_ ?_
            · (repeat' (conv => whnf)<;>first|exact True.intro|(refine if_ ?_ ?_<;>intro h<;>first|exact h.elim|(exfalso; omega)|skip)|refine vs_ ?_ (by first|exact zeros6 (fun i _ => by simp [prog, Z])|exact sd_)|refine dv_ ?_|exact fin_|(show ∃ _, _ ∧ _; refine ex_ ?_)|(show ∃ _ _, _ ∧ _; refine ex2_ ?_))
            · intro x hx
              by_cases hlt3 : x < (S R).2.n.toNat
              · have B7 := hBs (i := x) (by omega)
                have T7 := hTm (a := (S R).2) okR.b hv (basV_byt x) (by omega) (by omega)
                have F7 := hFm (a := (S R).2) okR.b ((times_rw (a := (S R).2) (by omega) v (basV x)).byt (by omega)) (by omega)
                have m7 := mod_bd (fsum (S R).2 (timesV (S R).2 v (basV x)) 6) (show 1 ≤ (S R).2.p by omega)
                have m8 : 0 ≤ formV (S R).2 (timesV (S R).2 v (basV x)) ∧ formV (S R).2 (timesV (S R).2 v (basV x)) < (S R).2.p := m7
                (repeat' (conv => whnf)<;>first|exact True.intro|(refine if_ ?_ ?_<;>intro h<;>first|exact h.elim|(exfalso; omega)|skip)|refine vs_ ?_|refine dv_ ?_|exact fin_|(show ∃ _, _ ∧ _; refine ex_ ?_ (by first|with_reducible exact rfl|with_reducible exact fq|with_reducible exact faq|exact rd_v1|exact B7|exact T7|exact F7|exact rd_))|(show ∃ _ _, _ ∧ _; refine ex2_ ?_ (by first|with_reducible exact rfl|with_reducible exact fq|with_reducible exact faq|exact rd_v1|exact B7|exact T7|exact F7|exact rd_)))
                conv => whnf
                refine ⟨x + 1, by omega, by omega, ?_⟩
                (repeat' (conv => whnf)<;>first|exact True.intro|(refine if_ ?_ ?_<;>intro h<;>first|exact h.elim|(exfalso; omega)|skip)|refine vs_ ?_ (by first|exact st_prog (by unfold newF; rw [if_pos (by omega)])|exact sd_)|refine dv_ ?_|exact fin_|(show ∃ _, _ ∧ _; refine ex_ ?_)|(show ∃ _ _, _ ∧ _; refine ex2_ ?_))
              · have ex : x = (S R).2.n.toNat := by omega
                rw [ex, newF_prog]
                (repeat' (conv => whnf)<;>first|exact True.intro|(refine if_ ?_ ?_<;>intro h<;>first|exact h.elim|(exfalso; omega)|skip)|refine vs_ ?_ (by first|(rw [hla]; omega)|exact sd_)|refine dv_ ?_|exact fin_|(show ∃ _, _ ∧ _; refine ex_ ?_ (by first|with_reducible exact rfl|with_reducible exact fq|with_reducible exact faq|exact rd_))|(show ∃ _ _, _ ∧ _; refine ex2_ ?_ (by first|with_reducible exact rfl|with_reducible exact fq|with_reducible exact faq|exact rd_)))
                all_goals (rw [L_setV])
                all_goals ((repeat' (conv => whnf)<;>first|exact True.intro|(refine if_ ?_ ?_<;>intro h<;>first|exact h.elim|(exfalso; omega)|skip)|refine vs_ ?_|refine dv_ ?_|exact fin_|(show ∃ _, _ ∧ _; refine ex_ ?_ (by first|with_reducible exact rfl|exact fall _|exact rd_))|(show ∃ _ _, _ ∧ _; refine ex2_ ?_ (by first|with_reducible exact rfl|exact fall _|exact rd_))))
          · (repeat' (conv => whnf)<;>first|exact True.intro|(refine if_ ?_ ?_<;>intro h<;>first|exact h.elim|(exfalso; omega)|skip)|refine vs_ ?_ (by first|(rw [hla]; omega)|exact sd_)|refine dv_ ?_|exact fin_|(show ∃ _, _ ∧ _; refine ex_ ?_ (by first|with_reducible exact rfl|with_reducible exact fq|with_reducible exact faq|exact V6|exact N6|exact B6|exact rd_v1|exact rd_))|(show ∃ _ _, _ ∧ _; refine ex2_ ?_ (by first|with_reducible exact rfl|with_reducible exact fq|with_reducible exact faq|exact V6|exact N6|exact B6|exact rd_v1|exact rd_)))
          · (repeat' (conv => whnf)<;>first|exact True.intro|(refine if_ ?_ ?_<;>intro h<;>first|exact h.elim|(exfalso; omega)|skip)|refine vs_ ?_ (by first|(rw [hla]; omega)|exact sd_)|refine dv_ ?_|exact fin_|(show ∃ _, _ ∧ _; refine ex_ ?_ (by first|with_reducible exact rfl|with_reducible exact fq|with_reducible exact faq|exact V6|exact N6|exact rd_))|(show ∃ _ _, _ ∧ _; refine ex2_ ?_ (by first|with_reducible exact rfl|with_reducible exact fq|with_reducible exact faq|exact V6|exact N6|exact rd_)))
end Go.X
namespace Go.X
open Go Go.RowKit
set_option maxRecDepth 100000
set_option linter.unusedVariables false
def invM (a : Alg) (v : Row) (q i : Nat) : Nat → Int := if q % 2 = 0 then timesV a v (basV i) else timesV a (basV i) v
def iBack (a : Alg) (v : Row) : Option (Nat → Int) := solvedF a.p a.n.toNat 2 (invM a v) (fun _ => iUnit a)
theorem dot_l {a : Alg} (hp : 1 ≤ a.p) (v w : Row) (k : Nat) : dot a.n.toNat (fun i => timesV a v (basV i) k) w % a.p = timesV a v w k := by
  have h := lin_r (a := a) (v := v) k w
  have h2 := times_rw hp v w k
  rw [Int.emod_eq_of_lt h2.1 h2.2] at h
  exact (congrArg (· % a.p) (dot_comm (n := a.n.toNat) (r := fun i => timesV a v (basV i) k) (v := w))).trans h.symm
theorem dot_r {a : Alg} (hp : 1 ≤ a.p) (v w : Row) (k : Nat) : dot a.n.toNat (fun i => timesV a (basV i) v k) w % a.p = timesV a w v k := by
  have h := lin_l (a := a) (w := v) k w
  have h2 := times_rw hp w v k
  rw [Int.emod_eq_of_lt h2.1 h2.2] at h
  exact (congrArg (· % a.p) (dot_comm (n := a.n.toNat) (r := fun i => timesV a (basV i) v k) (v := w))).trans h.symm
theorem dot_congr {n : Nat} {f g w : Row} (h : ∀ i, i < n → f i = g i) : dot n f w = dot n g w := sumN_ext fun i hi => by rw [h i hi]
theorem invM_rw {a : Alg} (hp : 1 ≤ a.p) (v : Row) (q i k : Nat) : 0 ≤ invM a v q i k ∧ invM a v q i k < a.p := by
  unfold invM; split <;> exact times_rw hp _ _ k
def invL (a : Alg) (v : Row) : List Row := arr (2 * a.n.toNat) (fullR (invM a v) (fun _ => iUnit a) a.n.toNat)
theorem invL_rw {a : Alg} (ha : AlgOk a) (v : Row) : RwL a.p (invL a v) := fullR_rw (invM_rw (by have := prime_bd ha.p; omega) v) (fun _ k => iUnit_rw ha k)
theorem sol_inv {a : Alg} (ha : AlgOk a) {v w : Row} : Sol a.p a.n.toNat (invL a v) w ↔ ∀ k, k < a.n.toNat → timesV a v w k = iUnit a k ∧ timesV a w v k = iUnit a k := by
  have hp := prime_bd ha.p
  have hn := ha.n
  have hu := iUnit_rw ha
  have key : ∀ q k, k < a.n.toNat → (dot a.n.toNat (fullR (invM a v) (fun _ => iUnit a) a.n.toNat (q * a.n.toNat + k)) w % a.p = fullR (invM a v) (fun _ => iUnit a) a.n.toNat (q * a.n.toNat + k) a.n.toNat % a.p ↔ (if q % 2 = 0 then timesV a v w k else timesV a w v k) = iUnit a k) := fun q k hk => by
    have e1 : (q * a.n.toNat + k) / a.n.toNat = q := by rw [Nat.mul_comm, Nat.mul_add_div (by omega), Nat.div_eq_of_lt hk, Nat.add_zero]
    have e2 : (q * a.n.toNat + k) % a.n.toNat = k := by rw [Nat.mul_comm, Nat.mul_add_mod, Nat.mod_eq_of_lt hk]
    have e3 : fullR (invM a v) (fun _ => iUnit a) a.n.toNat (q * a.n.toNat + k) a.n.toNat = iUnit a k := by
      unfold fullR; rw [if_neg (by omega), e2]
    have e4 : dot a.n.toNat (fullR (invM a v) (fun _ => iUnit a) a.n.toNat (q * a.n.toNat + k)) w = dot a.n.toNat (fun i => invM a v q i k) w := dot_congr fun i hi => by
      unfold fullR; rw [if_pos hi, e1, e2]
    rw [e3, e4, Int.emod_eq_of_lt (hu k).1 (hu k).2]
    unfold invM
    by_cases c : q % 2 = 0
    · simp only [if_pos c]; rw [dot_l (by omega)]
    · simp only [if_neg c]; rw [dot_r (by omega)]
  rw [sol_iff]
  constructor
  · intro h k hk
    have h0 := (key 0 k hk).1 (h _ (List.mem_map.2 ⟨0 * a.n.toNat + k, by rw [List.mem_range]; omega, rfl⟩))
    have h1 := (key 1 k hk).1 (h _ (List.mem_map.2 ⟨1 * a.n.toNat + k, by rw [List.mem_range]; omega, rfl⟩))
    exact ⟨h0, h1⟩
  · intro h r hr
    obtain ⟨i, hi, rfl⟩ := List.mem_map.1 hr
    rw [List.mem_range] at hi
    have hk : i % a.n.toNat < a.n.toNat := Nat.mod_lt _ (by omega)
    have e : i = (i / a.n.toNat) * a.n.toNat + i % a.n.toNat := by rw [Nat.mul_comm]; exact (Nat.div_add_mod ..).symm
    have := (key (i / a.n.toNat) (i % a.n.toNat) hk).2 (by
      split
      · exact (h _ hk).1
      · exact (h _ hk).2)
    rw [← e] at this
    exact this
theorem sol_back {a : Alg} (ha : AlgOk a) {v w : Row} : Sol a.p a.n.toNat (backL a v a.n.toNat) w ↔ ∀ k, k < a.n.toNat → timesV a w v k = sUnit a k := by
  have hp := prime_bd ha.p
  have hu := sUnit_rw ha
  have key : ∀ k, (dot a.n.toNat (backR a v k) w % a.p = backR a v k a.n.toNat % a.p ↔ timesV a w v k = sUnit a k) := fun k => by
    have e3 : backR a v k a.n.toNat = sUnit a k := by unfold backR; rw [if_neg (by omega)]
    have e4 : dot a.n.toNat (backR a v k) w = dot a.n.toNat (fun i => timesV a (basV i) v k) w := dot_congr fun i hi => by unfold backR; rw [if_pos hi]
    rw [e3, e4, Int.emod_eq_of_lt (hu k).1 (hu k).2, dot_r (by omega)]
  rw [sol_iff]
  constructor
  · intro h k hk
    exact (key k).1 (h _ (List.mem_map.2 ⟨k, by rw [List.mem_range]; omega, rfl⟩))
  · intro h r hr
    obtain ⟨i, hi, rfl⟩ := List.mem_map.1 hr
    rw [List.mem_range] at hi
    exact (key i).2 (h i hi)
theorem vec_fun {n : Nat} {f g : Row} (h : ∀ k, k < n → f k = g k) (hf : ∀ k, n ≤ k → f k = 0) (hg : ∀ k, n ≤ k → g k = 0) : f = g := by
  funext k
  by_cases c : k < n
  · exact h k c
  · rw [hf k (by omega), hg k (by omega)]
theorem times_vecR {a : Alg} {v r : Row} : timesV a v (vecR a.n.toNat r) = timesV a v r ∧ timesV a (vecR a.n.toNat r) v = timesV a r v := by
  constructor
  · funext k
    unfold timesV
    split
    · congr 1
      exact sumN_ext fun i hi => sumN_ext fun j hj => by rw [vecR_lt hj]
    · rfl
  · funext k
    unfold timesV
    split
    · congr 1
      exact sumN_ext fun i hi => sumN_ext fun j hj => by rw [vecR_lt hi]
    · rfl
theorem inv_same {a : Alg} (ha : AlgOk a) (hs : AssocP a) (hu : (findF a).isSome = true) (v : Row) :
    (iBack a v = none ∧ (backV a v).2 = false) ∨ ∃ w, iBack a v = some w ∧ backV a v = (w, true) ∧ timesV a v w = sUnit a ∧ timesV a w v = sUnit a ∧ Rw a.p w ∧ ∀ i, a.n.toNat ≤ i → w i = 0 := by
  have hp := prime_bd ha.p
  have hn := ha.n
  obtain ⟨uL, uR, urw, uz⟩ := unit_facts ha hu
  have eu : iUnit a = sUnit a := (unit_same ha).2
  have tz : ∀ x y : Row, ∀ k, a.n.toNat ≤ k → timesV a x y k = 0 := fun x y k hk => times_ge (by omega)
  have full : ∀ x y : Row, (∀ k, k < a.n.toNat → timesV a x y k = sUnit a k) → timesV a x y = sUnit a := fun x y h => vec_fun h (tz x y) uz
  have uniq : ∀ x w : Row, Rw a.p x → (∀ i, a.n.toNat ≤ i → x i = 0) → Rw a.p w → (∀ i, a.n.toNat ≤ i → w i = 0) → timesV a x v = sUnit a → timesV a v w = sUnit a → x = w := fun x w hx hxz hw hwz h1 h2 => by
    rw [← times_ur (by omega) uR hx hxz, ← h2, ← times_assoc ha hs, h1, times_ul (by omega) uL hw hwz]
  have hne : backL a v a.n.toNat ≠ [] := fun h => by
    have := congrArg List.length h
    rw [show (backL a v a.n.toNat).length = a.n.toNat from arr_len ..] at this
    simp only [List.length_nil] at this
    omega
  have vz : ∀ r : Row, ∀ i, a.n.toNat ≤ i → vecR a.n.toNat r i = 0 := fun r i hi => by unfold vecR; rw [if_neg (by omega)]
  have hI : ∀ r, iSolveF a.p a.n.toNat (invL a v) = some r → timesV a v (vecR a.n.toNat r) = sUnit a ∧ timesV a (vecR a.n.toNat r) v = sUnit a ∧ Rw a.p (vecR a.n.toNat r) := fun r h => by
    have h1 := (sol_inv ha).1 (iSolve_some ha.p (invL_rw ha v) h)
    rw [eu] at h1
    exact ⟨times_vecR.1.trans (full _ _ fun k hk => (h1 k hk).1), times_vecR.2.trans (full _ _ fun k hk => (h1 k hk).2), vecR_rw (by omega) (iSolve_rw ha.p (invL_rw ha v) h)⟩
  have eI : iBack a v = (iSolveF a.p a.n.toNat (invL a v)).map (vecR a.n.toNat) := rfl
  unfold backV
  cases hsol : sSolveF a.p a.n.toNat (backL a v a.n.toNat) with
  | none =>
    left
    refine ⟨?_, rfl⟩
    cases hi : iSolveF a.p a.n.toNat (invL a v) with
    | none => rw [eI, hi]; rfl
    | some r =>
      obtain ⟨h1, h2, h3⟩ := hI r hi
      obtain ⟨s, hs1, _⟩ := sSolve_of ha.p (backL_rw ha v _) hne ((sol_back ha).2 fun k hk => by rw [h2]) h3 (fun x hx hxs i hi => by
        have e1 := (sol_back ha).1 hxs
        have e2 : timesV a (vecR a.n.toNat x) v = sUnit a := times_vecR.2.trans (full _ _ e1)
        have := uniq _ _ (vecR_rw (by omega) hx) (vz x) h3 (vz r) e2 h1
        rw [← vecR_lt (r := x) hi, this])
      rw [hs1] at hsol
      cases hsol
  | some r =>
    have hsr := sol_rw ha.p (backL_rw ha v _) hsol
    have h1 := (sol_back ha).1 (sSolve_some ha.p (backL_rw ha v _) hsol)
    have h2 : timesV a (vecR a.n.toNat r) v = sUnit a := times_vecR.2.trans (full _ _ h1)
    have hw := vecR_rw (n := a.n.toNat) (show 1 ≤ a.p by omega) hsr
    have same : ∀ r', iSolveF a.p a.n.toNat (invL a v) = some r' → vecR a.n.toNat r' = vecR a.n.toNat r := fun r' h => by
      obtain ⟨g1, g2, g3⟩ := hI r' h
      have := sSolve_uniq ha.p (backL_rw ha v _) hsol g3 ((sol_back ha).2 fun k hk => by rw [g2])
      exact vec_fun (n := a.n.toNat) (fun k hk => by rw [this k hk, vecR_lt hk]) (vz r') (vz r)
    dsimp only
    by_cases c : VEq (timesV a v (vecR a.n.toNat r)) (sUnit a)
    · right
      have c' : timesV a v (vecR a.n.toNat r) = sUnit a := full _ _ fun k hk => c k (by omega)
      rw [dB_t c]
      have hsome := iSolve_none ha.p (invL_rw ha v) ((sol_inv ha).2 fun k hk => by rw [eu]; exact ⟨congrFun c' k, congrFun h2 k⟩)
      obtain ⟨r', hr'⟩ := Option.isSome_iff_exists.1 hsome
      exact ⟨vecR a.n.toNat r, by rw [eI, hr']; exact congrArg some (same r' hr'), rfl, c', h2, hw, vz r⟩
    · left
      rw [dB_f c]
      refine ⟨?_, rfl⟩
      cases hi : iSolveF a.p a.n.toNat (invL a v) with
      | none => rw [eI, hi]; rfl
      | some r' =>
        obtain ⟨g1, g2, g3⟩ := hI r' hi
        rw [same r' hi] at g1
        exact absurd (fun k _ => congrFun g1 k) c
end Go.X
