import Derived.Test.YtphelkciklpakaaW11
set_option linter.all false
namespace Go.X
open Go Go.RowKit
set_option maxRecDepth 100000
set_option maxHeartbeats 8000000
set_option linter.unusedVariables false
variable {P : Program} {N : FN}
def dvS (p c : Int) (x : Src × Row) (i : Nat) : Src × Row :=
  if c = 0 then (nextT x.1 p, upd x.2 i (nextV x.1 p))
  else if nextV x.1 2 = 0 then (nextT (nextT x.1 2) p, upd x.2 i (nextV (nextT x.1 2) p)) else (nextT x.1 2, x.2)
def dvF (p c : Int) (s : Src) : Nat → Src × Row
  | 0 => (s, Z)
  | i + 1 => dvS p c (dvF p c s i) i
theorem upd_byt {v : Row} (h : Byts v) {i : Nat} {x : Int} (hx : 0 ≤ x ∧ x ≤ 255) : Byts (upd v i x) := fun j => by
  unfold upd
  split
  · exact hx
  · exact h j
theorem nextV_bd0 {s : Src} {n : Int} (h : 0 ≤ n) : 0 ≤ nextV s n ∧ nextV s n ≤ n := by
  by_cases c : n < 1
  · unfold nextV; rw [if_pos c]; omega
  · have := nextV_bd (s := s) (n := n) (by omega); omega
theorem dvF_ok {p c : Int} (hp : 0 ≤ p ∧ p ≤ 255) {s : Src} (hs : SrcOk s) : ∀ i, SrcOk (dvF p c s i).1 ∧ Byts (dvF p c s i).2
  | 0 => ⟨hs, fun _ => by show 0 ≤ (0 : Int) ∧ (0 : Int) ≤ 255; omega⟩
  | i + 1 => by
    obtain ⟨h1, h2⟩ := dvF_ok hp hs (c := c) i
    have b1 := nextV_bd0 (s := (dvF p c s i).1) hp.1
    have b2 := nextV_bd0 (s := nextT (dvF p c s i).1 2) hp.1
    show SrcOk (dvS p c (dvF p c s i) i).1 ∧ Byts (dvS p c (dvF p c s i) i).2
    unfold dvS
    split
    · exact ⟨nextT_ok h1 _, upd_byt h2 (by omega)⟩
    · split
      · exact ⟨nextT_ok (nextT_ok h1 _) _, upd_byt h2 (by omega)⟩
      · exact ⟨nextT_ok h1 2, h2⟩
theorem st_v1 {v : Row} {i : Nat} {x : Int} : Chunk.data 6 ([vecL v].set 0 ((vecL v).set (0 + ((i : Nat) : Int).toNat * 1) (.int .u8 x))) = .data 6 [vecL (upd v i x)] := by
  rw [show 0 + ((i : Nat) : Int).toNat * 1 = i by omega]
  exact congrArg (fun r => Chunk.data 6 [r]) cel_set
def C_drawVec (P : Program) (N : FN) : Prop := ∀ {s : Src} {a : Alg}, SrcOk s → 0 ≤ a.p ∧ a.p ≤ 255 → ∃ v s', Byts v ∧ SrcOk s' ∧ Can P N.spec_l01DrawVector [algD a] (.postB 3 [srcL s] [srcL s'] (.val (vecD v)))
theorem c_drawVec (hN : C_next P N) (hf : isFn P N.spec_l01DrawVector (ir_spec_l01DrawVector N) = true) : C_drawVec P N := by
  intro s a hs hp
  obtain ⟨n, hn⟩ : ∃ n, n = (min a.n 6).toNat := ⟨_, rfl⟩
  have f1 := (algAt_one a).p
  have f2 := (algAt_one a).n
  have hc := nextV_bd (s := s) (n := 3) (by omega)
  have hs0 := nextT_ok hs 3
  have hN3 := hN (n := 3) hs (by omega)
  generalize nextV s 3 = c at *
  generalize nextT s 3 = s0 at *
  obtain ⟨q1, q2⟩ := dvF_ok (c := c) hp hs0 n
  refine ⟨_, _, q2, q1, ?_⟩
  refine can_ofB hf rfl rfl rfl rfl ?_
  (repeat' (conv => whnf)<;>first|exact True.intro|(refine if_ ?_ ?_<;>intro h<;>first|exact h.elim|(exfalso; omega)|skip)|refine vs_ ?_|refine dv_ ?_|exact fin_|(show ∃ _, _ ∧ _; refine ex_ ?_ (by first|with_reducible exact rfl|exact hN3|exact rd_))|(show ∃ _ _, _ ∧ _; refine ex2_ ?_ (by first|with_reducible exact rfl|exact hN3|exact rd_)))
  conv => whnf
  refine vc_loop (α := Nat) 0 (fun i => n - i) (fun i => i ≤ n) [] (fun i => [(0, .ptr 0 3 0 0), (3, .ptr 4 224 0 0), (4, .ptr 5 6 0 0), (5, .ptr 6 6 0 0), (6, .d (.int .i64 c)), (7, .d (.int .i64 i))]) (fun i => [(0, .data 3 [srcL (dvF a.p c s0 i).1]), (4, .data 224 [algL a]), (5, .data 6 [vecL Z]), (6, .data 6 [vecL (dvF a.p c s0 i).2])]) lp_ ?_ ?_
  · (repeat' (conv => whnf)<;>first|exact True.intro|(refine if_ ?_ ?_<;>intro h<;>first|exact h.elim|(exfalso; omega)|skip)|refine vs_ ?_|refine dv_ ?_|exact fin_|(show ∃ _, _ ∧ _; refine ex_ ?_)|(show ∃ _ _, _ ∧ _; refine ex2_ ?_))
  · intro i hi
    obtain ⟨g1, g2⟩ := dvF_ok (c := c) hp hs0 i
    have hst : dvF a.p c s0 (i + 1) = dvS a.p c (dvF a.p c s0 i) i := rfl
    generalize hx : dvF a.p c s0 i = x at *
    by_cases hlt : i < n
    · have hA := hN (n := a.p) g1 (by omega)
      have hB := hN (n := 2) g1 (by omega)
      have hC := hN (n := a.p) (nextT_ok g1 2) (by omega)
      have b1 := nextV_bd0 (s := x.1) hp.1
      have b2 := nextV_bd0 (s := nextT x.1 2) hp.1
      by_cases c0 : c = 0
      · rw [show dvS a.p c x i = (nextT x.1 a.p, upd x.2 i (nextV x.1 a.p)) from by unfold dvS; rw [if_pos c0]] at hst
        (repeat' (conv => whnf)<;>first|exact True.intro|(refine if_ ?_ ?_<;>intro h<;>first|exact h.elim|(exfalso; omega)|skip)|refine vs_ ?_|refine dv_ ?_|exact fin_|(show ∃ _, _ ∧ _; refine ex_ ?_ (by first|with_reducible exact rfl|exact hA|exact hB|exact hC|with_reducible exact f1|with_reducible exact f2|exact rd_))|(show ∃ _ _, _ ∧ _; refine ex2_ ?_ (by first|with_reducible exact rfl|exact hA|exact hB|exact hC|with_reducible exact f1|with_reducible exact f2|exact rd_)))
        all_goals (conv => whnf)
        all_goals (refine ⟨i + 1, by omega, by omega, ?_⟩)
        all_goals (rw [hst]; (repeat' (conv => whnf)<;>first|exact True.intro|(refine if_ ?_ ?_<;>intro h<;>first|exact h.elim|(exfalso; omega)|skip)|refine vs_ ?_ (by first|exact st_v1|exact sd_)|refine dv_ ?_|exact fin_|(show ∃ _, _ ∧ _; refine ex_ ?_)|(show ∃ _ _, _ ∧ _; refine ex2_ ?_)))
      · by_cases c1 : nextV x.1 2 = 0
        · rw [show dvS a.p c x i = (nextT (nextT x.1 2) a.p, upd x.2 i (nextV (nextT x.1 2) a.p)) from by unfold dvS; rw [if_neg c0, if_pos c1]] at hst
          (repeat' (conv => whnf)<;>first|exact True.intro|(refine if_ ?_ ?_<;>intro h<;>first|exact h.elim|(exfalso; omega)|skip)|refine vs_ ?_|refine dv_ ?_|exact fin_|(show ∃ _, _ ∧ _; refine ex_ ?_ (by first|with_reducible exact rfl|exact hA|exact hB|exact hC|with_reducible exact f1|with_reducible exact f2|exact rd_))|(show ∃ _ _, _ ∧ _; refine ex2_ ?_ (by first|with_reducible exact rfl|exact hA|exact hB|exact hC|with_reducible exact f1|with_reducible exact f2|exact rd_)))
          all_goals (conv => whnf)
          all_goals (refine ⟨i + 1, by omega, by omega, ?_⟩)
          all_goals (rw [hst]; (repeat' (conv => whnf)<;>first|exact True.intro|(refine if_ ?_ ?_<;>intro h<;>first|exact h.elim|(exfalso; omega)|skip)|refine vs_ ?_ (by first|exact st_v1|exact sd_)|refine dv_ ?_|exact fin_|(show ∃ _, _ ∧ _; refine ex_ ?_)|(show ∃ _ _, _ ∧ _; refine ex2_ ?_)))
        · rw [show dvS a.p c x i = (nextT x.1 2, x.2) from by unfold dvS; rw [if_neg c0, if_neg c1]] at hst
          (repeat' (conv => whnf)<;>first|exact True.intro|(refine if_ ?_ ?_<;>intro h<;>first|exact h.elim|(exfalso; omega)|skip)|refine vs_ ?_|refine dv_ ?_|exact fin_|(show ∃ _, _ ∧ _; refine ex_ ?_ (by first|with_reducible exact rfl|exact hA|exact hB|exact hC|with_reducible exact f1|with_reducible exact f2|exact rd_))|(show ∃ _ _, _ ∧ _; refine ex2_ ?_ (by first|with_reducible exact rfl|exact hA|exact hB|exact hC|with_reducible exact f1|with_reducible exact f2|exact rd_)))
          all_goals (conv => whnf)
          all_goals (refine ⟨i + 1, by omega, by omega, ?_⟩)
          all_goals (rw [hst]; (repeat' (conv => whnf)<;>first|exact True.intro|(refine if_ ?_ ?_<;>intro h<;>first|exact h.elim|(exfalso; omega)|skip)|refine vs_ ?_|refine dv_ ?_|exact fin_|(show ∃ _, _ ∧ _; refine ex_ ?_)|(show ∃ _ _, _ ∧ _; refine ex2_ ?_)))
    · have : i = n := by omega
      subst this
      rw [hx]
      have hsp : splice (vecL Z) 0 (cel .u8 6 x.2) = vecL x.2 := splice_whole (by rw [cel_len, cel_len])
      (repeat' (conv => whnf)<;>first|exact True.intro|(refine if_ ?_ ?_<;>intro h<;>first|exact h.elim|(exfalso; omega)|skip)|refine vs_ ?_|refine dv_ ?_|exact fin_|(show ∃ _, _ ∧ _; refine ex_ ?_ (by first|with_reducible exact rfl|with_reducible exact f2|exact rd_))|(show ∃ _ _, _ ∧ _; refine ex2_ ?_ (by first|with_reducible exact rfl|with_reducible exact f2|exact rd_)))
      all_goals (rw [hsp]; (repeat' (conv => whnf)<;>first|exact True.intro|(refine if_ ?_ ?_<;>intro h<;>first|exact h.elim|(exfalso; omega)|skip)|refine vs_ ?_|refine dv_ ?_|exact fin_|(show ∃ _, _ ∧ _; refine ex_ ?_)|(show ∃ _ _, _ ∧ _; refine ex2_ ?_)))
end Go.X
namespace Go.X
open Go Go.RowKit
set_option maxRecDepth 100000
set_option maxHeartbeats 8000000
set_option linter.unusedVariables false
set_option linter.unusedSimpArgs false
variable {P : Program} {N : FN}
def nmS (k : Nat) : ByteArray := nmL.getD k ⟨#[]⟩
theorem setZ_len {x : D} : (splice algZ 0 (algZ.set 0 x)).length = 224 := by
  rw [splice_whole (by rw [List.length_set])]
  rw [List.length_set]; exact algZ_len
def C_named (P : Program) (N : FN) : Prop := ∀ {k : Nat} {p : Int}, k < 6 → p ∈ primes → Can P N.spec_l01Named [.str (nmS k), .int .i64 p] (.tup [algD (nmA k p), .bool true])
theorem X1_eq {p : Int} : splice algZ 0 (algZ.set 0 (.int .i64 p)) = algL (alg0 p 0 Z) := by rw [splice_whole (by rw [List.length_set])]; exact alg0_Z
theorem X2_eq {p n : Int} : (splice algZ 0 (algZ.set 0 (.int .i64 p))).set (0 + 1) (.int .i64 n) = algL (alg0 p n Z) := by rw [X1_eq, L_setN]; rfl
theorem X3_eq {p n : Int} {i : Nat} (hi : i < 6) : ((splice algZ 0 (algZ.set 0 (.int .i64 p))).set (0 + 1) (.int .i64 n)).set (0 + 218 + ((i : Nat) : Int).toNat * 1) (.int .u8 1) = algL (alg0 p n (basV i)) := by
  rw [X2_eq, L_setF hi]; rfl
theorem X3v_eq {p n : Int} {v : Nat → Int} : splice ((splice algZ 0 (algZ.set 0 (.int .i64 p))).set (0 + 1) (.int .i64 n)) (0 + 218) (vecL v) = algL (alg0 p n v) := by
  rw [X2_eq, L_setV]; rfl
theorem rd_one {a : Alg} : sub2 [algL a] 0 0 224 = some (algL a) := (algAt_one _).all
theorem c_named (hP : C_perm P N) (hf : isFn P N.spec_l01Named (ir_spec_l01Named N) = true) : C_named P N := by
  intro k p hk hp
  match k, hk with
  | 0, _ =>
    have e0 : sub2 [(((splice algZ 0 (algZ.set 0 (.int .i64 p))).set (0 + 1) (.int .i64 1)).set (0 + 218 + ((0 : Nat) : Int).toNat * 1) (.int .u8 1)).set (0 + 2 + ((0 : Nat) : Int).toNat * 36 + ((0 : Nat) : Int).toNat * 6 + ((0 : Nat) : Int).toNat * 1) (.int .u8 1)] 0 0 224 = some (algL (nmA 0 p)) := by
      rw [X3_eq (by decide), L_setT (by decide) (by decide) (by decide)]; exact rd_one
    refine can_of hf rfl rfl ?_
    (repeat' (conv => whnf)<;>first|exact True.intro|(refine if_ ?_ ?_<;>intro h<;>first|exact h.elim|(exfalso; omega)|(exfalso; revert h; decide +kernel)|skip)|refine vs_ ?_ (by first|(simp only [List.length_set, setZ_len]; omega) | exact ⟨rfl, by (simp only [List.length_set, setZ_len]; omega)⟩|exact sd_)|refine dv_ ?_|exact fin_|(show ∃ _, _ ∧ _; refine ex_ ?_ (by first|with_reducible exact rfl|exact e0|exact rd_))|(show ∃ _ _, _ ∧ _; refine ex2_ ?_ (by first|with_reducible exact rfl|exact e0|exact rd_)))
  | 1, _ =>
    have e0 : sub2 [(((((splice algZ 0 (algZ.set 0 (.int .i64 p))).set (0 + 1) (.int .i64 2)).set (0 + 218 + ((1 : Nat) : Int).toNat * 1) (.int .u8 1)).set (0 + 2 + ((0 : Nat) : Int).toNat * 36 + ((0 : Nat) : Int).toNat * 6 + ((0 : Nat) : Int).toNat * 1) (.int .u8 1)).set (0 + 2 + ((0 : Nat) : Int).toNat * 36 + ((1 : Nat) : Int).toNat * 6 + ((1 : Nat) : Int).toNat * 1) (.int .u8 1)).set (0 + 2 + ((1 : Nat) : Int).toNat * 36 + ((0 : Nat) : Int).toNat * 6 + ((1 : Nat) : Int).toNat * 1) (.int .u8 1)] 0 0 224 = some (algL (nmA 1 p)) := by
      rw [X3_eq (by decide), L_setT (by decide) (by decide) (by decide), L_setT (by decide) (by decide) (by decide), L_setT (by decide) (by decide) (by decide)]; exact rd_one
    refine can_of hf rfl rfl ?_
    (repeat' (conv => whnf)<;>first|exact True.intro|(refine if_ ?_ ?_<;>intro h<;>first|exact h.elim|(exfalso; omega)|(exfalso; revert h; decide +kernel)|skip)|refine vs_ ?_ (by first|(simp only [List.length_set, setZ_len]; omega) | exact ⟨rfl, by (simp only [List.length_set, setZ_len]; omega)⟩|exact sd_)|refine dv_ ?_|exact fin_|(show ∃ _, _ ∧ _; refine ex_ ?_ (by first|with_reducible exact rfl|exact e0|exact rd_))|(show ∃ _ _, _ ∧ _; refine ex2_ ?_ (by first|with_reducible exact rfl|exact e0|exact rd_)))
  | 2, _ =>
    have hv : ((([.int .u8 0, .int .u8 0, .int .u8 0, .int .u8 0, .int .u8 0, .int .u8 0].set 0 (.int .u8 1)).set 1 (.int .u8 1)) : List D) = vecL v2 := rfl
    have hlv : (splice ((splice algZ 0 (algZ.set 0 (.int .i64 p))).set (0 + 1) (.int .i64 2)) (0 + 218) (([.int .u8 0, .int .u8 0, .int .u8 0, .int .u8 0, .int .u8 0, .int .u8 0].set 0 (.int .u8 1)).set 1 (.int .u8 1))).length = 224 := by rw [hv, X3v_eq]; exact arr_len ..
    have e0 : sub2 [((splice ((splice algZ 0 (algZ.set 0 (.int .i64 p))).set (0 + 1) (.int .i64 2)) (0 + 218) (([.int .u8 0, .int .u8 0, .int .u8 0, .int .u8 0, .int .u8 0, .int .u8 0].set 0 (.int .u8 1)).set 1 (.int .u8 1))).set (0 + 2 + ((0 : Nat) : Int).toNat * 36 + ((0 : Nat) : Int).toNat * 6 + ((0 : Nat) : Int).toNat * 1) (.int .u8 1)).set (0 + 2 + ((1 : Nat) : Int).toNat * 36 + ((1 : Nat) : Int).toNat * 6 + ((1 : Nat) : Int).toNat * 1) (.int .u8 1)] 0 0 224 = some (algL (nmA 2 p)) := by
      rw [hv, X3v_eq, L_setT (by decide) (by decide) (by decide), L_setT (by decide) (by decide) (by decide)]; exact rd_one
    refine can_of hf rfl rfl ?_
    (repeat' (conv => whnf)<;>first|exact True.intro|(refine if_ ?_ ?_<;>intro h<;>first|exact h.elim|(exfalso; omega)|(exfalso; revert h; decide +kernel)|skip)|refine vs_ ?_ (by first|(simp only [List.length_set, setZ_len]; omega) | exact ⟨rfl, by (simp only [List.length_set]; omega)⟩ | exact ⟨rfl, by (simp only [List.length_set, List.length_cons, List.length_nil]; omega), rfl⟩ | (simp only [List.length_set, setZ_len, List.length_cons, List.length_nil]; omega) | (simp only [List.length_set, hlv]; omega)|exact sd_)|refine dv_ ?_|exact fin_|(show ∃ _, _ ∧ _; refine ex_ ?_ (by first|with_reducible exact rfl|exact e0|exact rd_))|(show ∃ _ _, _ ∧ _; refine ex2_ ?_ (by first|with_reducible exact rfl|exact e0|exact rd_)))
  | 3, _ =>
    obtain ⟨A, hA⟩ : ∃ A, A = alg0 p 3 (basV 0) := ⟨_, rfl⟩
    have eA : Chunk.data algZ.length [(((splice algZ 0 (algZ.set 0 (.int .i64 p))).set (0 + 1) (.int .i64 3)).set (0 + 218 + ((0 : Nat) : Int).toNat * 1) (.int .u8 1))] = .data 224 [algL A] := by
      rw [X3_eq (by decide), algZ_len, hA]
    rw [show nmA 3 p = fillR A (fun _ _ => true) (fun i j => (i + j) % 3) 3 3 from by rw [hA]; rfl]
    refine can_of hf rfl rfl ?_
    (repeat' (conv => whnf)<;>first|exact True.intro|(refine if_ ?_ ?_<;>intro h<;>first|exact h.elim|(exfalso; omega)|(exfalso; revert h; decide +kernel)|skip)|refine vs_ ?_ (by first|(simp only [List.length_set, setZ_len]; omega) | exact ⟨rfl, by (simp only [List.length_set, setZ_len]; omega)⟩|exact sd_)|refine dv_ ?_|exact fin_|(show ∃ _, _ ∧ _; refine ex_ ?_)|(show ∃ _ _, _ ∧ _; refine ex2_ ?_))
    conv => whnf
    refine vc_loop (α := Nat) 0 (fun i => 3 - i) (fun i => i ≤ 3) [] (fun i => [(7, .d (.int .i64 i))]) (fun i => [(7, .data 224 [algL (fillR A (fun _ _ => true) (fun i j => (i + j) % 3) 3 i)])]) lp_ ?_ ?_
    · (repeat' (conv => whnf)<;>first|exact True.intro|(refine if_ ?_ ?_<;>intro h<;>first|exact h.elim|(exfalso; omega)|skip)|refine vs_ ?_ (by first|exact eA|exact sd_)|refine dv_ ?_|exact fin_|(show ∃ _, _ ∧ _; refine ex_ ?_)|(show ∃ _ _, _ ∧ _; refine ex2_ ?_))
    · intro i hi
      by_cases hlt : i < 3
      · (repeat' (conv => whnf)<;>first|exact True.intro|(refine if_ ?_ ?_<;>intro h<;>first|exact h.elim|(exfalso; omega)|skip)|refine vs_ ?_|refine dv_ ?_|exact fin_|(show ∃ _, _ ∧ _; refine ex_ ?_)|(show ∃ _ _, _ ∧ _; refine ex2_ ?_))
        conv => whnf
        refine vc_loop (α := Nat) 0 (fun j => 3 - j) (fun j => j ≤ 3) [] (fun j => [(8, .d (.int .i64 j))]) (fun j => [(7, .data 224 [algL (fillC (fillR A (fun _ _ => true) (fun i j => (i + j) % 3) 3 i) (fun _ _ => true) (fun i j => (i + j) % 3) i j)])]) lp_ ?_ ?_
        · (repeat' (conv => whnf)<;>first|exact True.intro|(refine if_ ?_ ?_<;>intro h<;>first|exact h.elim|(exfalso; omega)|skip)|refine vs_ ?_|refine dv_ ?_|exact fin_|(show ∃ _, _ ∧ _; refine ex_ ?_)|(show ∃ _ _, _ ∧ _; refine ex2_ ?_))
        · intro j hj
          by_cases hlt2 : j < 3
          · have hl : (algL (fillC (fillR A (fun _ _ => true) (fun i j => (i + j) % 3) 3 i) (fun _ _ => true) (fun i j => (i + j) % 3) i j)).length = 224 := arr_len ..
            have es : ∀ q, q = ((fun i j => (i + j) % 3)) i j → ((fun _ _ => true)) i j = true → q < 6 → (algL (fillC (fillR A (fun _ _ => true) (fun i j => (i + j) % 3) 3 i) (fun _ _ => true) (fun i j => (i + j) % 3) i j)).set (0 + 2 + ((i : Nat) : Int).toNat * 36 + ((j : Nat) : Int).toNat * 6 + ((q : Nat) : Int).toNat * 1) (.int .u8 1) = algL (fillC (fillR A (fun _ _ => true) (fun i j => (i + j) % 3) 3 i) (fun _ _ => true) (fun i j => (i + j) % 3) i (j + 1)) := by
              intro q e o hq
              rw [L_setT (by omega) (by omega) hq, e]
              show _ = algL (if ((fun _ _ => true)) i j then _ else _)
              rw [if_pos o]
            have hk : (i + j) % 3 < 6 := by omega
            (repeat' (conv => whnf)<;>first|exact True.intro|(refine if_ ?_ ?_<;>intro h<;>first|exact h.elim|(exfalso; omega)|skip)|refine vs_ ?_ (by first|exact ⟨rfl, by rw [hl]; omega⟩|exact sd_)|refine dv_ ?_|exact fin_|(show ∃ _, _ ∧ _; refine ex_ ?_)|(show ∃ _ _, _ ∧ _; refine ex2_ ?_))
            conv => whnf
            refine ⟨j + 1, by omega, by omega, ?_⟩
            rw [← es _ rfl rfl hk]
            (repeat' (conv => whnf)<;>first|exact True.intro|(refine if_ ?_ ?_<;>intro h<;>first|exact h.elim|(exfalso; omega)|skip)|refine vs_ ?_|refine dv_ ?_|exact fin_|(show ∃ _, _ ∧ _; refine ex_ ?_)|(show ∃ _ _, _ ∧ _; refine ex2_ ?_))
          · have : j = 3 := by omega
            subst this
            (repeat' (conv => whnf)<;>first|exact True.intro|(refine if_ ?_ ?_<;>intro h<;>first|exact h.elim|(exfalso; omega)|skip)|refine vs_ ?_|refine dv_ ?_|exact fin_|(show ∃ _, _ ∧ _; refine ex_ ?_)|(show ∃ _ _, _ ∧ _; refine ex2_ ?_))
            conv => whnf
            refine ⟨i + 1, by omega, by omega, ?_⟩
            (repeat' (conv => whnf)<;>first|exact True.intro|(refine if_ ?_ ?_<;>intro h<;>first|exact h.elim|(exfalso; omega)|skip)|refine vs_ ?_|refine dv_ ?_|exact fin_|(show ∃ _, _ ∧ _; refine ex_ ?_)|(show ∃ _ _, _ ∧ _; refine ex2_ ?_))
      · have : i = 3 := by omega
        subst this
        (repeat' (conv => whnf)<;>first|exact True.intro|(refine if_ ?_ ?_<;>intro h<;>first|exact h.elim|(exfalso; omega)|skip)|refine vs_ ?_|refine dv_ ?_|exact fin_|(show ∃ _, _ ∧ _; refine ex_ ?_ (by first|with_reducible exact rfl|exact rd_one|exact rd_))|(show ∃ _ _, _ ∧ _; refine ex2_ ?_ (by first|with_reducible exact rfl|exact rd_one|exact rd_)))
  | 4, _ =>
    obtain ⟨A, hA⟩ : ∃ A, A = alg0 p 6 (basV 0) := ⟨_, rfl⟩
    have eA : Chunk.data algZ.length [(((splice algZ 0 (algZ.set 0 (.int .i64 p))).set (0 + 1) (.int .i64 6)).set (0 + 218 + ((0 : Nat) : Int).toNat * 1) (.int .u8 1))] = .data 224 [algL A] := by
      rw [X3_eq (by decide), algZ_len, hA]
    rw [show nmA 4 p = fillR A (fun _ _ => true) permN 6 6 from by rw [hA]; rfl]
    refine can_of hf rfl rfl ?_
    (repeat' (conv => whnf)<;>first|exact True.intro|(refine if_ ?_ ?_<;>intro h<;>first|exact h.elim|(exfalso; omega)|(exfalso; revert h; decide +kernel)|skip)|refine vs_ ?_ (by first|(simp only [List.length_set, setZ_len]; omega) | exact ⟨rfl, by (simp only [List.length_set, setZ_len]; omega)⟩|exact sd_)|refine dv_ ?_|exact fin_|(show ∃ _, _ ∧ _; refine ex_ ?_)|(show ∃ _ _, _ ∧ _; refine ex2_ ?_))
    conv => whnf
    refine vc_loop (α := Nat) 0 (fun i => 6 - i) (fun i => i ≤ 6) [] (fun i => [(9, .d (.int .i64 i))]) (fun i => [(7, .data 224 [algL (fillR A (fun _ _ => true) permN 6 i)])]) lp_ ?_ ?_
    · (repeat' (conv => whnf)<;>first|exact True.intro|(refine if_ ?_ ?_<;>intro h<;>first|exact h.elim|(exfalso; omega)|skip)|refine vs_ ?_ (by first|exact eA|exact sd_)|refine dv_ ?_|exact fin_|(show ∃ _, _ ∧ _; refine ex_ ?_)|(show ∃ _ _, _ ∧ _; refine ex2_ ?_))
    · intro i hi
      by_cases hlt : i < 6
      · (repeat' (conv => whnf)<;>first|exact True.intro|(refine if_ ?_ ?_<;>intro h<;>first|exact h.elim|(exfalso; omega)|skip)|refine vs_ ?_|refine dv_ ?_|exact fin_|(show ∃ _, _ ∧ _; refine ex_ ?_)|(show ∃ _ _, _ ∧ _; refine ex2_ ?_))
        conv => whnf
        refine vc_loop (α := Nat) 0 (fun j => 6 - j) (fun j => j ≤ 6) [] (fun j => [(10, .d (.int .i64 j))]) (fun j => [(7, .data 224 [algL (fillC (fillR A (fun _ _ => true) permN 6 i) (fun _ _ => true) permN i j)])]) lp_ ?_ ?_
        · (repeat' (conv => whnf)<;>first|exact True.intro|(refine if_ ?_ ?_<;>intro h<;>first|exact h.elim|(exfalso; omega)|skip)|refine vs_ ?_|refine dv_ ?_|exact fin_|(show ∃ _, _ ∧ _; refine ex_ ?_)|(show ∃ _ _, _ ∧ _; refine ex2_ ?_))
        · intro j hj
          by_cases hlt2 : j < 6
          · have hl : (algL (fillC (fillR A (fun _ _ => true) permN 6 i) (fun _ _ => true) permN i j)).length = 224 := arr_len ..
            have es : ∀ q, q = (permN) i j → ((fun _ _ => true)) i j = true → q < 6 → (algL (fillC (fillR A (fun _ _ => true) permN 6 i) (fun _ _ => true) permN i j)).set (0 + 2 + ((i : Nat) : Int).toNat * 36 + ((j : Nat) : Int).toNat * 6 + ((q : Nat) : Int).toNat * 1) (.int .u8 1) = algL (fillC (fillR A (fun _ _ => true) permN 6 i) (fun _ _ => true) permN i (j + 1)) := by
              intro q e o hq
              rw [L_setT (by omega) (by omega) hq, e]
              show _ = algL (if ((fun _ _ => true)) i j then _ else _)
              rw [if_pos o]
            have hk := permN_lt (i := i) (j := j) (by omega) (by omega)
            have hP' := hP (i := i) (j := j) (by omega) (by omega)
            (repeat' (conv => whnf)<;>first|exact True.intro|(refine if_ ?_ ?_<;>intro h<;>first|exact h.elim|(exfalso; omega)|skip)|refine vs_ ?_ (by first|exact ⟨rfl, by rw [hl]; omega⟩|exact sd_)|refine dv_ ?_|exact fin_|(show ∃ _, _ ∧ _; refine ex_ ?_ (by first|with_reducible exact rfl|exact hP'|exact rd_))|(show ∃ _ _, _ ∧ _; refine ex2_ ?_ (by first|with_reducible exact rfl|exact hP'|exact rd_)))
            conv => whnf
            refine ⟨j + 1, by omega, by omega, ?_⟩
            rw [← es _ rfl rfl hk]
            (repeat' (conv => whnf)<;>first|exact True.intro|(refine if_ ?_ ?_<;>intro h<;>first|exact h.elim|(exfalso; omega)|skip)|refine vs_ ?_|refine dv_ ?_|exact fin_|(show ∃ _, _ ∧ _; refine ex_ ?_)|(show ∃ _ _, _ ∧ _; refine ex2_ ?_))
          · have : j = 6 := by omega
            subst this
            (repeat' (conv => whnf)<;>first|exact True.intro|(refine if_ ?_ ?_<;>intro h<;>first|exact h.elim|(exfalso; omega)|skip)|refine vs_ ?_|refine dv_ ?_|exact fin_|(show ∃ _, _ ∧ _; refine ex_ ?_)|(show ∃ _ _, _ ∧ _; refine ex2_ ?_))
            conv => whnf
            refine ⟨i + 1, by omega, by omega, ?_⟩
            (repeat' (conv => whnf)<;>first|exact True.intro|(refine if_ ?_ ?_<;>intro h<;>first|exact h.elim|(exfalso; omega)|skip)|refine vs_ ?_|refine dv_ ?_|exact fin_|(show ∃ _, _ ∧ _; refine ex_ ?_)|(show ∃ _ _, _ ∧ _; refine ex2_ ?_))
      · have : i = 6 := by omega
        subst this
        (repeat' (conv => whnf)<;>first|exact True.intro|(refine if_ ?_ ?_<;>intro h<;>first|exact h.elim|(exfalso; omega)|skip)|refine vs_ ?_|refine dv_ ?_|exact fin_|(show ∃ _, _ ∧ _; refine ex_ ?_ (by first|with_reducible exact rfl|exact rd_one|exact rd_))|(show ∃ _ _, _ ∧ _; refine ex2_ ?_ (by first|with_reducible exact rfl|exact rd_one|exact rd_)))
  | 5, _ =>
    obtain ⟨A, hA⟩ : ∃ A, A = alg0 p 4 v4 := ⟨_, rfl⟩
    have hv : ((((([.int .u8 0, .int .u8 0, .int .u8 0, .int .u8 0, .int .u8 0, .int .u8 0].set 0 (.int .u8 1)).set 1 (.int .u8 0)).set 2 (.int .u8 0)).set 3 (.int .u8 1)) : List D) = vecL v4 := rfl
    have hlv : (splice ((splice algZ 0 (algZ.set 0 (.int .i64 p))).set (0 + 1) (.int .i64 4)) (0 + 218) (((([.int .u8 0, .int .u8 0, .int .u8 0, .int .u8 0, .int .u8 0, .int .u8 0].set 0 (.int .u8 1)).set 1 (.int .u8 0)).set 2 (.int .u8 0)).set 3 (.int .u8 1))).length = 224 := by rw [hv, X3v_eq]; exact arr_len ..
    have eA : Chunk.data algZ.length [(splice ((splice algZ 0 (algZ.set 0 (.int .i64 p))).set (0 + 1) (.int .i64 4)) (0 + 218) (((([.int .u8 0, .int .u8 0, .int .u8 0, .int .u8 0, .int .u8 0, .int .u8 0].set 0 (.int .u8 1)).set 1 (.int .u8 0)).set 2 (.int .u8 0)).set 3 (.int .u8 1)))] = .data 224 [algL A] := by
      rw [hv, X3v_eq, algZ_len, hA]
    rw [show nmA 5 p = fillR A (fun i j => i % 2 == j / 2) (fun i j => i / 2 * 2 + j % 2) 4 4 from by rw [hA]; rfl]
    refine can_of hf rfl rfl ?_
    (repeat' (conv => whnf)<;>first|exact True.intro|(refine if_ ?_ ?_<;>intro h<;>first|exact h.elim|(exfalso; omega)|(exfalso; revert h; decide +kernel)|skip)|refine vs_ ?_ (by first|(simp only [List.length_set, setZ_len]; omega) | exact ⟨rfl, by (simp only [List.length_set]; omega)⟩ | exact ⟨rfl, by (simp only [List.length_set, List.length_cons, List.length_nil]; omega), rfl⟩ | (simp only [List.length_set, setZ_len, List.length_cons, List.length_nil]; omega) | (simp only [List.length_set, hlv]; omega)|exact sd_)|refine dv_ ?_|exact fin_|(show ∃ _, _ ∧ _; refine ex_ ?_)|(show ∃ _ _, _ ∧ _; refine ex2_ ?_))
    conv => whnf
    refine vc_loop (α := Nat) 0 (fun i => 4 - i) (fun i => i ≤ 4) [] (fun i => [(11, .d (.int .i64 i))]) (fun i => [(7, .data 224 [algL (fillR A (fun i j => i % 2 == j / 2) (fun i j => i / 2 * 2 + j % 2) 4 i)])]) lp_ ?_ ?_
    · (repeat' (conv => whnf)<;>first|exact True.intro|(refine if_ ?_ ?_<;>intro h<;>first|exact h.elim|(exfalso; omega)|skip)|refine vs_ ?_ (by first|exact eA|exact sd_)|refine dv_ ?_|exact fin_|(show ∃ _, _ ∧ _; refine ex_ ?_)|(show ∃ _ _, _ ∧ _; refine ex2_ ?_))
    · intro i hi
      by_cases hlt : i < 4
      · (repeat' (conv => whnf)<;>first|exact True.intro|(refine if_ ?_ ?_<;>intro h<;>first|exact h.elim|(exfalso; omega)|skip)|refine vs_ ?_|refine dv_ ?_|exact fin_|(show ∃ _, _ ∧ _; refine ex_ ?_)|(show ∃ _ _, _ ∧ _; refine ex2_ ?_))
        conv => whnf
        refine vc_loop (α := Nat) 0 (fun j => 4 - j) (fun j => j ≤ 4) [] (fun j => [(12, .d (.int .i64 j))]) (fun j => [(7, .data 224 [algL (fillC (fillR A (fun i j => i % 2 == j / 2) (fun i j => i / 2 * 2 + j % 2) 4 i) (fun i j => i % 2 == j / 2) (fun i j => i / 2 * 2 + j % 2) i j)])]) lp_ ?_ ?_
        · (repeat' (conv => whnf)<;>first|exact True.intro|(refine if_ ?_ ?_<;>intro h<;>first|exact h.elim|(exfalso; omega)|skip)|refine vs_ ?_|refine dv_ ?_|exact fin_|(show ∃ _, _ ∧ _; refine ex_ ?_)|(show ∃ _ _, _ ∧ _; refine ex2_ ?_))
        · intro j hj
          by_cases hlt2 : j < 4
          · have hl : (algL (fillC (fillR A (fun i j => i % 2 == j / 2) (fun i j => i / 2 * 2 + j % 2) 4 i) (fun i j => i % 2 == j / 2) (fun i j => i / 2 * 2 + j % 2) i j)).length = 224 := arr_len ..
            have es : ∀ q, q = ((fun i j => i / 2 * 2 + j % 2)) i j → ((fun i j => i % 2 == j / 2)) i j = true → q < 6 → (algL (fillC (fillR A (fun i j => i % 2 == j / 2) (fun i j => i / 2 * 2 + j % 2) 4 i) (fun i j => i % 2 == j / 2) (fun i j => i / 2 * 2 + j % 2) i j)).set (0 + 2 + ((i : Nat) : Int).toNat * 36 + ((j : Nat) : Int).toNat * 6 + ((q : Nat) : Int).toNat * 1) (.int .u8 1) = algL (fillC (fillR A (fun i j => i % 2 == j / 2) (fun i j => i / 2 * 2 + j % 2) 4 i) (fun i j => i % 2 == j / 2) (fun i j => i / 2 * 2 + j % 2) i (j + 1)) := by
              intro q e o hq
              rw [L_setT (by omega) (by omega) hq, e]
              show _ = algL (if ((fun i j => i % 2 == j / 2)) i j then _ else _)
              rw [if_pos o]
            have hk : i / 2 * 2 + j % 2 < 6 := by omega
            by_cases c : i % 2 = j / 2
            · have e1 : ((i % 2 : Nat) : Int) = ((j / 2 : Nat) : Int) := by omega
              (repeat' (conv => whnf)<;>first|exact True.intro|(refine if_ ?_ ?_<;>intro h<;>first|exact h.elim|(exfalso; omega)|skip)|refine vs_ ?_ (by first|exact ⟨rfl, by rw [hl]; omega⟩|exact sd_)|refine dv_ ?_|exact fin_|(show ∃ _, _ ∧ _; refine ex_ ?_)|(show ∃ _ _, _ ∧ _; refine ex2_ ?_))
              conv => whnf
              refine ⟨j + 1, by omega, by omega, ?_⟩
              rw [← es _ rfl (by show (i % 2 == j / 2) = true; simpa using c) hk]
              (repeat' (conv => whnf)<;>first|exact True.intro|(refine if_ ?_ ?_<;>intro h<;>first|exact h.elim|(exfalso; omega)|skip)|refine vs_ ?_|refine dv_ ?_|exact fin_|(show ∃ _, _ ∧ _; refine ex_ ?_)|(show ∃ _ _, _ ∧ _; refine ex2_ ?_))
            · have en : algL (fillC (fillR A (fun i j => i % 2 == j / 2) (fun i j => i / 2 * 2 + j % 2) 4 i) (fun i j => i % 2 == j / 2) (fun i j => i / 2 * 2 + j % 2) i (j + 1)) = algL (fillC (fillR A (fun i j => i % 2 == j / 2) (fun i j => i / 2 * 2 + j % 2) 4 i) (fun i j => i % 2 == j / 2) (fun i j => i / 2 * 2 + j % 2) i j) := by
                show algL (if (i % 2 == j / 2) = true then _ else _) = _
                rw [if_neg (by simpa using c)]
              have e1 : ¬ ((i % 2 : Nat) : Int) = ((j / 2 : Nat) : Int) := by omega
              (repeat' (conv => whnf)<;>first|exact True.intro|(refine if_ ?_ ?_<;>intro h<;>first|exact h.elim|(exfalso; omega)|skip)|refine vs_ ?_|refine dv_ ?_|exact fin_|(show ∃ _, _ ∧ _; refine ex_ ?_)|(show ∃ _ _, _ ∧ _; refine ex2_ ?_))
              conv => whnf
              refine ⟨j + 1, by omega, by omega, ?_⟩
              rw [en]
              (repeat' (conv => whnf)<;>first|exact True.intro|(refine if_ ?_ ?_<;>intro h<;>first|exact h.elim|(exfalso; omega)|skip)|refine vs_ ?_|refine dv_ ?_|exact fin_|(show ∃ _, _ ∧ _; refine ex_ ?_)|(show ∃ _ _, _ ∧ _; refine ex2_ ?_))
          · have : j = 4 := by omega
            subst this
            (repeat' (conv => whnf)<;>first|exact True.intro|(refine if_ ?_ ?_<;>intro h<;>first|exact h.elim|(exfalso; omega)|skip)|refine vs_ ?_|refine dv_ ?_|exact fin_|(show ∃ _, _ ∧ _; refine ex_ ?_)|(show ∃ _ _, _ ∧ _; refine ex2_ ?_))
            conv => whnf
            refine ⟨i + 1, by omega, by omega, ?_⟩
            (repeat' (conv => whnf)<;>first|exact True.intro|(refine if_ ?_ ?_<;>intro h<;>first|exact h.elim|(exfalso; omega)|skip)|refine vs_ ?_|refine dv_ ?_|exact fin_|(show ∃ _, _ ∧ _; refine ex_ ?_)|(show ∃ _ _, _ ∧ _; refine ex2_ ?_))
      · have : i = 4 := by omega
        subst this
        (repeat' (conv => whnf)<;>first|exact True.intro|(refine if_ ?_ ?_<;>intro h<;>first|exact h.elim|(exfalso; omega)|skip)|refine vs_ ?_|refine dv_ ?_|exact fin_|(show ∃ _, _ ∧ _; refine ex_ ?_ (by first|with_reducible exact rfl|exact rd_one|exact rd_))|(show ∃ _ _, _ ∧ _; refine ex2_ ?_ (by first|with_reducible exact rfl|exact rd_one|exact rd_)))
end Go.X
