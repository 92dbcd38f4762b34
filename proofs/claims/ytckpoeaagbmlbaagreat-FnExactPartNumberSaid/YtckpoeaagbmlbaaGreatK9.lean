import Derived.Test.YtckpoeaagbmlbaaGreatK8
import Derived.Test.YtckpoeaagbmlbaaGreatK3
import Derived.Test.YtckpoeaagbmlbaaGreatK4
import Derived.Test.YtckpoeaagbmlbaaGreatK7
import Derived.Test.YtckpoeaagbmlbaaGreatK5
set_option linter.all false
namespace Go.X
open Go Go.RowKit
section
variable {a : Alg}
theorem no_lead {p : Int} {m : Nat} {L : List Row} {ld : Nat → Nat} (h : RR p m L ld) (hl : L.length < m) : ∃ c, c < m ∧ ∀ i, i < L.length → ld i ≠ c := by
  apply Classical.byContradiction
  intro hno
  have hit : ∀ c, c < m → ∃ i, i < L.length ∧ ld i = c := fun c hc => by
    apply Classical.byContradiction
    intro g
    exact hno ⟨c, hc, fun i hi e => g ⟨i, hi, e⟩⟩
  have := rr_seq (m := m) (f := ld) (g := fun i => i) (A := L.length) (B := m) h.sort (fun i j hij _ => hij) (fun i hi => ⟨ld i, (h.lead i hi).1, rfl⟩) (fun j hj => hit j hj) L.length
  have := this.2 hl
  omega
def sumE (p : Int) (E : List (Nat → Int)) (z : Row) (m : Nat) : Nat → Int := fun i => sumN m (fun j => z j * E.getD j Z i) % p
theorem sumE_succ (p : Int) (E : List (Nat → Int)) (z : Row) (m : Nat) : sumE p E z (m + 1) = vadd p (sumE p E z m) (vsc p (z m) (E.getD m Z)) := funext fun i => by
  show (sumN m (fun j => z j * E.getD j Z i) + z m * E.getD m Z i) % p = (sumN m (fun j => z j * E.getD j Z i) % p + z m * E.getD m Z i % p) % p
  exact (cg_add (cg_mod p _) (cg_mod p _)).symm
theorem Orth.two {E : List (Nat → Int)} (h : CA a) (hE : Orth a E) {i j : Nat} (hi : i < E.length) (hj : j < E.length) (hij : i ≠ j) : timesV a (E.getD i Z) (E.getD j Z) = Z := by
  have hp := List.pairwise_iff_getElem.1 hE.pair
  have g : ∀ k (hk : k < E.length), E.getD k Z = E[k] := fun k hk => by rw [List.getD_eq_getElem?_getD, List.getElem?_eq_getElem hk]; rfl
  rw [g i hi, g j hj]
  rcases Nat.lt_or_gt_of_ne hij with c | c
  · exact hp i j hi hj c
  · rw [mul_comm' h]; exact hp j i hj hi c
theorem getD_memE {E : List (Nat → Int)} {i : Nat} (hi : i < E.length) : E.getD i Z ∈ E := by
  rw [List.getD_eq_getElem?_getD, List.getElem?_eq_getElem hi]; exact List.getElem_mem _
theorem mul_sumE (h : CA a) {E : List (Nat → Int)} (hE : Orth a E) (z : Row) {c : Nat} (hc : c < E.length) : ∀ m, m ≤ E.length → timesV a (E.getD c Z) (sumE a.p E z m) = if c < m then vsc a.p (z c) (E.getD c Z) else Z
  | 0, _ => by
    have e : sumE a.p E z 0 = Z := funext fun i => by show (0 : Int) % a.p = 0; simp
    rw [e, mul_Z h, if_neg (by omega)]
  | m + 1, hm => by
    rw [sumE_succ, mul_add' h, mul_sc' h, mul_sumE h hE z hc m (by omega)]
    have hci := hE.inn _ (getD_memE hc)
    by_cases e : c = m
    · subst e
      rw [if_neg (by omega), if_pos (by omega), hE.idem _ (getD_memE hc), Z_vadd (vsc_rw h.p1)]
    · rw [hE.two h hc (by omega) e, vsc_Z]
      by_cases g : c < m
      · rw [if_pos g, if_pos (by omega), vadd_Z (vsc_rw h.p1)]
      · rw [if_neg g, if_neg (by omega), vadd_Z (Z_rw h.p1)]
theorem orth_len (h : CA a) {E : List (Nat → Int)} (hE : Orth a E) : E.length ≤ a.n.toNat := by
  apply Classical.byContradiction
  intro hgt
  have hp2 := h.p2
  let L : List Row := arr a.n.toNat fun k j => E.getD j Z k
  have hL : RwL a.p L := fun r hr => by
    simp only [L, arr, List.mem_map] at hr
    obtain ⟨k, _, rfl⟩ := hr
    intro j
    by_cases hj : j < E.length
    · exact (hE.inn _ (getD_memE hj)).1 k
    · have e : E.getD j Z = Z := by rw [List.getD_eq_getElem?_getD, List.getElem?_eq_none (by omega)]; rfl
      show 0 ≤ E.getD j Z k ∧ E.getD j Z k < a.p
      rw [e]
      show 0 ≤ (0 : Int) ∧ (0 : Int) < a.p; omega
  obtain ⟨ld, rr⟩ := redF_rr (m := E.length) h.ok.p hL
  have hlen : (redF a.p E.length L).length ≤ a.n.toNat := by
    have := (redN_inv (p := a.p) (rows := L) (by omega) hL E.length).2.2
    have e : L.length = a.n.toNat := arr_len ..
    unfold redF; omega
  obtain ⟨c, hc, hne⟩ := no_lead rr (by omega)
  have hk := (redF_ker h.ok.p hL).1 (kv_ker rr hc hne)
  have h1 := mul_sumE h hE (kv a.p (redF a.p E.length L) ld c) hc E.length (Nat.le_refl _)
  have e : sumE a.p E (kv a.p (redF a.p E.length L) ld c) E.length = Z := funext fun i => by
    show sumN E.length (fun j => kv a.p (redF a.p E.length L) ld c j * E.getD j Z i) % a.p = 0
    by_cases hi : i < a.n.toNat
    · have := hk (fun j => E.getD j Z i) (by
        simp only [L, arr, List.mem_map]
        exact ⟨i, by simpa using hi, rfl⟩)
      unfold dot at this
      rw [← this]
      congr 1
      exact sumN_ext fun j _ => Int.mul_comm ..
    · rw [sumN_zero fun j hj => by rw [(hE.inn _ (getD_memE hj)).2 i (by omega), Int.mul_zero]]; simp
  rw [e, mul_Z h, if_pos hc, kv_c, vsc_1 (hE.inn _ (getD_memE hc)).1] at h1
  obtain ⟨i, hi⟩ := hE.nz _ (getD_memE hc)
  exact hi (congrFun h1.symm i)
def nzB (v : Nat → Int) : Bool := !decide (VEq v Z)
def sharesL (a : Alg) (b e : Nat → Int) : List (Nat → Int) := ((List.range a.p.toNat).map (share a b e)).filter nzB
def stageL (a : Alg) (b : Nat → Int) (E : List (Nat → Int)) : List (Nat → Int) := E.flatMap (sharesL a b)
def primL (a : Alg) (fixed : List (Nat → Int)) : List (Nat → Int) := fixed.foldl (fun E b => stageL a b E) [sUnit a]
theorem mem_shares {b e f : Nat → Int} (h : f ∈ sharesL a b e) : ∃ c : Nat, (c : Int) < a.p ∧ f = share a b e c ∧ ∃ i, f i ≠ 0 := by
  unfold sharesL at h
  rw [List.mem_filter, List.mem_map] at h
  obtain ⟨⟨c, hc, rfl⟩, hn⟩ := h
  refine ⟨c, by have := List.mem_range.1 hc; omega, rfl, ?_⟩
  apply Classical.byContradiction
  intro g
  have : VEq (share a b e c) Z := fun i _ => by
    apply Classical.byContradiction
    intro g2; exact g ⟨i, g2⟩
  simp [nzB, this] at hn
theorem stage_orth (h : CA a) {b : Nat → Int} (hb : InA a b) (hf : pw a b a.p.toNat = b) {E : List (Nat → Int)} (hE : Orth a E) : Orth a (stageL a b E) := by
  refine ⟨fun f hm => ?_, fun f hm => ?_, fun f hm => ?_, ?_⟩
  · obtain ⟨e, he, hm⟩ := List.mem_flatMap.1 hm
    obtain ⟨c, _, rfl, _⟩ := mem_shares hm
    exact share_in h hb (hE.inn e he) c
  · obtain ⟨e, he, hm⟩ := List.mem_flatMap.1 hm
    obtain ⟨c, hc, rfl, _⟩ := mem_shares hm
    exact share_idem h hb (hE.inn e he) (hE.idem e he) hf hc
  · obtain ⟨e, he, hm⟩ := List.mem_flatMap.1 hm
    obtain ⟨c, hc, rfl, hn⟩ := mem_shares hm
    exact hn
  · unfold stageL
    rw [List.pairwise_flatMap]
    refine ⟨fun e he => ?_, ?_⟩
    · unfold sharesL
      refine List.Pairwise.filter _ ?_
      rw [List.pairwise_map]
      refine List.Pairwise.imp_of_mem (fun {c d} hc hd hcd => ?_) List.pairwise_lt_range
      have := List.mem_range.1 hc
      have := List.mem_range.1 hd
      exact share_orth h hb (hE.inn e he) hf (by omega) (by omega) (by omega)
    · refine List.Pairwise.imp_of_mem (fun {e f} he hf' hef x hx y hy => ?_) hE.pair
      obtain ⟨c, _, rfl, _⟩ := mem_shares hx
      obtain ⟨d, _, rfl, _⟩ := mem_shares hy
      rw [← share_e h hb (hE.inn e he) (hE.idem e he) c, ← share_e h hb (hE.inn f hf') (hE.idem f hf') d]
      rw [mul_assoc' h, mul_left_comm' h (share a b e c), ← mul_assoc' h, hef, Z_mul h]
theorem unit_orth (h : CA a) : Orth a [sUnit a] := by
  refine ⟨fun e he => ?_, fun e he => ?_, fun e he => ?_, List.pairwise_singleton ..⟩
  · rw [List.mem_singleton.1 he]; exact in_one h
  · rw [List.mem_singleton.1 he]; exact one_mul' h (in_one h)
  · rw [List.mem_singleton.1 he]
    apply Classical.byContradiction
    intro g
    have e0 : sUnit a = Z := funext fun i => by
      apply Classical.byContradiction
      intro g2; exact g ⟨i, g2⟩
    have hn := h.ok.n
    have h1 := mul_one' h (in_bas h (i := 0) (by omega))
    rw [e0, mul_Z h] at h1
    have := congrFun h1 0
    simp [Z, basV] at this
theorem prim_orth (h : CA a) {fixed : List (Nat → Int)} (hf : ∀ b ∈ fixed, InA a b ∧ pw a b a.p.toNat = b) : Orth a (primL a fixed) := by
  have key : ∀ (fixed E : List (Nat → Int)), (∀ b ∈ fixed, InA a b ∧ pw a b a.p.toNat = b) → Orth a E → Orth a (fixed.foldl (fun E b => stageL a b E) E) := by
    intro fixed
    induction fixed with
    | nil => intro E _ hE; exact hE
    | cons b r ih =>
      intro E hf hE
      exact ih _ (fun x hx => hf x (List.mem_cons_of_mem _ hx)) (stage_orth h (hf b (List.mem_cons_self ..)).1 (hf b (List.mem_cons_self ..)).2 hE)
  exact key _ _ hf (unit_orth h)
end
end Go.X
namespace Go.X
open Go Go.RowKit
def FN.impl_Algebra_all (N : FN) : FuncId := N.f 190
def FN.impl_Algebra_spread (N : FN) : FuncId := N.f 191
def FN.spec_l05Sizes (N : FN) : FuncId := N.f 193
def FN.spec_l05Basis (N : FN) : FuncId := N.f 194
def FN.spec_l05Nil (N : FN) : FuncId := N.f 195
def FN.spec_l05Part (N : FN) : FuncId := N.f 196
def FN.spec_l05Row (N : FN) : FuncId := N.f 197
def FN.impl_Algebra_spanned (N : FN) : FuncId := N.f 198
def FN.impl_Algebra_row (N : FN) : FuncId := N.f 199
def ir_spec_l05Sizes (N : FN) : CF := ⟨2, 48, [(.tmp 4)], (.seq (.reg false [3] [(rO 2 (.box (.t 0))), (rO 4 (.mov (.c .emp)))]) (.seq (.ga (.dead [17]) (.ga (.ren [8]) (.reg true [13, 15, 17, 18] [⟨(some 11), 12, (.load (some 224) (.t 2)), none, [13, 15, 17, 18], none⟩, ⟨(some 12), 13, (.call N.spec_l05Primitive [(.t 11)]), none, [15, 17, 18], none⟩, ⟨(some 13), 14, (.load (some 224) (.t 2)), none, [13, 15, 17, 18], none⟩, ⟨(some 14), 15, (.call N.spec_l05Basis [(.t 13)]), none, [17, 18], none⟩, ⟨(some 15), 16, (.load (some 224) (.t 2)), none, [13, 15, 17, 18], none⟩, ⟨(some 16), 17, (.call N.spec_l05Nil [(.t 15)]), none, [18], none⟩, (rO 17 (.bslice 1 [])), (rO 5 (.mov (.t 12))), (rO 6 (.mov (.t 14))), (rO 7 (.mov (.t 16))), (rO 8 (.mov (.t 17)))]))) (.seq (.seq (.reg false [] [(rO 9 (.mov (.c (.int .i64 0))))]) (.block 0 (.loop (.seq (.seq (.reg false [] [(rO 18 (.mov (.t 9))), (rO 19 (.mov (.t 5))), (rO 20 (.len (.t 19))), (rO 21 (.cmp .lss (.t 18) (.t 20)))]) (.cond (.t 21) .skip (.exit 0))) (.seq (.block 1 (.seq (.reg true [31] [⟨(some 24), 25, (.load (some 224) (.t 2)), none, [31], none⟩, (rO 25 (.mov (.t 5))), (rO 26 (.mov (.t 9))), ⟨(some 27), 28, (.iaddrS 6 (.t 25) (.t 26)), none, [31], none⟩, ⟨(some 28), 29, (.load (some 6) (.t 27)), none, [31], none⟩, (rO 29 (.mov (.t 6))), (rO 30 (.call N.spec_l05Part [(.t 24), (.t 28), (.t 29)])), (rO 31 (.len (.t 30))), (rO 10 (.mov (.t 31)))]) (.seq (.seq (.reg false [] [(rO 32 (.mov (.t 1)))]) (.cond (.t 32) (.reg true [41] [(rO 33 (.mov (.t 10))), ⟨(some 34), 35, (.load (some 224) (.t 2)), none, [41], none⟩, (rO 35 (.mov (.t 5))), (rO 36 (.mov (.t 9))), ⟨(some 37), 38, (.iaddrS 6 (.t 35) (.t 36)), none, [41], none⟩, ⟨(some 38), 39, (.load (some 6) (.t 37)), none, [41], none⟩, (rO 39 (.mov (.t 7))), (rO 40 (.call N.spec_l05Part [(.t 34), (.t 38), (.t 39)])), (rO 41 (.len (.t 40))), (rO 42 (.arith .sub (.t 33) (.t 41))), (rO 10 (.mov (.t 42)))]) .skip)) (.ga (.dead [46]) (.ga (.ren [8]) (.reg false [46, 47] [(rO 43 (.mov (.t 8))), (rO 44 (.mov (.t 10))), (rO 45 (.bslice 1 [(.t 44)])), (rO 46 (.app 1 8 (.t 43) (.t 45))), (rO 8 (.mov (.t 46)))])))))) (.reg false [] [(rO 22 (.mov (.t 9))), (rO 23 (.arith .add (.t 22) (.c (.int .i64 1)))), (rO 9 (.mov (.t 23)))])))))) (.seq (.reg false [] [(rO 47 (.mov (.t 8))), (rO 4 (.mov (.t 47)))]) .ret))))⟩
def ir_spec_l05Part (N : FN) : CF := ⟨3, 34, [(.tmp 6)], (.seq (.reg false [4, 5] [(rO 3 (.box (.t 0))), (rO 4 (.box (.t 1))), (rO 6 (.mov (.c .emp)))]) (.seq (.ga (.dead [9]) (.ga (.ren [7]) (.reg false [10] [(rO 9 (.bslice 1 [])), (rO 7 (.mov (.t 9)))]))) (.seq (.seq (.reg false [] [(rO 8 (.mov (.c (.int .i64 0))))]) (.block 0 (.loop (.seq (.seq (.reg false [] [(rO 10 (.mov (.t 8))), (rO 11 (.mov (.t 2))), (rO 12 (.len (.t 11))), (rO 13 (.cmp .lss (.t 10) (.t 12)))]) (.cond (.t 13) .skip (.exit 0))) (.seq (.block 1 (.ga (.dead [28]) (.ga (.ren [7]) (.reg true [24, 27, 28, 29] [(rO 16 (.mov (.t 7))), ⟨(some 17), 18, (.load (some 224) (.t 3)), none, [24, 27, 28, 29], none⟩, ⟨(some 18), 19, (.load (some 6) (.t 4)), none, [24, 27, 28, 29], none⟩, (rO 19 (.mov (.t 2))), (rO 20 (.mov (.t 8))), ⟨(some 21), 22, (.iaddrS 6 (.t 19) (.t 20)), none, [24, 27, 28, 29], none⟩, ⟨(some 22), 23, (.load (some 6) (.t 21)), none, [24, 27, 28, 29], none⟩, ⟨(some 23), 24, (.call N.spec_l01Times [(.t 17), (.t 18), (.t 22)]), none, [27, 28, 29], none⟩, (rO 24 (.faddr 1 (.t 3))), ⟨(some 25), 26, (.load none (.t 24)), none, [24, 27, 28, 29], none⟩, ⟨(some 26), 27, (.call N.spec_l05Row [(.t 23), (.t 25)]), none, [28, 29], none⟩, (rO 27 (.bslice 1 [(.t 26)])), (rO 28 (.app 1 24 (.t 16) (.t 27))), (rO 7 (.mov (.t 28)))])))) (.reg false [] [(rO 14 (.mov (.t 8))), (rO 15 (.arith .add (.t 14) (.c (.int .i64 1)))), (rO 8 (.mov (.t 15)))])))))) (.seq (.gh (.frz [8]) (.reg false [33, 34] [(rO 29 (.faddr 0 (.t 3))), (rO 30 (.load none (.t 29))), (rO 31 (.mov (.t 7))), (rO 32 (.call N.spec_l01Echelon [(.t 30), (.t 31)])), (rO 33 (.call N.spec_l01Vectors [(.t 32)])), (rO 6 (.mov (.t 33)))])) .ret))))⟩
def ir_spec_l05Basis (N : FN) : CF := ⟨1, 18, [(.tmp 2)], (.seq (.reg false [2] [(rO 1 (.box (.t 0))), (rO 2 (.mov (.c .emp)))]) (.seq (.ga (.dead [5]) (.ga (.ren [3]) (.reg false [6] [(rO 5 (.bslice 6 [])), (rO 3 (.mov (.t 5)))]))) (.seq (.seq (.reg false [] [(rO 4 (.mov (.c (.int .i64 0))))]) (.block 0 (.loop (.seq (.seq (.reg false [] [(rO 6 (.mov (.t 4))), (rO 7 (.faddr 1 (.t 1))), (rO 8 (.load none (.t 7))), (rO 9 (.cmp .lss (.t 6) (.t 8)))]) (.cond (.t 9) .skip (.exit 0))) (.seq (.block 1 (.ga (.dead [16]) (.ga (.ren [3]) (.reg false [15, 16, 17] [(rO 12 (.mov (.t 3))), (rO 13 (.mov (.t 4))), (rO 14 (.call N.spec_l01Basis [(.t 13)])), (rO 15 (.bslice 6 [(.t 14)])), (rO 16 (.app 6 6 (.t 12) (.t 15))), (rO 3 (.mov (.t 16)))])))) (.reg false [] [(rO 10 (.mov (.t 4))), (rO 11 (.arith .add (.t 10) (.c (.int .i64 1)))), (rO 4 (.mov (.t 11)))])))))) (.seq (.reg false [] [(rO 17 (.mov (.t 3))), (rO 2 (.mov (.t 17)))]) .ret))))⟩
def ir_spec_l05Nil (N : FN) : CF := ⟨1, 17, [(.tmp 2)], (.seq (.reg false [2] [(rO 1 (.box (.t 0))), (rO 2 (.mov (.c .emp)))]) (.seq (.reg false [] [(rO 4 (.faddr 0 (.t 1))), (rO 5 (.load none (.t 4))), (rO 3 (.mov (.t 5)))]) (.seq (.block 0 (.loop (.seq (.seq (.reg false [] [(rO 6 (.mov (.t 3))), (rO 7 (.faddr 1 (.t 1))), (rO 8 (.load none (.t 7))), (rO 9 (.cmp .lss (.t 6) (.t 8)))]) (.cond (.t 9) .skip (.exit 0))) (.block 1 (.reg false [] [(rO 10 (.mov (.t 3))), (rO 11 (.faddr 0 (.t 1))), (rO 12 (.load none (.t 11))), (rO 13 (.arith .mul (.t 10) (.t 12))), (rO 3 (.mov (.t 13)))]))))) (.seq (.reg false [17] [(rO 14 (.load (some 224) (.t 1))), (rO 15 (.mov (.t 3))), (rO 16 (.call N.spec_l05Space [(.t 14), (.t 15), (.c (.int .i64 0))])), (rO 2 (.mov (.t 16)))]) .ret))))⟩
def ir_spec_l05Row (N : FN) : CF := ⟨2, 21, [(.tmp 4)], (.seq (.reg false [3] [(rO 2 (.box (.t 0))), (rO 4 (.mov (.c .emp)))]) (.seq (.ga (.dead [7]) (.ga (.ren [5]) (.reg false [8] [(rO 7 (.bslice 1 [])), (rO 5 (.mov (.t 7)))]))) (.seq (.seq (.reg false [] [(rO 6 (.mov (.c (.int .i64 0))))]) (.block 0 (.loop (.seq (.seq (.reg false [] [(rO 8 (.mov (.t 6))), (rO 9 (.mov (.t 1))), (rO 10 (.cmp .lss (.t 8) (.t 9)))]) (.cond (.t 10) .skip (.exit 0))) (.seq (.block 1 (.ga (.dead [19]) (.ga (.ren [5]) (.reg false [19, 20] [(rO 13 (.mov (.t 5))), (rO 14 (.mov (.t 6))), (rO 15 (.iaddrA 6 1 (.t 2) (.t 14))), (rO 16 (.load none (.t 15))), (rO 17 (.conv .i64 (.t 16))), (rO 18 (.bslice 1 [(.t 17)])), (rO 19 (.app 1 8 (.t 13) (.t 18))), (rO 5 (.mov (.t 19)))])))) (.reg false [] [(rO 11 (.mov (.t 6))), (rO 12 (.arith .add (.t 11) (.c (.int .i64 1)))), (rO 6 (.mov (.t 12)))])))))) (.seq (.reg false [] [(rO 20 (.mov (.t 5))), (rO 4 (.mov (.t 20)))]) .ret))))⟩
def ir_impl_Algebra_all (N : FN) : CF := ⟨1, 18, [(.tmp 2)], (.seq (.reg false [] [(rO 2 (.mov (.c .emp)))]) (.seq (.ga (.dead [5]) (.ga (.ren [3]) (.reg false [6] [(rO 5 (.bslice 6 [])), (rO 3 (.mov (.t 5)))]))) (.seq (.seq (.reg false [8] [(rO 6 (.mov (.t 0))), (rO 7 (.call N.impl_Algebra_n [(.t 6)])), (rO 8 (.mov (.c (.int .i64 0))))]) (.block 0 (.loop (.seq (.reg false [] [(rO 9 (.cmp .lss (.t 8) (.t 7)))]) (.seq (.cond (.t 9) .skip (.exit 0)) (.seq (.block 1 (.seq (.reg false [] [(rO 10 (.mov (.t 8))), (rO 4 (.mov (.t 10)))]) (.ga (.dead [15]) (.ga (.ren [3]) (.reg false [14, 15, 16] [(rO 11 (.mov (.t 3))), (rO 12 (.mov (.t 4))), (rO 13 (.call N.impl_basis [(.t 12)])), (rO 14 (.bslice 6 [(.t 13)])), (rO 15 (.app 6 6 (.t 11) (.t 14))), (rO 3 (.mov (.t 15)))]))))) (.reg false [] [(rO 16 (.arith .add (.t 8) (.c (.int .i64 1)))), (rO 8 (.mov (.t 16)))]))))))) (.seq (.reg false [] [(rO 17 (.mov (.t 3))), (rO 2 (.mov (.t 17)))]) .ret))))⟩
def ir_impl_Algebra_spread (N : FN) : CF := ⟨3, 28, [(.tmp 6)], (.seq (.reg false [5] [(rO 4 (.box (.t 1))), (rO 6 (.mov (.c .emp)))]) (.seq (.ga (.dead [10]) (.ga (.ren [7]) (.reg false [11] [(rO 10 (.bslice 6 [])), (rO 7 (.mov (.t 10)))]))) (.seq (.seq (.reg false [] [(rO 11 (.mov (.t 2))), (rO 12 (.len (.t 11))), (rO 13 (.mov (.c (.int .i64 0))))]) (.block 0 (.loop (.seq (.reg false [] [(rO 14 (.cmp .lss (.t 13) (.t 12)))]) (.seq (.cond (.t 14) .skip (.exit 0)) (.seq (.block 1 (.seq (.reg false [10] [(rO 15 (.iaddrS 6 (.t 11) (.t 13))), (rO 16 (.load (some 6) (.t 15))), (rO 9 (.alloc [(.int .u8 0), (.int .u8 0), (.int .u8 0), (.int .u8 0), (.int .u8 0), (.int .u8 0)])), ⟨none, 32, (.store (some 6) (.t 9) (.t 16)), none, [], none⟩]) (.ga (.dead [23]) (.ga (.ren [7]) (.reg false [22, 23, 24] [(rO 17 (.mov (.t 7))), (rO 18 (.mov (.t 0))), (rO 19 (.load (some 6) (.t 4))), (rO 20 (.load (some 6) (.t 9))), (rO 21 (.call N.impl_Algebra_times [(.t 18), (.t 19), (.t 20)])), (rO 22 (.bslice 6 [(.t 21)])), (rO 23 (.app 6 6 (.t 17) (.t 22))), (rO 7 (.mov (.t 23)))]))))) (.reg false [] [(rO 24 (.arith .add (.t 13) (.c (.int .i64 1)))), (rO 13 (.mov (.t 24)))]))))))) (.seq (.reg false [28] [(rO 25 (.mov (.t 0))), (rO 26 (.mov (.t 7))), (rO 27 (.call N.impl_Algebra_spanned [(.t 25), (.t 26)])), (rO 6 (.mov (.t 27)))]) .ret))))⟩
def ir_impl_Algebra_spanned (N : FN) : CF := ⟨2, 29, [(.tmp 4)], (.seq (.reg false [] [(rO 4 (.mov (.c .emp)))]) (.seq (.ga (.dead [8]) (.ga (.ren [5]) (.reg false [9] [(rO 8 (.bslice 1 [])), (rO 5 (.mov (.t 8)))]))) (.seq (.seq (.reg false [] [(rO 9 (.mov (.t 1))), (rO 10 (.len (.t 9))), (rO 11 (.mov (.c (.int .i64 0))))]) (.block 0 (.loop (.seq (.reg false [] [(rO 12 (.cmp .lss (.t 11) (.t 10)))]) (.seq (.cond (.t 12) .skip (.exit 0)) (.seq (.block 1 (.seq (.reg false [8] [(rO 13 (.iaddrS 6 (.t 9) (.t 11))), (rO 14 (.load (some 6) (.t 13))), (rO 7 (.alloc [(.int .u8 0), (.int .u8 0), (.int .u8 0), (.int .u8 0), (.int .u8 0), (.int .u8 0)])), ⟨none, 33, (.store (some 6) (.t 7) (.t 14)), none, [], none⟩]) (.ga (.dead [20]) (.ga (.ren [5]) (.reg false [19, 20, 21] [(rO 15 (.mov (.t 5))), (rO 16 (.mov (.t 0))), (rO 17 (.load (some 6) (.t 7))), (rO 18 (.call N.impl_Algebra_row [(.t 16), (.t 17)])), (rO 19 (.bslice 1 [(.t 18)])), (rO 20 (.app 1 24 (.t 15) (.t 19))), (rO 5 (.mov (.t 20)))]))))) (.reg false [] [(rO 21 (.arith .add (.t 11) (.c (.int .i64 1)))), (rO 11 (.mov (.t 21)))]))))))) (.seq (.gh (.frz [6]) (.reg false [28, 29] [(rO 22 (.mov (.t 5))), (rO 23 (.mov (.t 0))), (rO 24 (.nilchk (.t 23))), (rO 25 (.faddr 0 (.t 24))), (rO 26 (.load none (.t 25))), (rO 27 (.call N.impl_reduce [(.t 22), (.t 26)])), (rO 28 (.call N.impl_vectors [(.t 27)])), (rO 4 (.mov (.t 28)))])) .ret))))⟩
def ir_impl_Algebra_row (N : FN) : CF := ⟨2, 24, [(.tmp 4)], (.seq (.reg false [4] [(rO 3 (.box (.t 1))), (rO 4 (.mov (.c .emp)))]) (.seq (.ga (.dead [8]) (.ga (.ren [5]) (.reg false [9] [(rO 8 (.bslice 1 [])), (rO 5 (.mov (.t 8)))]))) (.seq (.seq (.gh (.frz [4]) (.reg false [11] [(rO 9 (.mov (.t 0))), (rO 10 (.call N.impl_Algebra_n [(.t 9)])), (rO 11 (.slcA 6 1 (.t 3) none (some (.t 10)))), (rO 12 (.len (.t 11))), (rO 13 (.mov (.c (.int .i64 0))))])) (.block 0 (.loop (.seq (.reg false [] [(rO 14 (.cmp .lss (.t 13) (.t 12)))]) (.seq (.cond (.t 14) .skip (.exit 0)) (.seq (.block 1 (.seq (.reg false [] [(rO 15 (.iaddrS 1 (.t 11) (.t 13))), (rO 16 (.load none (.t 15))), (rO 7 (.mov (.t 16)))]) (.ga (.dead [21]) (.ga (.ren [5]) (.reg false [21, 22] [(rO 17 (.mov (.t 5))), (rO 18 (.mov (.t 7))), (rO 19 (.conv .i64 (.t 18))), (rO 20 (.bslice 1 [(.t 19)])), (rO 21 (.app 1 8 (.t 17) (.t 20))), (rO 5 (.mov (.t 21)))]))))) (.reg false [] [(rO 22 (.arith .add (.t 13) (.c (.int .i64 1)))), (rO 13 (.mov (.t 22)))]))))))) (.seq (.reg false [] [(rO 23 (.mov (.t 5))), (rO 4 (.mov (.t 23)))]) .ret))))⟩
end Go.X
namespace Go.X
open Go Go.RowKit
end Go.X
