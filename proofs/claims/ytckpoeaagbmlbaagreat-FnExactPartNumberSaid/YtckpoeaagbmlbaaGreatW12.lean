import Derived.Test.YtckpoeaagbmlbaaGreatK13
import Derived.Test.YtckpoeaagbmlbaaGreatW7
set_option linter.all false
namespace Go.X
open Go Go.RowKit
set_option maxRecDepth 100000
set_option maxHeartbeats 8000000
set_option linter.unusedVariables false
variable {P : Program} {N : FN}
theorem c_sCode5 (hV : C_sCodeL P N) (hC : C_sCommutative P N) (hf : isFn P N.spec_l05Code (ir_spec_l05Code N) = true) : C_sCode5 P N := by
  intro a q s hi hq hs
  have hat := algAt_one a
  have hal := hat.all
  have hV' := hV (q := q) (s := s) hi hq hs
  refine can_of hf rfl rfl ?_
  by_cases g : sAlgP a ∧ AllSm a q s
  · have hC' := hC (a := a)
    rw [dB_t g] at hV' ⊢
    change Can P _ _ (.val (.int .i64 0)) at hV'
    by_cases c : sCommP a
    · have hC2 := can_dt hC' c
      rw [dB_t c]
      (repeat' (conv => whnf)<;>first|exact True.intro|(refine if_ ?_ ?_<;>intro h<;>first|exact h.elim|(exfalso; omega)|skip)|refine vs_ ?_|refine dv_ ?_|exact fin_|(show ∃ _, _ ∧ _; refine ex_ ?_ (by first|with_reducible exact rfl|with_reducible exact hal|exact hV'|exact hC2|exact rd_))|(show ∃ _ _, _ ∧ _; refine ex2_ ?_ (by first|with_reducible exact rfl|with_reducible exact hal|exact hV'|exact hC2|exact rd_)))
    · have hC2 := can_df hC' c
      rw [dB_f c]
      (repeat' (conv => whnf)<;>first|exact True.intro|(refine if_ ?_ ?_<;>intro h<;>first|exact h.elim|(exfalso; omega)|skip)|refine vs_ ?_|refine dv_ ?_|exact fin_|(show ∃ _, _ ∧ _; refine ex_ ?_ (by first|with_reducible exact rfl|with_reducible exact hal|exact hV'|exact hC2|exact rd_))|(show ∃ _ _, _ ∧ _; refine ex2_ ?_ (by first|with_reducible exact rfl|with_reducible exact hal|exact hV'|exact hC2|exact rd_)))
  · rw [dB_f g] at hV' ⊢
    change Can P _ _ (.val (.int .i64 1)) at hV'
    (repeat' (conv => whnf)<;>first|exact True.intro|(refine if_ ?_ ?_<;>intro h<;>first|exact h.elim|(exfalso; omega)|skip)|refine vs_ ?_|refine dv_ ?_|exact fin_|(show ∃ _, _ ∧ _; refine ex_ ?_ (by first|with_reducible exact rfl|with_reducible exact hal|exact hV'|exact rd_))|(show ∃ _ _, _ ∧ _; refine ex2_ ?_ (by first|with_reducible exact rfl|with_reducible exact hal|exact hV'|exact rd_)))
theorem all0 {a : Alg} {p : Prop} {s : Nat → Nat → Int} : dB (p ∧ AllSm a 0 s) = dB p := dB_congr ⟨fun h => h.1, fun h => ⟨h, fun i hi => absurd hi (Nat.not_lt_zero i)⟩⟩
theorem sCode5E (h : C_sCode5 P N) {a : Alg} (hi : SAlgIn a) : Can P N.spec_l05Code [algD a, .emp] (.val (.int .i64 (comC (dB (sAlgP a)) (dB (sCommP a))))) := by
  have := h (q := 0) (s := fun _ => Z) hi (by omega) (fun _ _ => by show (0 : Int) ≤ 0 ∧ (0 : Int) ≤ 255; omega)
  rw [all0] at this
  exact can_emp1 this rfl
theorem eq1 {n m : Nat} (h : m = n) : (true && (true && decide (n = 1))) = Cm.eql.int (m : Int) 1 := by
  subst h
  show (true && (true && decide (m = 1))) = decide ((m : Int) = 1)
  rw [Bool.true_and, Bool.true_and, Bool.eq_iff_iff, decide_eq_true_eq, decide_eq_true_eq]; omega
theorem prims_len {a : Alg} : ((sortV (primI a)).map vecL).length = (primI a).length := by rw [List.length_map, sortV_len]
end Go.X
namespace Go.X
open Go Go.RowKit
set_option maxRecDepth 100000
set_option maxHeartbeats 8000000
variable {P : Program} {N : FN}
theorem sort_1 (L : List Row) : sortV (L.take 1) ++ L.drop 1 = L := by
  cases L with
  | nil => rfl
  | cons v r => rfl
def midV (S : List Row) (v : Row) (R : List Row) (j : Nat) : List Row := S.take j ++ v :: (S.drop j ++ R)
theorem midV_len {S : List Row} {v : Row} {R : List Row} {j : Nat} (h : j ≤ S.length) : (midV S v R j).length = S.length + 1 + R.length := by
  unfold midV
  rw [List.length_append, List.length_cons, List.length_append, List.length_take, List.length_drop]; omega
theorem midV_at {S : List Row} {v : Row} {R : List Row} {j : Nat} (h : j ≤ S.length) : (midV S v R j).getD j Z = v := by
  unfold midV
  rw [getD_right (by rw [List.length_take]; omega), List.length_take, show j - min j S.length = 0 by omega]; rfl
theorem midV_be {S : List Row} {v : Row} {R : List Row} {j : Nat} (h : j + 1 ≤ S.length) : (midV S v R (j + 1)).getD j Z = S.getD j Z := by
  unfold midV
  rw [getD_left (by rw [List.length_take]; omega), getD_take (by omega)]
theorem midV_swap {S : List Row} {v : Row} {R : List Row} {j : Nat} (h : j + 1 ≤ S.length) : ((midV S v R (j + 1)).set (j + 1) (S.getD j Z)).set j v = midV S v R j := by
  have e : S.drop j = S.getD j Z :: S.drop (j + 1) := by
    rw [List.drop_eq_getElem_cons (by omega), List.getD_eq_getElem?_getD, List.getElem?_eq_getElem (by omega)]; rfl
  have e2 : S.take (j + 1) = S.take j ++ [S.getD j Z] := take_getD (by omega)
  have hl : (S.take j).length = j := by rw [List.length_take]; omega
  unfold midV
  rw [e2, e, List.append_assoc]
  have s1 : (S.take j ++ ([S.getD j Z] ++ v :: (S.drop (j + 1) ++ R))).set (j + 1) (S.getD j Z) = S.take j ++ (S.getD j Z :: S.getD j Z :: (S.drop (j + 1) ++ R)) := by
    rw [List.set_append_right _ _ (by omega), hl, show j + 1 - j = 1 by omega]; rfl
  rw [s1, List.set_append_right _ _ (by omega), hl, Nat.sub_self]; rfl
theorem midV_end {S : List Row} {v : Row} {R : List Row} {j : Nat} (h : j = S.length) : midV S v R j = S ++ v :: R := by
  subst h
  unfold midV
  rw [List.take_length, List.drop_length]; rfl
theorem drop_getD {L : List Row} {j : Nat} (h : j < L.length) : L.drop j = L.getD j Z :: L.drop (j + 1) := by
  rw [List.drop_eq_getElem_cons h, List.getD_eq_getElem?_getD, List.getElem?_eq_getElem h]; rfl
theorem sub_vm {L : List Row} {i : Nat} {v : Row} (h : i < L.length) (hv : L.getD i Z = v) : sub2 (L.map vecL) ((i : Nat) : Int).toNat 0 6 = some (vecL v) := by
  have e : L[i]? = some v := by rw [← hv, List.getD_eq_getElem?_getD, List.getElem?_eq_getElem h]; rfl
  unfold sub2
  rw [Int.toNat_natCast, List.getElem?_map, e]
  rfl
theorem sub_vm2 {L : List Row} {i : Nat} {v : Row} (h : i < L.length) (hv : L.getD i Z = v) : sub2 (L.map vecL) (((i + 1 : Nat) : Int) - 1).toNat 0 6 = some (vecL v) := by
  rw [show (((i + 1 : Nat) : Int) - 1) = ((i : Nat) : Int) by omega]
  exact sub_vm h hv
theorem get_vm {L : List Row} {i : Nat} {v : Row} (h : i < L.length) (hv : L.getD i Z = v) : (L.map vecL)[((i : Nat) : Int).toNat]? = some (vecL v) := by
  have e : L[i]? = some v := by rw [← hv, List.getD_eq_getElem?_getD, List.getElem?_eq_getElem h]; rfl
  rw [Int.toNat_natCast, List.getElem?_map, e]
  rfl
theorem get_vm2 {L : List Row} {i : Nat} {v : Row} {x : List D} (h : i < L.length) (hv : L.getD i Z = v) : ((L.map vecL).set ((i + 1 : Nat) : Int).toNat x)[(((i + 1 : Nat) : Int) - 1).toNat]? = some (vecL v) := by
  rw [show (((i + 1 : Nat) : Int) - 1) = ((i : Nat) : Int) by omega, List.getElem?_set_ne (by omega)]
  exact get_vm h hv
theorem vec_splice (v w : Row) : splice (vecL v) 0 (vecL w) = vecL w := splice_whole (by rw [show (vecL v).length = 6 from arr_len .., show (vecL w).length = 6 from arr_len ..])
theorem st_sw {S : List Row} {v : Row} {R : List Row} {q : Nat} (h : q + 1 ≤ S.length) : Chunk.data 6 ((((midV S v R (q + 1)).map vecL).set ((q + 1 : Nat) : Int).toNat (splice (vecL v) 0 (vecL (S.getD q Z)))).set (((q + 1 : Nat) : Int) - 1).toNat (splice (vecL (S.getD q Z)) 0 (vecL v))) = .data 6 ((midV S v R q).map vecL) := by
  rw [show (((q + 1 : Nat) : Int) - 1) = ((q : Nat) : Int) by omega, Int.toNat_natCast, Int.toNat_natCast, vec_splice, vec_splice, ← List.map_set, ← List.map_set, midV_swap h]
theorem cmp_lt {v w : Row} (h : ltV v w = true) : cmpV v w = -1 := by
  have hn : ¬ VEq v w := fun e => by
    obtain ⟨q, _, h2, h3, _⟩ := ltV_iff.1 h
    have := e q (by omega); omega
  unfold cmpV
  rw [if_neg hn, if_pos h]
theorem cmp_ge {v w : Row} (h : ltV v w = false) (hn : ¬ VEq v w) : cmpV v w = 1 := by
  unfold cmpV
  rw [if_neg hn, if_neg (by rw [h]; simp)]
theorem insV_mid {S : List Row} {v : Row} {R : List Row} {j : Nat} (h : posV v S = j) : insV S v ++ R = midV S v R j := by
  unfold insV midV
  rw [h, List.append_assoc]; rfl
theorem take_dist {L : List Row} (hd : DistV L) {i : Nat} (hi : i < L.length) (s : Row) (hs : s ∈ L.take i) : ¬ VEq s (L.getD i Z) := by
  have e : L = L.take i ++ L.drop i := (List.take_append_drop i L).symm
  have hd' : (L.take i ++ L.drop i).Pairwise fun v w => ¬ VEq v w := by rw [← e]; exact hd
  refine (List.pairwise_append.1 hd').2.2 s hs _ ?_
  rw [drop_getD hi]
  exact List.mem_cons_self ..
theorem c_insSort (hf : isFn P N.slices_insertionSortCmpFunc_impl_Vector (ir_slices_insertionSortCmpFunc_impl_Vector N) = true) : C_insSort P N := by
  intro L g hL hd hb hg
  refine can_ofM hf rfl rfl ?_
  (repeat' (conv => whnf)<;>first|exact True.intro|(refine if_ ?_ ?_<;>intro h<;>first|exact h.elim|(exfalso; omega)|skip)|refine vs_ ?_|refine dv_ ?_|exact fin_|(show ∃ _, _ ∧ _; refine ex_ ?_)|(show ∃ _ _, _ ∧ _; refine ex2_ ?_))
  conv => whnf
  refine vc_loop (α := Nat) 0 (fun i => L.length - i) (fun i => i + 1 ≤ L.length ∨ (i = 0 ∧ L.length = 0)) [] (fun i => [(0, .row 0 6), (1, .d (.int .i64 0)), (2, .d (.int .i64 L.length)), (3, .d (.fn g [] [])), (8, .d (.int .i64 ((i + 1 : Nat) : Int)))]) (fun i => [(0, .data 6 ((sortV (L.take (i + 1)) ++ L.drop (i + 1)).map vecL))]) lp_ ?_ ?_
  · rw [sort_1]
    (repeat' (conv => whnf)<;>first|exact True.intro|(refine if_ ?_ ?_<;>intro h<;>first|exact h.elim|(exfalso; omega)|skip)|refine vs_ ?_|refine dv_ ?_|exact fin_|(show ∃ _, _ ∧ _; refine ex_ ?_)|(show ∃ _ _, _ ∧ _; refine ex2_ ?_))
  · intro i hi
    by_cases hlt : i + 1 < L.length
    · (repeat' (conv => whnf)<;>first|exact True.intro|(refine if_ ?_ ?_<;>intro h<;>first|exact h.elim|(exfalso; omega)|skip)|refine vs_ ?_|refine dv_ ?_|exact fin_|(show ∃ _, _ ∧ _; refine ex_ ?_)|(show ∃ _ _, _ ∧ _; refine ex2_ ?_))
      conv => whnf
      have hS : (sortV (L.take (i + 1))).length = i + 1 := by rw [sortV_len, List.length_take]; omega
      have hR : (L.drop (i + 2)).length = L.length - (i + 2) := List.length_drop ..
      have hvm : L.getD (i + 1) Z ∈ L := getD_memE hlt
      obtain ⟨f1, f2, f3⟩ := sortV_facts _ (L.take (i + 1)) rfl (hd.sublist (List.take_sublist _ _))
      have hne : ∀ s ∈ sortV (L.take (i + 1)), ¬ VEq s (L.getD (i + 1) Z) := fun s hs => take_dist hd hlt s ((f3 s).1 hs)
      have hSb : ∀ k, k < i + 1 → Byts ((sortV (L.take (i + 1))).getD k Z) := fun k hk => hb _ (List.mem_of_mem_take ((f3 _).1 (getD_memE (by omega))))
      have hs1 : sortV (L.take (i + 1 + 1)) = insV (sortV (L.take (i + 1))) (L.getD (i + 1) Z) := sortV_take hlt
      have e0 : sortV (L.take (i + 1)) ++ L.drop (i + 1) = midV (sortV (L.take (i + 1))) (L.getD (i + 1) Z) (L.drop (i + 2)) (i + 1) := by
        rw [midV_end hS.symm, drop_getD hlt]
      rw [e0]
      have hvb := hb _ hvm
      generalize hSe : sortV (L.take (i + 1)) = S at *
      generalize L.getD (i + 1) Z = v at *
      generalize hRe : L.drop (i + 2) = R at *
      refine vc_loop (α := Nat) (i + 1) (fun j => j) (fun j => j ≤ i + 1 ∧ ∀ k, j ≤ k → k < i + 1 → ltV v (S.getD k Z) = true) [] (fun j => [(0, .row 0 6), (1, .d (.int .i64 0)), (2, .d (.int .i64 L.length)), (3, .d (.fn g [] [])), (8, .d (.int .i64 ((i + 1 : Nat) : Int))), (9, .d (.int .i64 (j : Nat)))]) (fun j => [(0, .data 6 ((midV S v R j).map vecL))]) lp_ ?_ ?_
      · (repeat' (conv => whnf)<;>first|exact True.intro|(refine if_ ?_ ?_<;>intro h<;>first|exact h.elim|(exfalso; omega)|skip)|refine vs_ ?_|refine dv_ ?_|exact fin_|(show ∃ _, _ ∧ _; refine ex_ ?_)|(show ∃ _ _, _ ∧ _; refine ex2_ ?_))
      · rintro j ⟨hj, hgt⟩
        have hml : (midV S v R j).length = L.length := by rw [midV_len (by omega)]; omega
        have hfin : posV v S = j → sortV (L.take (i + 1 + 1)) ++ L.drop (i + 1 + 1) = midV S v R j := fun h => by
          rw [hs1, show L.drop (i + 1 + 1) = R from hRe, insV_mid h]
        have hasc : j < S.length → ltV (S.getD j Z) v = false := fun h => ltV_asym (hgt j (Nat.le_refl _) (by omega))
        cases j with
        | zero =>
          (repeat' (conv => whnf)<;>first|exact True.intro|(refine if_ ?_ ?_<;>intro h<;>first|exact h.elim|(exfalso; omega)|skip)|refine vs_ ?_|refine dv_ ?_|exact fin_|(show ∃ _, _ ∧ _; refine ex_ ?_)|(show ∃ _ _, _ ∧ _; refine ex2_ ?_))
          conv => whnf
          refine ⟨i + 1, .inl (by omega), by omega, ?_⟩
          rw [hfin (posV_eq (by omega) (fun k hk => by omega) hasc)]
          (repeat' (conv => whnf)<;>first|exact True.intro|(refine if_ ?_ ?_<;>intro h<;>first|exact h.elim|(exfalso; omega)|skip)|refine vs_ ?_|refine dv_ ?_|exact fin_|(show ∃ _, _ ∧ _; refine ex_ ?_)|(show ∃ _ _, _ ∧ _; refine ex2_ ?_))
        | succ q =>
          have hg' := hg hvb (hSb q (by omega))
          have hvq : ¬ VEq v (S.getD q Z) := fun h => hne _ (getD_memE (by omega)) fun i hi => (h i hi).symm
          cases c : ltV v (S.getD q Z) with
          | true =>
            rw [cmp_lt c] at hg'
            (repeat' (conv => whnf)<;>first|exact True.intro|(refine if_ ?_ ?_<;>intro h<;>first|exact h.elim|(exfalso; omega)|skip)|refine vs_ ?_ (by first|exact ⟨rfl, by omega, by rw [List.length_set, List.length_map, hml]; omega⟩|exact sd_)|refine dv_ ?_|exact fin_|(show ∃ _, _ ∧ _; refine ex_ ?_ (by first|with_reducible exact rfl|with_reducible exact sub_vm (by omega) (midV_at (by omega))|with_reducible exact sub_vm2 (by omega) (midV_be (by omega))|exact hg'|with_reducible exact get_vm (by omega) (midV_at (by omega))|with_reducible exact get_vm2 (by omega) (midV_be (by omega))|exact rd_))|(show ∃ _ _, _ ∧ _; refine ex2_ ?_ (by first|with_reducible exact rfl|with_reducible exact sub_vm (by omega) (midV_at (by omega))|with_reducible exact sub_vm2 (by omega) (midV_be (by omega))|exact hg'|with_reducible exact get_vm (by omega) (midV_at (by omega))|with_reducible exact get_vm2 (by omega) (midV_be (by omega))|exact rd_)))
            conv => whnf
            refine ⟨q, ⟨by omega, fun k hk1 hk2 => ?_⟩, by omega, ?_⟩
            · by_cases e : k = q
              · rw [e]; exact c
              · exact hgt k (by omega) hk2
            · (repeat' (conv => whnf)<;>first|exact True.intro|(refine if_ ?_ ?_<;>intro h<;>first|exact h.elim|(exfalso; omega)|skip)|refine vs_ ?_ (by first|exact st_sw (by omega)|exact sd_)|refine dv_ ?_|exact fin_|(show ∃ _, _ ∧ _; refine ex_ ?_)|(show ∃ _ _, _ ∧ _; refine ex2_ ?_))
          | false =>
            rw [cmp_ge c hvq] at hg'
            have c2 := ltV_tot c hvq
            (repeat' (conv => whnf)<;>first|exact True.intro|(refine if_ ?_ ?_<;>intro h<;>first|exact h.elim|(exfalso; omega)|skip)|refine vs_ ?_|refine dv_ ?_|exact fin_|(show ∃ _, _ ∧ _; refine ex_ ?_ (by first|with_reducible exact rfl|with_reducible exact sub_vm (by omega) (midV_at (by omega))|with_reducible exact sub_vm2 (by omega) (midV_be (by omega))|exact hg'|exact rd_))|(show ∃ _ _, _ ∧ _; refine ex2_ ?_ (by first|with_reducible exact rfl|with_reducible exact sub_vm (by omega) (midV_at (by omega))|with_reducible exact sub_vm2 (by omega) (midV_be (by omega))|exact hg'|exact rd_)))
            conv => whnf
            refine ⟨i + 1, .inl (by omega), by omega, ?_⟩
            rw [hfin (posV_eq (by omega) (fun k hk => by
              by_cases e : k = q
              · rw [e]; exact c2
              · exact ltV_trans (asc_get f1 (by omega) (by omega)) c2) hasc)]
            (repeat' (conv => whnf)<;>first|exact True.intro|(refine if_ ?_ ?_<;>intro h<;>first|exact h.elim|(exfalso; omega)|skip)|refine vs_ ?_|refine dv_ ?_|exact fin_|(show ∃ _, _ ∧ _; refine ex_ ?_)|(show ∃ _ _, _ ∧ _; refine ex2_ ?_))
    · have hl : L.take (i + 1) = L := List.take_of_length_le (by omega)
      have hl2 : L.drop (i + 1) = [] := List.drop_of_length_le (by omega)
      rw [hl, hl2, List.append_nil]
      (repeat' (conv => whnf)<;>first|exact True.intro|(refine if_ ?_ ?_<;>intro h<;>first|exact h.elim|(exfalso; omega)|skip)|refine vs_ ?_|refine dv_ ?_|exact fin_|(show ∃ _, _ ∧ _; refine ex_ ?_)|(show ∃ _ _, _ ∧ _; refine ex2_ ?_))
      conv => whnf
      refine ⟨?_, ?_⟩
      · conv => whnf
        exact ⟨⟨rfl, by rw [List.length_map, List.length_map, sortV_len]⟩, rfl⟩
      · conv => whnf
        exact ⟨by decide, rfl⟩
end Go.X
namespace Go.X
open Go Go.RowKit
set_option maxRecDepth 100000
set_option maxHeartbeats 8000000
variable {P : Program} {N : FN}
theorem wk_u64 {x : Int} {K : Int → Prop} (h : 0 ≤ x ∧ x ≤ 18446744073709551615) (hk : K x) : wrapK .u64 x K := by
  refine .mk ?_
  have e : IntKind.u64.wrap x = x := by
    show x % 18446744073709551616 = x
    omega
  rw [e]; exact hk
theorem c_pdqSort (hI : C_insSort P N) (hf : isFn P N.slices_pdqsortCmpFunc_impl_Vector (ir_slices_pdqsortCmpFunc_impl_Vector N) = true) : C_pdqSort P N := by
  intro L g k hL hd hb hg
  have hI' := hI hL hd hb hg
  have hlen : (L.map vecL).length = L.length := List.length_map ..
  refine can_ofM hf rfl rfl ?_
  (repeat' (conv => whnf)<;>first|exact True.intro|(refine if_ ?_ ?_<;>intro h<;>first|exact h.elim|(exfalso; omega)|skip)|refine vs_ ?_|refine dv_ ?_|exact fin_|(show ∃ _, _ ∧ _; refine ex_ ?_)|(show ∃ _ _, _ ∧ _; refine ex2_ ?_))
  conv => whnf
  refine vc_loop (α := Nat) 0 (fun i => i) (fun i => i = 0) [] (fun i => [(0, .row 0 6), (1, .d (.int .i64 0)), (2, .d (.int .i64 L.length)), (4, .d (.fn g [] []))]) (fun i => [(0, .data 6 (L.map vecL))]) lp_ ?_ ?_
  · (repeat' (conv => whnf)<;>first|exact True.intro|(refine if_ ?_ ?_<;>intro h<;>first|exact h.elim|(exfalso; omega)|skip)|refine vs_ ?_|refine dv_ ?_|exact fin_|(show ∃ _, _ ∧ _; refine ex_ ?_)|(show ∃ _ _, _ ∧ _; refine ex2_ ?_))
  · intro i hi
    (repeat' (conv => whnf)<;>first|exact True.intro|(refine if_ ?_ ?_<;>intro h<;>first|exact h.elim|(exfalso; omega)|skip)|refine vs_ ?_|refine dv_ ?_|exact fin_|(show ∃ _, _ ∧ _; refine ex_ ?_ (by first|with_reducible exact rfl|exact hI'|exact rd_))|(show ∃ _ _, _ ∧ _; refine ex2_ ?_ (by first|with_reducible exact rfl|exact hI'|exact rd_)))
    conv => whnf
    refine ⟨?_, ?_⟩
    · conv => whnf
      exact ⟨⟨rfl, by rw [List.length_map, List.length_map, sortV_len]⟩, rfl⟩
    · conv => whnf
      exact ⟨by decide, rfl⟩
theorem c_SortVec (hS : C_pdqSort P N) (hN : C_Len P N) (hf : isFn P N.slices_SortFunc_Limpl_Vector_impl_Vector (ir_slices_SortFunc_Limpl_Vector_impl_Vector N) = true) : C_SortVec P N := by
  intro L g hL hd hb hg
  have hlen : (L.map vecL).length = L.length := List.length_map ..
  have hN' := hN (x := L.length) hL
  have hS' := hS (k := lenB L.length) hL hd hb hg
  refine can_ofM hf rfl rfl ?_
  conv => whnf
  refine wk_u64 (by rw [hlen]; omega) ?_
  rw [hlen]
  (repeat' (conv => whnf)<;>first|exact True.intro|(refine if_ ?_ ?_<;>intro h<;>first|exact h.elim|(exfalso; omega)|skip)|refine vs_ ?_|refine dv_ ?_|exact fin_|(show ∃ _, _ ∧ _; refine ex_ ?_ (by first|with_reducible exact rfl|exact hN'|exact hS'|exact rd_))|(show ∃ _ _, _ ∧ _; refine ex2_ ?_ (by first|with_reducible exact rfl|exact hN'|exact hS'|exact rd_)))
  conv => whnf
  refine ⟨?_, ?_⟩
  · conv => whnf
    exact ⟨⟨rfl, by rw [List.length_map, sortV_len]⟩, rfl⟩
  · conv => whnf
    exact ⟨by decide, rfl⟩
end Go.X
namespace Go.X
open Go Go.RowKit
set_option maxRecDepth 100000
set_option maxHeartbeats 8000000
variable {P : Program} {N : FN}
theorem c_bytesCmp (hB : C_bcmp P N) (hf : isFn P N.bytes_Compare (ir_bytes_Compare N) = true) : C_bytesCmp P N := by
  intro v w hv hw
  have hB' := hB hv hw
  refine can_of hf rfl rfl ?_
  (repeat' (conv => whnf)<;>first|exact True.intro|(refine if_ ?_ ?_<;>intro h<;>first|exact h.elim|(exfalso; omega)|skip)|refine vs_ ?_|refine dv_ ?_|exact fin_|(show ∃ _, _ ∧ _; refine ex_ ?_ (by first|with_reducible exact rfl|exact hB'|exact rd_))|(show ∃ _ _, _ ∧ _; refine ex2_ ?_ (by first|with_reducible exact rfl|exact hB'|exact rd_)))
theorem sub_byt {v : Nat → Int} : ∀ (i : Nat) (r : List D), (bytL v)[i]? = some r → sub2 [vecL v] 0 (0 + (Int.toNat 0 + i) * 1) 1 = some r := fun i r h => by
  have hi : i < 6 := by
    have := (List.getElem?_eq_some_iff.1 h).1
    rwa [show (bytL v).length = 6 from arr_len ..] at this
  have e : (bytL v)[i]? = some [.int .u8 (v i)] := arr_get hi
  rw [e] at h
  simp only [Option.some.injEq] at h
  subst h
  match i, hi with
  | 0, _ => rfl
  | 1, _ => rfl
  | 2, _ => rfl
  | 3, _ => rfl
  | 4, _ => rfl
  | 5, _ => rfl
theorem c_prims2 (hB : C_bytesCmp P N) (hf : isFn P N.impl_Algebra_primitives_2 (ir_impl_Algebra_primitives_2 N) = true) : C_prims2 P N := by
  intro v w hv hw
  have hB' := hB hv hw
  refine can_of hf rfl rfl ?_
  conv => whnf
  refine ⟨⟨by decide, by decide, by decide⟩, bytL v, arr_len .., sub_byt, ?_⟩
  conv => whnf
  refine ⟨⟨by decide, by decide, by decide⟩, bytL w, arr_len .., sub_byt, ?_⟩
  (repeat' (conv => whnf)<;>first|exact True.intro|(refine if_ ?_ ?_<;>intro h<;>first|exact h.elim|(exfalso; omega)|skip)|refine vs_ ?_|refine dv_ ?_|exact fin_|(show ∃ _, _ ∧ _; refine ex_ ?_ (by first|with_reducible exact rfl|exact hB'|exact rd_))|(show ∃ _ _, _ ∧ _; refine ex2_ ?_ (by first|with_reducible exact rfl|exact hB'|exact rd_)))
theorem len_size : lenS.size = 256 := by decide +kernel
theorem len_get {x : Nat} (h : x ≤ 12) : lenS[x]? = some (lenU x) := by
  match x, h with
  | 0, _ => rfl
  | 1, _ => rfl
  | 2, _ => rfl
  | 3, _ => rfl
  | 4, _ => rfl
  | 5, _ => rfl
  | 6, _ => rfl
  | 7, _ => rfl
  | 8, _ => rfl
  | 9, _ => rfl
  | 10, _ => rfl
  | 11, _ => rfl
  | 12, _ => rfl
theorem len_bd {x : Nat} : ((lenU x).toNat : Int) ≤ 255 := by
  have := (lenU x).toNat_lt
  omega
theorem c_Len64 (hf : isFn P N.math_bits_Len64 (ir_math_bits_Len64 N) = true) : C_Len64 P N := by
  intro x hx
  have hb := len_bd (x := x)
  refine can_of hf rfl rfl ?_
  (repeat' (conv => whnf)<;>first|exact True.intro|(refine if_ ?_ ?_<;>intro h<;>first|exact h.elim|(exfalso; omega)|skip)|refine vs_ ?_|refine dv_ ?_|exact fin_|(show ∃ _, _ ∧ _; refine ex_ ?_)|(show ∃ _ _, _ ∧ _; refine ex2_ ?_))
  conv => whnf
  refine ⟨⟨by omega, ?_⟩, lenU x, ?_, ?_⟩
  · show (x : Int) < ((lenS.size : Nat) : Int)
    rw [len_size]; omega
  · show lenS[((x : Nat) : Int).toNat]? = some (lenU x)
    rw [Int.toNat_natCast]; exact len_get hx
  · unfold lenB
    (repeat' (conv => whnf)<;>first|exact True.intro|(refine if_ ?_ ?_<;>intro h<;>first|exact h.elim|(exfalso; omega)|skip)|refine vs_ ?_|refine dv_ ?_|exact fin_|(show ∃ _, _ ∧ _; refine ex_ ?_)|(show ∃ _ _, _ ∧ _; refine ex2_ ?_))
theorem c_Len (hL : C_Len64 P N) (hf : isFn P N.math_bits_Len (ir_math_bits_Len N) = true) : C_Len P N := by
  intro x hx
  have hL' := hL hx
  refine can_of hf rfl rfl ?_
  (repeat' (conv => whnf)<;>first|exact True.intro|(refine if_ ?_ ?_<;>intro h<;>first|exact h.elim|(exfalso; omega)|skip)|refine vs_ ?_|refine dv_ ?_|exact fin_|(show ∃ _, _ ∧ _; refine ex_ ?_ (by first|with_reducible exact rfl|exact hL'|exact rd_))|(show ∃ _ _, _ ∧ _; refine ex2_ ?_ (by first|with_reducible exact rfl|exact hL'|exact rd_)))
end Go.X
