import Derived.Test.YtckpoeaagbmlbaaGreatK6
set_option linter.all false
namespace Go.X
open Go Go.RowKit
set_option maxRecDepth 100000
set_option maxHeartbeats 8000000
variable {P : Program} {N : FN}
def atQ (ld : Nat → Nat) (q : Nat) : Row := fun j => match (List.range q).find? (fun i => ld i == j) with
  | some i => (i : Int) + 1
  | none => 0
def kvJ (p : Int) (K : List Row) (ld : Nat → Nat) (c j : Nat) : Row := fun k => if k = c then 1 else if k < j then kvQ p K ld c K.length k else 0
theorem at_0 {ld : Nat → Nat} {n : Nat} : Chunk.data 1 (List.replicate ((n : Nat) : Int).toNat [D.int .i64 0]) = Chunk.data 1 (row n (atQ ld 0)) := by
  rw [Int.toNat_natCast, arr_replicate]; rfl
theorem at_s {p : Int} {n : Nat} {K : List Row} {ld : Nat → Nat} {q : Nat} (h : RR p n K ld) (hq : q < K.length) : ∀ j, (if j = ld q then (q : Int) + 1 else atQ ld q j) = atQ ld (q + 1) j := fun j => by
  unfold atQ
  rw [List.range_succ, List.find?_append]
  by_cases e : j = ld q
  · subst e
    have hn : (List.range q).find? (fun i => ld i == ld q) = none := by
      refine List.find?_eq_none.2 fun i hi => ?_
      have := h.sort i q (List.mem_range.1 hi) hq
      simp; omega
    rw [if_pos rfl, hn]
    simp
  · have hn : ([q] : List Nat).find? (fun i => ld i == j) = none := by
      refine List.find?_eq_none.2 fun i hi => ?_
      rw [List.mem_singleton.1 hi]
      simp; omega
    rw [if_neg e, hn, Option.or_none]
theorem at_t {ld : Nat → Nat} {q c : Nat} (h : isLd ld q c = true) : 0 < atQ ld q c := by
  obtain ⟨i, hi, e⟩ := List.any_eq_true.1 h
  unfold atQ
  split
  · omega
  · rename_i hn
    exact absurd e (List.find?_eq_none.1 hn i hi)
theorem at_f {ld : Nat → Nat} {q c : Nat} (h : isLd ld q c = false) : atQ ld q c = 0 := by
  unfold atQ
  split
  · rename_i i hi
    exact absurd (by simpa using List.find?_some hi) (isLd_f h i (List.mem_range.1 (List.mem_of_find?_eq_some hi)))
  · rfl
theorem kvJ_init {p : Int} {n : Nat} {K : List Row} {ld : Nat → Nat} {c : Nat} : Chunk.data 1 ((List.replicate ((n : Nat) : Int).toNat [D.int .i64 0]).set ((c : Nat) : Int).toNat (([D.int .i64 0] : List D).set 0 (.int .i64 1))) = .data 1 (row n (kvJ p K ld c 0)) := by
  rw [Int.toNat_natCast, arr_replicate]
  exact row_set (f := fun _ => 0) fun j _ => by unfold kvJ; rw [if_neg (show ¬ j < 0 by omega)]
theorem kvJ_same {p : Int} {K : List Row} {ld : Nat → Nat} {c j : Nat} (h : j ≠ c → kvQ p K ld c K.length j = 0) : kvJ p K ld c (j + 1) = kvJ p K ld c j := funext fun k => by
  unfold kvJ
  by_cases e : k = c
  · rw [if_pos e, if_pos e]
  · rw [if_neg e, if_neg e]
    by_cases g : k = j
    · subst g; rw [if_pos (by omega), if_neg (by omega), h e]
    · by_cases g2 : k < j
      · rw [if_pos g2, if_pos (by omega)]
      · rw [if_neg g2, if_neg (by omega)]
theorem kvJ_s {p : Int} {K : List Row} {ld : Nat → Nat} {c j : Nat} {x : Int} (hc : j ≠ c) (h : kvQ p K ld c K.length j = x) : ∀ k, (if k = j then x else kvJ p K ld c j k) = kvJ p K ld c (j + 1) k := fun k => by
  unfold kvJ
  by_cases g : k = j
  · subst g; rw [if_pos rfl, if_neg hc, if_pos (by omega), h]
  · rw [if_neg g]
    by_cases e : k = c
    · rw [if_pos e, if_pos e]
    · rw [if_neg e, if_neg e]
      by_cases g2 : k < j
      · rw [if_pos g2, if_pos (by omega)]
      · rw [if_neg g2, if_neg (by omega)]
theorem kvJ_n {p : Int} {n : Nat} {K : List Row} {ld : Nat → Nat} {c : Nat} : row n (kvJ p K ld c n) = row n (kvQ p K ld c K.length) := row_ext fun k hk => by
  unfold kvJ
  by_cases e : k = c
  · rw [if_pos e]; unfold kvQ; rw [if_pos e]
  · rw [if_neg e, if_pos hk]
theorem c_sKernel (hR : C_sEchelon P N) (hL : C_sLead P N) (hE : C_sMod P N) (hf : isFn P N.spec_l01Kernel (ir_spec_l01Kernel N) = true) : C_sKernel P N := by
  intro n L p hn hLl hp hrw
  have hp2 := prime_bd hp
  have hR' := hR (m := n) (L := L) (by omega) hLl hp hrw
  obtain ⟨ld0, rr0⟩ := echF_rr (m := n) hp hrw
  unfold sKerF
  generalize echF p n L = K at *
  obtain ⟨rr, hld⟩ := ldK_rr rr0
  generalize ldK n K = ld at *
  have hKl : K.length ≤ n := rr.len_le
  have hl : (rowsL n K).length = K.length := rowsL_len ..
  have hfl := free_len (p := p) (K := K) (ld := ld) n
  have hR2 := hR (m := n) (L := freeL p K ld n) (by omega) (by omega) hp (free_rw hp2.1 n)
  refine can_of hf rfl rfl ?_
  (repeat' (conv => whnf)<;>first|exact True.intro|(refine if_ ?_ ?_<;>intro h<;>first|exact h.elim|(exfalso; omega)|skip)|refine vs_ ?_|refine dv_ ?_|exact fin_|(show ∃ _, _ ∧ _; refine ex_ ?_ (by first|with_reducible exact rfl|exact hR'|exact rd_))|(show ∃ _ _, _ ∧ _; refine ex2_ ?_ (by first|with_reducible exact rfl|exact hR'|exact rd_)))
  conv => whnf
  refine vc_loop (α := Nat) 0 (fun q => K.length - q) (fun q => q ≤ K.length) [] (fun q => [(7, .d (rowsD n K)), (8, .row 9 1), (9, .row 20 1), (10, .d (.int .i64 q))]) (fun q => [(20, .data 1 (row n (atQ ld q)))]) lp_ ?_ ?_
  · (repeat' (conv => whnf)<;>first|exact True.intro|(refine if_ ?_ ?_<;>intro h<;>first|exact h.elim|(exfalso; omega)|skip)|refine vs_ ?_ (by first|exact at_0|exact sd_)|refine dv_ ?_|exact fin_|(show ∃ _, _ ∧ _; refine ex_ ?_)|(show ∃ _ _, _ ∧ _; refine ex2_ ?_))
  · intro q hq
    by_cases hlt : q < K.length
    · have hL' : Can P N.spec_l01Lead [rowD n (K.getD q Z)] (.val (.int .i64 (ld q : Nat))) := by
        have := hL (m := n) (r := K.getD q Z) (by omega)
        rwa [(hld q hlt).1] at this
      have hld' := (hld q hlt).2
      (repeat' (conv => whnf)<;>first|exact True.intro|(refine if_ ?_ ?_<;>intro h<;>first|exact h.elim|(exfalso; omega)|skip)|refine vs_ ?_|refine dv_ ?_|exact fin_|(show ∃ _, _ ∧ _; refine ex_ ?_ (by first|with_reducible exact rfl|exact hL'|exact get_row hld'|exact rd_))|(show ∃ _ _, _ ∧ _; refine ex2_ ?_ (by first|with_reducible exact rfl|exact hL'|exact get_row hld'|exact rd_)))
      conv => whnf
      refine ⟨q + 1, by omega, by omega, ?_⟩
      (repeat' (conv => whnf)<;>first|exact True.intro|(refine if_ ?_ ?_<;>intro h<;>first|exact h.elim|(exfalso; omega)|skip)|refine vs_ ?_ (by first|exact row_set fun j hj => at_s rr hlt j|exact sd_)|refine dv_ ?_|exact fin_|(show ∃ _, _ ∧ _; refine ex_ ?_)|(show ∃ _ _, _ ∧ _; refine ex2_ ?_))
    · have : q = K.length := by omega
      subst this
      (repeat' (conv => whnf)<;>first|exact True.intro|(refine if_ ?_ ?_<;>intro h<;>first|exact h.elim|(exfalso; omega)|skip)|refine vs_ ?_|refine dv_ ?_|exact fin_|(show ∃ _, _ ∧ _; refine ex_ ?_)|(show ∃ _ _, _ ∧ _; refine ex2_ ?_))
      conv => whnf
      refine vc_loop (α := Nat) 0 (fun c => n - c) (fun c => c ≤ n) [] (fun c => [(7, .d (rowsD n K)), (8, .row 9 1), (9, .row 20 1), (11, .d (.int .i64 c))]) (fun c => [(9, .data 1 (rowsL n (freeL p K ld c)))]) lp_ ?_ ?_
      · (repeat' (conv => whnf)<;>first|exact True.intro|(refine if_ ?_ ?_<;>intro h<;>first|exact h.elim|(exfalso; omega)|skip)|refine vs_ ?_|refine dv_ ?_|exact fin_|(show ∃ _, _ ∧ _; refine ex_ ?_)|(show ∃ _ _, _ ∧ _; refine ex2_ ?_))
      · intro c hc
        by_cases hlt2 : c < n
        · cases b : isLd ld K.length c with
          | true =>
            have hb := at_t b
            (repeat' (conv => whnf)<;>first|exact True.intro|(refine if_ ?_ ?_<;>intro h<;>first|exact h.elim|(exfalso; omega)|skip)|refine vs_ ?_|refine dv_ ?_|exact fin_|(show ∃ _, _ ∧ _; refine ex_ ?_ (by first|with_reducible exact rfl|exact get_row hlt2|exact rd_))|(show ∃ _ _, _ ∧ _; refine ex2_ ?_ (by first|with_reducible exact rfl|exact get_row hlt2|exact rd_)))
            conv => whnf
            refine ⟨c + 1, by omega, by omega, ?_⟩
            rw [free_t b]
            (repeat' (conv => whnf)<;>first|exact True.intro|(refine if_ ?_ ?_<;>intro h<;>first|exact h.elim|(exfalso; omega)|skip)|refine vs_ ?_|refine dv_ ?_|exact fin_|(show ∃ _, _ ∧ _; refine ex_ ?_)|(show ∃ _ _, _ ∧ _; refine ex2_ ?_))
          | false =>
            have hb := at_f b
            have hne := isLd_f b
            have hrep : (List.replicate ((n : Nat) : Int).toNat [D.int .i64 0])[((c : Nat) : Int).toNat]? = some [.int .i64 0] := by
              rw [Int.toNat_natCast, Int.toNat_natCast, List.getElem?_replicate]
              exact if_pos hlt2
            (repeat' (conv => whnf)<;>first|exact True.intro|(refine if_ ?_ ?_<;>intro h<;>first|exact h.elim|(exfalso; omega)|skip)|refine vs_ ?_|refine dv_ ?_|exact fin_|(show ∃ _, _ ∧ _; refine ex_ ?_ (by first|with_reducible exact rfl|exact get_row hlt2|exact hrep|exact rd_))|(show ∃ _ _, _ ∧ _; refine ex2_ ?_ (by first|with_reducible exact rfl|exact get_row hlt2|exact hrep|exact rd_)))
            conv => whnf
            refine vc_loop (α := Nat) 0 (fun j => n - j) (fun j => j ≤ n) [] (fun j => [(7, .d (rowsD n K)), (8, .row 9 1), (9, .row 20 1), (11, .d (.int .i64 c)), (12, .row 47 1), (13, .d (.int .i64 j))]) (fun j => [(47, .data 1 (row n (kvJ p K ld c j)))]) lp_ ?_ ?_
            · (repeat' (conv => whnf)<;>first|exact True.intro|(refine if_ ?_ ?_<;>intro h<;>first|exact h.elim|(exfalso; omega)|skip)|refine vs_ ?_ (by first|exact kvJ_init|exact sd_)|refine dv_ ?_|exact fin_|(show ∃ _, _ ∧ _; refine ex_ ?_)|(show ∃ _ _, _ ∧ _; refine ex2_ ?_))
            · intro j hj
              by_cases hlt3 : j < n
              · cases f : (List.range K.length).find? (fun i => ld i == j) with
                | some i =>
                  have hi := List.mem_range.1 (List.mem_of_find?_eq_some f)
                  have hij : ld i = j := by simpa using List.find?_some f
                  have hjc : j ≠ c := fun e => hne i hi (hij.trans e)
                  have ha : atQ ld K.length j = (i : Int) + 1 := by unfold atQ; rw [f]
                  have hx : kvQ p K ld c K.length j = -(K.getD i Z c) % p := by unfold kvQ; rw [if_neg hjc, f]
                  have hbd := rr.rw _ (getD_mem hi) c
                  have hg : (row n (atQ ld K.length))[((j : Nat) : Int).toNat]? = some [.int .i64 ((i : Int) + 1)] := by rw [← ha]; exact get_row hlt3
                  have hg2 : get2 (row n (atQ ld K.length)) ((j : Nat) : Int).toNat 0 = some (.int .i64 ((i : Int) + 1)) := by rw [get2, hg]; rfl
                  have hrow : get2 (rowsL n K) ((i : Int) + 1 - 1).toNat 0 = some (rowD n (K.getD i Z)) := by rw [Int.add_sub_cancel]; exact rd_rows hi
                  have hE' : Can P N.spec_l01Mod [.int .i64 p, .int .i64 (0 - K.getD i Z c)] (.val (.int .i64 (-(K.getD i Z c) % p))) := by
                    rw [Int.zero_sub]
                    exact hE (by omega) (by omega)
                  (repeat' (conv => whnf)<;>first|exact True.intro|(refine if_ ?_ ?_<;>intro h<;>first|exact h.elim|(exfalso; omega)|skip)|refine vs_ ?_|refine dv_ ?_|exact fin_|(show ∃ _, _ ∧ _; refine ex_ ?_ (by first|with_reducible exact rfl|exact hg2|exact hrow|exact hE'|exact get_row hlt3|exact rd_))|(show ∃ _ _, _ ∧ _; refine ex2_ ?_ (by first|with_reducible exact rfl|exact hg2|exact hrow|exact hE'|exact get_row hlt3|exact rd_)))
                  conv => whnf
                  refine ⟨j + 1, by omega, by omega, ?_⟩
                  (repeat' (conv => whnf)<;>first|exact True.intro|(refine if_ ?_ ?_<;>intro h<;>first|exact h.elim|(exfalso; omega)|skip)|refine vs_ ?_ (by first|exact row_set fun k _ => kvJ_s hjc hx k|exact sd_)|refine dv_ ?_|exact fin_|(show ∃ _, _ ∧ _; refine ex_ ?_)|(show ∃ _ _, _ ∧ _; refine ex2_ ?_))
                | none =>
                  have ha : atQ ld K.length j = 0 := by unfold atQ; rw [f]
                  (repeat' (conv => whnf)<;>first|exact True.intro|(refine if_ ?_ ?_<;>intro h<;>first|exact h.elim|(exfalso; omega)|skip)|refine vs_ ?_|refine dv_ ?_|exact fin_|(show ∃ _, _ ∧ _; refine ex_ ?_ (by first|with_reducible exact rfl|exact get_row hlt3|exact rd_))|(show ∃ _ _, _ ∧ _; refine ex2_ ?_ (by first|with_reducible exact rfl|exact get_row hlt3|exact rd_)))
                  conv => whnf
                  refine ⟨j + 1, by omega, by omega, ?_⟩
                  rw [kvJ_same fun e => by unfold kvQ; rw [if_neg e, f]]
                  (repeat' (conv => whnf)<;>first|exact True.intro|(refine if_ ?_ ?_<;>intro h<;>first|exact h.elim|(exfalso; omega)|skip)|refine vs_ ?_|refine dv_ ?_|exact fin_|(show ∃ _, _ ∧ _; refine ex_ ?_)|(show ∃ _ _, _ ∧ _; refine ex2_ ?_))
              · have : j = n := by omega
                subst this
                have hfc := free_len (p := p) (K := K) (ld := ld) c
                rw [kvJ_n]
                (repeat' (conv => whnf)<;>first|exact True.intro|(refine if_ ?_ ?_<;>intro h<;>first|exact h.elim|(exfalso; omega)|skip)|refine vs_ ?_ (by first|exact ⟨by (simp only [List.length_cons, List.length_nil, rowsL_len, maxRow]; omega), by decide, by decide⟩|exact sd_)|refine dv_ ?_|exact fin_|(show ∃ _, _ ∧ _; refine ex_ ?_)|(show ∃ _ _, _ ∧ _; refine ex2_ ?_))
                conv => whnf
                refine ⟨c + 1, by omega, by omega, ?_⟩
                rw [free_f b]
                (repeat' (conv => whnf)<;>first|exact True.intro|(refine if_ ?_ ?_<;>intro h<;>first|exact h.elim|(exfalso; omega)|skip)|refine vs_ ?_ (by first|exact rowsL_app|exact sd_)|refine dv_ ?_|exact fin_|(show ∃ _, _ ∧ _; refine ex_ ?_)|(show ∃ _ _, _ ∧ _; refine ex2_ ?_))
        · have : c = n := by omega
          subst this
          (repeat' (conv => whnf)<;>first|exact True.intro|(refine if_ ?_ ?_<;>intro h<;>first|exact h.elim|(exfalso; omega)|skip)|refine vs_ ?_|refine dv_ ?_|exact fin_|(show ∃ _, _ ∧ _; refine ex_ ?_ (by first|with_reducible exact rfl|exact hR2|exact rd_))|(show ∃ _ _, _ ∧ _; refine ex2_ ?_ (by first|with_reducible exact rfl|exact hR2|exact rd_)))
end Go.X
namespace Go.X
open Go Go.RowKit
set_option maxRecDepth 100000
set_option maxHeartbeats 8000000
variable {P : Program} {N : FN}
theorem vecR_st {m j : Nat} {r : Row} (hj : j < m) (hm : m ≤ 6) : Chunk.data 6 ([vecL (vecR j r)].set 0 ((vecL (vecR j r)).set (0 + ((j : Nat) : Int).toNat * 1) (.int .u8 (r j)))) = Chunk.data 6 [vecL (vecR (j + 1) r)] := by
  rw [Int.toNat_natCast, Nat.zero_add, Nat.mul_one, List.set_cons_zero, cel_set]
  refine congrArg (fun x => Chunk.data 6 [x]) (cel_ext fun i _ => ?_)
  unfold upd vecR
  by_cases e : i = j
  · subst e; rw [if_pos rfl, if_pos (by omega)]
  · rw [if_neg e]
    by_cases g : i < j
    · rw [if_pos g, if_pos (by omega)]
    · rw [if_neg g, if_neg (by omega)]
theorem vecs_takeT {m : Nat} {L : List Row} {q : Nat} (h : q < L.length) : ((L.take q).map fun r => vecL (vecR m r)) ++ [vecL (vecR m (L.getD q Z))] = (L.take (q + 1)).map fun r => vecL (vecR m r) := by
  have e1 : L.take (q + 1) = L.take q ++ [L.getD q Z] := by rw [List.take_add_one]; simp [h]
  rw [e1, List.map_append]; rfl
theorem c_sVectors (hf : isFn P N.spec_l01Vectors (ir_spec_l01Vectors N) = true) : C_sVectors P N := by
  intro m L hm hL hb
  have hl : (rowsL m L).length = L.length := rowsL_len ..
  refine can_of hf rfl rfl ?_
  (repeat' (conv => whnf)<;>first|exact True.intro|(refine if_ ?_ ?_<;>intro h<;>first|exact h.elim|(exfalso; omega)|skip)|refine vs_ ?_|refine dv_ ?_|exact fin_|(show ∃ _, _ ∧ _; refine ex_ ?_)|(show ∃ _ _, _ ∧ _; refine ex2_ ?_))
  conv => whnf
  refine vc_loop (α := Nat) 0 (fun q => L.length - q) (fun q => q ≤ L.length) [] (fun q => [(3, .row 4 6), (4, .d (.int .i64 q))]) (fun q => [(4, .data 6 ((L.take q).map fun r => vecL (vecR m r)))]) lp_ ?_ ?_
  · (repeat' (conv => whnf)<;>first|exact True.intro|(refine if_ ?_ ?_<;>intro h<;>first|exact h.elim|(exfalso; omega)|skip)|refine vs_ ?_|refine dv_ ?_|exact fin_|(show ∃ _, _ ∧ _; refine ex_ ?_)|(show ∃ _ _, _ ∧ _; refine ex2_ ?_))
  · intro q hq
    have hml : ((L.take q).map fun r => vecL (vecR m r)).length = q := by rw [List.length_map, List.length_take]; omega
    by_cases hlt : q < L.length
    · (repeat' (conv => whnf)<;>first|exact True.intro|(refine if_ ?_ ?_<;>intro h<;>first|exact h.elim|(exfalso; omega)|skip)|refine vs_ ?_|refine dv_ ?_|exact fin_|(show ∃ _, _ ∧ _; refine ex_ ?_)|(show ∃ _ _, _ ∧ _; refine ex2_ ?_))
      conv => whnf
      refine vc_loop (α := Nat) 0 (fun j => m - j) (fun j => j ≤ m) [] (fun j => [(5, .ptr 6 6 0 0), (6, .d (.int .i64 j))]) (fun j => [(6, .data 6 [vecL (vecR j (L.getD q Z))])]) lp_ ?_ ?_
      · (repeat' (conv => whnf)<;>first|exact True.intro|(refine if_ ?_ ?_<;>intro h<;>first|exact h.elim|(exfalso; omega)|skip)|refine vs_ ?_ (by first|exact zeros6 (fun i _ => by unfold vecR; rw [if_neg (by omega)])|exact sd_)|refine dv_ ?_|exact fin_|(show ∃ _, _ ∧ _; refine ex_ ?_)|(show ∃ _ _, _ ∧ _; refine ex2_ ?_))
      · intro j hj
        have hbj := hb _ (getD_mem hlt) j
        by_cases hlt2 : j < m
        · (repeat' (conv => whnf)<;>first|exact True.intro|(refine if_ ?_ ?_<;>intro h<;>first|exact h.elim|(exfalso; omega)|skip)|refine vs_ ?_|refine dv_ ?_|exact fin_|(show ∃ _, _ ∧ _; refine ex_ ?_)|(show ∃ _ _, _ ∧ _; refine ex2_ ?_))
          conv => whnf
          refine ⟨j + 1, by omega, by omega, ?_⟩
          (repeat' (conv => whnf)<;>first|exact True.intro|(refine if_ ?_ ?_<;>intro h<;>first|exact h.elim|(exfalso; omega)|skip)|refine vs_ ?_ (by first|exact vecR_st hlt2 hm|exact sd_)|refine dv_ ?_|exact fin_|(show ∃ _, _ ∧ _; refine ex_ ?_)|(show ∃ _ _, _ ∧ _; refine ex2_ ?_))
        · have : j = m := by omega
          subst this
          (repeat' (conv => whnf)<;>first|exact True.intro|(refine if_ ?_ ?_<;>intro h<;>first|exact h.elim|(exfalso; omega)|skip)|refine vs_ ?_ (by first|exact ⟨by (simp only [List.length_cons, List.length_nil, hml, maxRow]; omega), by decide, by decide⟩|exact sd_)|refine dv_ ?_|exact fin_|(show ∃ _, _ ∧ _; refine ex_ ?_)|(show ∃ _ _, _ ∧ _; refine ex2_ ?_))
          conv => whnf
          refine ⟨q + 1, by omega, by omega, ?_⟩
          rw [← vecs_takeT hlt]
          (repeat' (conv => whnf)<;>first|exact True.intro|(refine if_ ?_ ?_<;>intro h<;>first|exact h.elim|(exfalso; omega)|skip)|refine vs_ ?_|refine dv_ ?_|exact fin_|(show ∃ _, _ ∧ _; refine ex_ ?_)|(show ∃ _ _, _ ∧ _; refine ex2_ ?_))
    · have : q = L.length := by omega
      rw [this, List.take_length]
      (repeat' (conv => whnf)<;>first|exact True.intro|(refine if_ ?_ ?_<;>intro h<;>first|exact h.elim|(exfalso; omega)|skip)|refine vs_ ?_|refine dv_ ?_|exact fin_|(show ∃ _, _ ∧ _; refine ex_ ?_)|(show ∃ _ _, _ ∧ _; refine ex2_ ?_))
end Go.X
namespace Go.X
open Go Go.RowKit
set_option maxRecDepth 100000
set_option maxHeartbeats 8000000
variable {P : Program} {N : FN}
theorem c_IndexI (hf : isFn P N.slices_Index_Lint_int (ir_slices_Index_Lint_int N) = true) : C_IndexI P N := by
  intro m f x hm
  refine can_of hf rfl rfl ?_
  (repeat' (conv => whnf)<;>first|exact True.intro|(refine if_ ?_ ?_<;>intro h<;>first|exact h.elim|(exfalso; omega)|skip)|refine vs_ ?_|refine dv_ ?_|exact fin_|(show ∃ _, _ ∧ _; refine ex_ ?_)|(show ∃ _ _, _ ∧ _; refine ex2_ ?_))
  conv => whnf
  refine vc_loop (α := Nat) 0 (fun i => m - i) (fun i => i ≤ m ∧ ∀ j, j < i → f j ≠ x) [] (fun i => [(7, .d (.int .i64 m)), (8, .d (.int .i64 i))]) (fun i => []) lp_ ?_ ?_
  · (repeat' (conv => whnf)<;>first|exact True.intro|(refine if_ ?_ ?_<;>intro h<;>first|exact h.elim|(exfalso; omega)|skip)|refine vs_ ?_|refine dv_ ?_|exact fin_|(show ∃ _, _ ∧ _; refine ex_ ?_)|(show ∃ _ _, _ ∧ _; refine ex2_ ?_))
  · rintro i ⟨hi, hx⟩
    (repeat' (conv => whnf)<;>first|exact True.intro|(refine if_ ?_ ?_<;>intro h<;>first|exact h.elim|(exfalso; omega)|skip)|refine vs_ ?_|refine dv_ ?_|exact fin_|(show ∃ _, _ ∧ _; refine ex_ ?_)|(show ∃ _ _, _ ∧ _; refine ex2_ ?_))
    · conv => whnf
      exact congrArg (D.int .i64) (idxF_some (by omega) (by simp [*]) (fun j hj => by simp [hx j hj])).symm
    · conv => whnf
      refine ⟨i + 1, ⟨by omega, fun j hj => ?_⟩, by omega, ?_⟩
      · rcases Nat.lt_or_ge j i with h1 | h1
        · exact hx j h1
        · have : j = i := by omega
          subst this; exact fun e => absurd e.symm ‹_›
      · (repeat' (conv => whnf)<;>first|exact True.intro|(refine if_ ?_ ?_<;>intro h<;>first|exact h.elim|(exfalso; omega)|skip)|refine vs_ ?_|refine dv_ ?_|exact fin_|(show ∃ _, _ ∧ _; refine ex_ ?_)|(show ∃ _ _, _ ∧ _; refine ex2_ ?_))
    · conv => whnf
      exact congrArg (D.int .i64) (idxF_none (fun j hj => by simp [hx j (by omega)])).symm
theorem c_ContainsI (h1 : C_IndexI P N) (hf : isFn P N.slices_Contains_Lint_int (ir_slices_Contains_Lint_int N) = true) : C_ContainsI P N := by
  intro m f x hm
  refine can_of hf rfl rfl ?_
  (repeat' (conv => whnf)<;>first|exact True.intro|(refine if_ ?_ ?_<;>intro h<;>first|exact h.elim|(exfalso; omega)|skip)|refine vs_ ?_|refine dv_ ?_|exact fin_|(show ∃ _, _ ∧ _; refine ex_ ?_ (by first|with_reducible exact rfl|exact h1 (by omega)|exact rd_))|(show ∃ _ _, _ ∧ _; refine ex2_ ?_ (by first|with_reducible exact rfl|exact h1 (by omega)|exact rd_)))
theorem vecs_takeS {m : Nat} {L : List Row} {q : Nat} (h : q < L.length) : ((L.take q).map fun r => vecL (vecR m r)) ++ [vecL (vecR m (L.getD q Z))] = (L.take (q + 1)).map fun r => vecL (vecR m r) := by
  have e1 : L.take (q + 1) = L.take q ++ [L.getD q Z] := by rw [List.take_add_one]; simp [h]
  rw [e1, List.map_append]; rfl
theorem c_vectors (hV : C_vector P N) (hf : isFn P N.impl_vectors (ir_impl_vectors N) = true) : C_vectors P N := by
  intro m L hm hL hb
  have hl : (rowsL m L).length = L.length := rowsL_len ..
  refine can_of hf rfl rfl ?_
  (repeat' (conv => whnf)<;>first|exact True.intro|(refine if_ ?_ ?_<;>intro h<;>first|exact h.elim|(exfalso; omega)|skip)|refine vs_ ?_|refine dv_ ?_|exact fin_|(show ∃ _, _ ∧ _; refine ex_ ?_)|(show ∃ _ _, _ ∧ _; refine ex2_ ?_))
  conv => whnf
  refine vc_loop (α := Nat) 0 (fun q => L.length - q) (fun q => q ≤ L.length) [] (fun q => [(3, .row 4 6), (7, .d (rowsD m L)), (8, .d (.int .i64 L.length)), (9, .d (.int .i64 q))]) (fun q => [(4, .data 6 ((L.take q).map fun r => vecL (vecR m r)))]) lp_ ?_ ?_
  · rw [hl]
    (repeat' (conv => whnf)<;>first|exact True.intro|(refine if_ ?_ ?_<;>intro h<;>first|exact h.elim|(exfalso; omega)|skip)|refine vs_ ?_|refine dv_ ?_|exact fin_|(show ∃ _, _ ∧ _; refine ex_ ?_)|(show ∃ _ _, _ ∧ _; refine ex2_ ?_))
  · intro q hq
    have hml : ((L.take q).map fun r => vecL (vecR m r)).length = q := by rw [List.length_map, List.length_take]; omega
    by_cases hlt : q < L.length
    · have hV' := hV (m := m) (r := L.getD q Z) hm (hb _ (getD_mem hlt))
      (repeat' (conv => whnf)<;>first|exact True.intro|(refine if_ ?_ ?_<;>intro h<;>first|exact h.elim|(exfalso; omega)|skip)|refine vs_ ?_ (by first|exact ⟨by (simp only [List.length_cons, List.length_nil, hml, maxRow]; omega), by decide, by decide⟩|exact sd_)|refine dv_ ?_|exact fin_|(show ∃ _, _ ∧ _; refine ex_ ?_ (by first|with_reducible exact rfl|exact hV'|exact rd_))|(show ∃ _ _, _ ∧ _; refine ex2_ ?_ (by first|with_reducible exact rfl|exact hV'|exact rd_)))
      conv => whnf
      refine ⟨q + 1, by omega, by omega, ?_⟩
      rw [← vecs_takeS hlt]
      (repeat' (conv => whnf)<;>first|exact True.intro|(refine if_ ?_ ?_<;>intro h<;>first|exact h.elim|(exfalso; omega)|skip)|refine vs_ ?_|refine dv_ ?_|exact fin_|(show ∃ _, _ ∧ _; refine ex_ ?_)|(show ∃ _ _, _ ∧ _; refine ex2_ ?_))
    · have : q = L.length := by omega
      rw [this, List.take_length]
      (repeat' (conv => whnf)<;>first|exact True.intro|(refine if_ ?_ ?_<;>intro h<;>first|exact h.elim|(exfalso; omega)|skip)|refine vs_ ?_|refine dv_ ?_|exact fin_|(show ∃ _, _ ∧ _; refine ex_ ?_)|(show ∃ _ _, _ ∧ _; refine ex2_ ?_))
end Go.X
namespace Go.X
open Go Go.RowKit
set_option maxRecDepth 100000
set_option maxHeartbeats 8000000
variable {P : Program} {N : FN}
theorem isLd_idx {ld : Nat → Nat} {q c : Nat} : decide (0 ≤ idxF (fun i => ((ld i : Nat) : Int) == (c : Int)) q) = isLd ld q c := by
  rw [Bool.eq_iff_iff, decide_eq_true_eq]
  unfold isLd
  rw [List.any_eq_true]
  rcases idxF_cases (fun i => ((ld i : Nat) : Int) == (c : Int)) q with ⟨e, h⟩ | ⟨i, hi, e, h, _⟩
  · rw [e]
    refine ⟨fun x => absurd x (by decide), ?_⟩
    rintro ⟨i, hi, e2⟩
    have := h i (List.mem_range.1 hi)
    simp at this e2
    omega
  · rw [e]
    exact ⟨fun _ => ⟨i, List.mem_range.2 hi, by simp at h ⊢; omega⟩, fun _ => by omega⟩
theorem kv_init {p : Int} {n : Nat} {K : List Row} {ld : Nat → Nat} {c : Nat} (hc : c < n) : Chunk.data 1 ((List.replicate ((n : Nat) : Int).toNat [D.int .i64 0]).set ((c : Nat) : Int).toNat (([D.int .i64 0] : List D).set 0 (.int .i64 1))) = .data 1 (row n (kvQ p K ld c 0)) := by
  rw [Int.toNat_natCast, arr_replicate]
  exact row_set (f := fun _ => 0) fun j _ => kvQ_z.symm
theorem c_kernel (hR : C_reduce P N) (hL : C_leader P N) (hC : C_ContainsI P N) (hE : C_rest P N) (hf : isFn P N.impl_kernel (ir_impl_kernel N) = true) : C_kernel P N := by
  intro n L p hn hLl hp hrw
  have hp2 := prime_bd hp
  have hR' := hR (m := n) (L := L) (by omega) hLl hp hrw
  obtain ⟨ld0, rr0⟩ := redF_rr (m := n) hp hrw
  unfold iKerF
  generalize redF p n L = K at *
  obtain ⟨rr, hld⟩ := ldK_rr rr0
  generalize ldK n K = ld at *
  have hKl : K.length ≤ n := rr.len_le
  have hrep : ∀ c : Nat, c < n → (List.replicate ((n : Nat) : Int).toNat [D.int .i64 0])[((c : Nat) : Int).toNat]? = some [.int .i64 0] := fun c hc => by
    rw [Int.toNat_natCast, Int.toNat_natCast, List.getElem?_replicate]
    exact if_pos hc
  have hl : (rowsL n K).length = K.length := rowsL_len ..
  have hfl := free_len (p := p) (K := K) (ld := ld) n
  have hR2 := hR (m := n) (L := freeL p K ld n) (by omega) (by omega) hp (free_rw hp2.1 n)
  refine can_of hf rfl rfl ?_
  (repeat' (conv => whnf)<;>first|exact True.intro|(refine if_ ?_ ?_<;>intro h<;>first|exact h.elim|(exfalso; omega)|skip)|refine vs_ ?_|refine dv_ ?_|exact fin_|(show ∃ _, _ ∧ _; refine ex_ ?_ (by first|with_reducible exact rfl|exact hR'|exact rd_))|(show ∃ _ _, _ ∧ _; refine ex2_ ?_ (by first|with_reducible exact rfl|exact hR'|exact rd_)))
  conv => whnf
  refine vc_loop (α := Nat) 0 (fun q => K.length - q) (fun q => q ≤ K.length) [] (fun q => [(8, .row 9 1), (9, .row 10 1), (21, .d (rowsD n K)), (22, .d (.int .i64 K.length)), (23, .d (.int .i64 q))]) (fun q => [(10, .data 1 (row q fun i => (ld i : Nat)))]) lp_ ?_ ?_
  · rw [hl]
    (repeat' (conv => whnf)<;>first|exact True.intro|(refine if_ ?_ ?_<;>intro h<;>first|exact h.elim|(exfalso; omega)|skip)|refine vs_ ?_|refine dv_ ?_|exact fin_|(show ∃ _, _ ∧ _; refine ex_ ?_)|(show ∃ _ _, _ ∧ _; refine ex2_ ?_))
  · intro q hq
    by_cases hlt : q < K.length
    · have hL' : Can P N.impl_leader [rowD n (K.getD q Z)] (.val (.int .i64 (ld q : Nat))) := by
        have := hL (m := n) (r := K.getD q Z) (by omega)
        rwa [(hld q hlt).1] at this
      (repeat' (conv => whnf)<;>first|exact True.intro|(refine if_ ?_ ?_<;>intro h<;>first|exact h.elim|(exfalso; omega)|skip)|refine vs_ ?_|refine dv_ ?_|exact fin_|(show ∃ _, _ ∧ _; refine ex_ ?_ (by first|with_reducible exact rfl|exact hL'|exact rd_))|(show ∃ _ _, _ ∧ _; refine ex2_ ?_ (by first|with_reducible exact rfl|exact hL'|exact rd_)))
      conv => whnf
      refine ⟨q + 1, by omega, by omega, ?_⟩
      (repeat' (conv => whnf)<;>first|exact True.intro|(refine if_ ?_ ?_<;>intro h<;>first|exact h.elim|(exfalso; omega)|skip)|refine vs_ ?_ (by first|exact row_app rfl|exact sd_)|refine dv_ ?_|exact fin_|(show ∃ _, _ ∧ _; refine ex_ ?_)|(show ∃ _ _, _ ∧ _; refine ex2_ ?_))
    · have : q = K.length := by omega
      subst this
      (repeat' (conv => whnf)<;>first|exact True.intro|(refine if_ ?_ ?_<;>intro h<;>first|exact h.elim|(exfalso; omega)|skip)|refine vs_ ?_|refine dv_ ?_|exact fin_|(show ∃ _, _ ∧ _; refine ex_ ?_)|(show ∃ _ _, _ ∧ _; refine ex2_ ?_))
      conv => whnf
      refine vc_loop (α := Nat) 0 (fun c => n - c) (fun c => c ≤ n) [] (fun c => [(7, .d (rowsD n K)), (8, .row 9 1), (9, .row 10 1), (33, .d (.int .i64 n)), (34, .d (.int .i64 c))]) (fun c => [(9, .data 1 (rowsL n (freeL p K ld c)))]) lp_ ?_ ?_
      · (repeat' (conv => whnf)<;>first|exact True.intro|(refine if_ ?_ ?_<;>intro h<;>first|exact h.elim|(exfalso; omega)|skip)|refine vs_ ?_|refine dv_ ?_|exact fin_|(show ∃ _, _ ∧ _; refine ex_ ?_)|(show ∃ _ _, _ ∧ _; refine ex2_ ?_))
      · intro c hc
        by_cases hlt2 : c < n
        · have hC' := hC (m := K.length) (f := fun i => (ld i : Nat)) (x := c) (by omega)
          rw [isLd_idx] at hC'
          cases b : isLd ld K.length c with
          | true =>
            rw [b] at hC'
            (repeat' (conv => whnf)<;>first|exact True.intro|(refine if_ ?_ ?_<;>intro h<;>first|exact h.elim|(exfalso; omega)|skip)|refine vs_ ?_|refine dv_ ?_|exact fin_|(show ∃ _, _ ∧ _; refine ex_ ?_ (by first|with_reducible exact rfl|exact hC'|exact rd_))|(show ∃ _ _, _ ∧ _; refine ex2_ ?_ (by first|with_reducible exact rfl|exact hC'|exact rd_)))
            conv => whnf
            refine ⟨c + 1, by omega, by omega, ?_⟩
            rw [free_t b]
            (repeat' (conv => whnf)<;>first|exact True.intro|(refine if_ ?_ ?_<;>intro h<;>first|exact h.elim|(exfalso; omega)|skip)|refine vs_ ?_|refine dv_ ?_|exact fin_|(show ∃ _, _ ∧ _; refine ex_ ?_)|(show ∃ _ _, _ ∧ _; refine ex2_ ?_))
          | false =>
            rw [b] at hC'
            have hne := isLd_f b
            (repeat' (conv => whnf)<;>first|exact True.intro|(refine if_ ?_ ?_<;>intro h<;>first|exact h.elim|(exfalso; omega)|skip)|refine vs_ ?_|refine dv_ ?_|exact fin_|(show ∃ _, _ ∧ _; refine ex_ ?_ (by first|with_reducible exact rfl|exact hC'|exact hrep c hlt2|exact rd_))|(show ∃ _ _, _ ∧ _; refine ex2_ ?_ (by first|with_reducible exact rfl|exact hC'|exact hrep c hlt2|exact rd_)))
            conv => whnf
            refine vc_loop (α := Nat) 0 (fun i => K.length - i) (fun i => i ≤ K.length) [] (fun i => [(7, .d (rowsD n K)), (8, .row 9 1), (9, .row 10 1), (12, .d (.int .i64 c)), (13, .row 42 1), (45, .row 10 1), (46, .d (.int .i64 K.length)), (47, .d (.int .i64 i))]) (fun i => [(42, .data 1 (row n (kvQ p K ld c i)))]) lp_ ?_ ?_
            · (repeat' (conv => whnf)<;>first|exact True.intro|(refine if_ ?_ ?_<;>intro h<;>first|exact h.elim|(exfalso; omega)|skip)|refine vs_ ?_ (by first|exact kv_init hlt2|exact sd_)|refine dv_ ?_|exact fin_|(show ∃ _, _ ∧ _; refine ex_ ?_)|(show ∃ _ _, _ ∧ _; refine ex2_ ?_))
            · intro i hi
              have hi0 : (row K.length fun i => ((ld i : Nat) : Int)).length = K.length := row_len ..
              by_cases hlt3 : i < K.length
              · have hbd := rr.rw _ (getD_mem hlt3) c
                have hld' := (hld i hlt3).2
                have hE' : Can P N.impl_rest [.int .i64 (0 - K.getD i Z c), .int .i64 p] (.val (.int .i64 (-(K.getD i Z c) % p))) := by
                  rw [Int.zero_sub]
                  exact hE (by omega) (by omega)
                (repeat' (conv => whnf)<;>first|exact True.intro|(refine if_ ?_ ?_<;>intro h<;>first|exact h.elim|(exfalso; omega)|skip)|refine vs_ ?_|refine dv_ ?_|exact fin_|(show ∃ _, _ ∧ _; refine ex_ ?_ (by first|with_reducible exact rfl|exact hE'|exact get_row hld'|exact rd_))|(show ∃ _ _, _ ∧ _; refine ex2_ ?_ (by first|with_reducible exact rfl|exact hE'|exact get_row hld'|exact rd_)))
                conv => whnf
                refine ⟨i + 1, by omega, by omega, ?_⟩
                (repeat' (conv => whnf)<;>first|exact True.intro|(refine if_ ?_ ?_<;>intro h<;>first|exact h.elim|(exfalso; omega)|skip)|refine vs_ ?_ (by first|exact row_set fun j hj => kvQ_s (n := n) rr hlt3 (hne i hlt3) j|exact sd_)|refine dv_ ?_|exact fin_|(show ∃ _, _ ∧ _; refine ex_ ?_)|(show ∃ _ _, _ ∧ _; refine ex2_ ?_))
              · have : i = K.length := by omega
                subst this
                have hfc := free_len (p := p) (K := K) (ld := ld) c
                (repeat' (conv => whnf)<;>first|exact True.intro|(refine if_ ?_ ?_<;>intro h<;>first|exact h.elim|(exfalso; omega)|skip)|refine vs_ ?_ (by first|exact ⟨by (simp only [List.length_cons, List.length_nil, rowsL_len, maxRow]; omega), by decide, by decide⟩|exact sd_)|refine dv_ ?_|exact fin_|(show ∃ _, _ ∧ _; refine ex_ ?_)|(show ∃ _ _, _ ∧ _; refine ex2_ ?_))
                conv => whnf
                refine ⟨c + 1, by omega, by omega, ?_⟩
                rw [free_f b]
                (repeat' (conv => whnf)<;>first|exact True.intro|(refine if_ ?_ ?_<;>intro h<;>first|exact h.elim|(exfalso; omega)|skip)|refine vs_ ?_ (by first|exact rowsL_app|exact sd_)|refine dv_ ?_|exact fin_|(show ∃ _, _ ∧ _; refine ex_ ?_)|(show ∃ _ _, _ ∧ _; refine ex2_ ?_))
        · have : c = n := by omega
          subst this
          (repeat' (conv => whnf)<;>first|exact True.intro|(refine if_ ?_ ?_<;>intro h<;>first|exact h.elim|(exfalso; omega)|skip)|refine vs_ ?_|refine dv_ ?_|exact fin_|(show ∃ _, _ ∧ _; refine ex_ ?_ (by first|with_reducible exact rfl|exact hR2|exact rd_))|(show ∃ _ _, _ ∧ _; refine ex2_ ?_ (by first|with_reducible exact rfl|exact hR2|exact rd_)))
end Go.X
