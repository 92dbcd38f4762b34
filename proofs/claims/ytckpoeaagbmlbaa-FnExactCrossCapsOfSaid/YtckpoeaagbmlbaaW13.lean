import Derived.Test.YtckpoeaagbmlbaaK9
import Derived.Test.YtckpoeaagbmlbaaW7
import Derived.Test.YtckpoeaagbmlbaaW8
set_option linter.all false
namespace Go.X
open Go Go.RowKit
set_option maxRecDepth 100000
set_option maxHeartbeats 8000000
variable {P : Program} {N : FN}
theorem c_toVSO (hV : C_id P N.laws_toVector 6) (hf : isFn P N.laws_toVectorS (ir_laws_toVectorS N) = true) : C_toVSO P N := by
  intro m s hm
  have hl : (arr m fun i => vecL (s i)).length = m := arr_len ..
  have hV' : ∀ i, Can P N.laws_toVector [vecD (s i)] (.val (vecD (s i))) := fun i => hV
  refine can_of hf rfl rfl ?_
  (repeat' (conv => whnf) <;> first | exact True.intro | (refine if_ ?_ ?_ <;> intro h <;> first | exact h.elim | (exfalso; omega) | skip) | refine vs_ ?_ | refine dv_ ?_ | exact fin_ | (show ∃ _, _ ∧ _; refine ex_ ?_) | (show ∃ _ _, _ ∧ _; refine ex2_ ?_) | fail)
  conv => whnf
  refine vc_loop (α := Nat) 0 (fun i => m - i) (fun i => i ≤ m) [] (fun i => [(3, .row 8 6), (4, .d (.int .i64 i))]) (fun i => [(8, .data 6 (arr m fun j => vecL (progV i s j)))]) lp_ ?_ ?_
  · (repeat' (conv => whnf) <;> first | exact True.intro | (refine if_ ?_ ?_ <;> intro h <;> first | exact h.elim | (exfalso; omega) | skip) | refine vs_ ?_ (by first | exact rep_vecs hl | exact sd_) | refine dv_ ?_ | exact fin_ | (show ∃ _, _ ∧ _; refine ex_ ?_) | (show ∃ _ _, _ ∧ _; refine ex2_ ?_) | fail)
  · intro i hi
    by_cases hlt : i < m
    · (repeat' (conv => whnf) <;> first | exact True.intro | (refine if_ ?_ ?_ <;> intro h <;> first | exact h.elim | (exfalso; omega) | skip) | refine vs_ ?_ | refine dv_ ?_ | exact fin_ | (show ∃ _, _ ∧ _; refine ex_ ?_ (by first | with_reducible exact rfl | with_reducible exact rd_vecs (by omega) | exact hV' i | with_reducible exact get_vecs (by omega) | exact rd_)) | (show ∃ _ _, _ ∧ _; refine ex2_ ?_ (by first | with_reducible exact rfl | with_reducible exact rd_vecs (by omega) | exact hV' i | with_reducible exact get_vecs (by omega) | exact rd_)) | fail)
      conv => whnf
      refine ⟨i + 1, by omega, by omega, ?_⟩
      (repeat' (conv => whnf) <;> first | exact True.intro | (refine if_ ?_ ?_ <;> intro h <;> first | exact h.elim | (exfalso; omega) | skip) | refine vs_ ?_ (by first | exact st_vecs hlt | exact sd_) | refine dv_ ?_ | exact fin_ | (show ∃ _, _ ∧ _; refine ex_ ?_) | (show ∃ _ _, _ ∧ _; refine ex2_ ?_) | fail)
    · have : i = m := by omega
      subst this
      (repeat' (conv => whnf) <;> first | exact True.intro | (refine if_ ?_ ?_ <;> intro h <;> first | exact h.elim | (exfalso; omega) | skip) | refine vs_ ?_ | refine dv_ ?_ | exact fin_ | (show ∃ _, _ ∧ _; refine ex_ ?_) | (show ∃ _ _, _ ∧ _; refine ex2_ ?_) | fail)
      all_goals (conv => whnf)
      all_goals exact all_vecs
theorem flat_vecs {m : Nat} {f : Nat → Nat → Int} : ∀ e ∈ arr m (fun i => vecL (f i)), ∀ x ∈ e, Flat x := fun e he x hx => by
  unfold arr at he
  obtain ⟨i, _, rfl⟩ := List.mem_map.1 he
  unfold vecL cel arr at hx
  obtain ⟨j, _, rfl⟩ := List.mem_map.1 hx
  exact .int _ _
theorem flat_nu {k : IntKind} {c : Int} : ∀ x ∈ ([] : List D) ++ [.int k c], Flat x := fun x hx => by
  simp at hx; subst hx; exact .int _ _
theorem eqvs_r (hE : C_eqVS P N) {m : Nat} {s : Nat → Nat → Int} (hm : m ≤ 1048576) : Can P N.laws_eqVectorS [vsD m s, vsD m s] (.val (.bool true)) := can_t (hE hm hm) ⟨rfl, fun _ _ => VEq.rfl'⟩
def L_CrossCapsOf (P : Program) (N : FN) : Prop := ∀ args, argsHave [tyAlg, tyVs] args → Can P N.laws_FnExactCrossCapsOf args (.val (.bool true))
theorem l_CrossCapsOf (hA : C_toAlgebra P N) (hZ : C_szVS P N) (hT : C_toVSO P N) (hE : C_eqVS P N) (hS : C_sCrossCapsOf P N) (hI : C_CrossCapsOf P N) (hM : C_markVS P N) (hH : C_heldVS P N)
    (hf : isFn P N.laws_FnExactCrossCapsOf (ir_laws_FnExactCrossCapsOf N) = true) : L_CrossCapsOf P N := fun args h => by
  obtain ⟨d1, d2, rfl, h1, h2⟩ := args2 h
  obtain ⟨a, rfl, ha, _⟩ := arg_alg h1
  obtain ⟨m, s, rfl, hm, hs⟩ := arg_vs h2
  have hm2 : m ≤ 9223372036854775807 := Nat.le_trans hm (by decide)
  have hal := (algAt_one a).all
  have hZ' := hZ (s := s) (k := 1048576) hm2 (by omega)
  have hA' := hA (a := a)
  refine can_of hf rfl rfl ?_
  by_cases g : m ≤ 1048576
  · rw [if_neg (by omega)] at hZ'
    have hT' := hT (s := s) g
    have hE' := eqvs_r hE (s := s) g
    have hS' := hS ha.s g hs (fun h hf => sCol_some (ha.s.ok h.1) hf)
    have hI' := hI ha g hs
    have e : capR (iCode a m s) (a.p ^ a.n.toNat) (hitF a s (iKlein a s) (a.p ^ a.n.toNat).toNat) = capR (sCode a m s) (a.p ^ a.n.toNat) (hitF a s (sKlein a s) (a.p ^ a.n.toNat).toNat) := by
      rw [show iCode a m s = sCode a m s from scode_same ha]
      by_cases c : sCode a m s = 0
      · obtain ⟨g1, g2, g3⟩ := scode_0 c
        rw [klein_same (ha.s.ok g1.1.1) g3.2.1]
      · unfold capR capL capC
        rw [if_neg c, if_neg c, if_neg (fun h => c h.1), if_neg (fun h => c h.1)]
    rw [e] at hI'
    unfold capR at hI' hS'
    obtain ⟨k, v, hk, hkv⟩ := cap_arr (sCode a m s) (a.p ^ a.n.toNat) (hitF a s (sKlein a s) (a.p ^ a.n.toNat).toNat)
    rw [hkv] at hI' hS'
    generalize capC (sCode a m s) (a.p ^ a.n.toNat) (hitF a s (sKlein a s) (a.p ^ a.n.toNat).toNat).length = c at *
    have hEk := eqvs_r hE (s := v) (m := k) (by omega)
    have hMm := hM (s := s) (k := 1) g (by omega)
    have hMk := hM (s := v) (m := k) (k := 1) (by omega) (by omega)
    have hHk := hH (m := k) (k := 1) (by omega) (by omega)
    clear hkv e hZ hA hT hE hS hI hM hH
    (repeat' (conv => whnf) <;> first | exact True.intro | (refine if_ ?_ ?_ <;> intro h <;> first | exact h.elim | (exfalso; omega) | skip) | refine vs_ ?_ (by first | exact .inr ⟨flat_vecs, flat_nu⟩ | exact sd_) | refine dv_ ?_ | exact fin_ | (show ∃ _, _ ∧ _; refine ex_ ?_ (by first | with_reducible exact rfl | exact hZ' | with_reducible exact hal | exact hA' | exact hT' | exact hS' | exact hI' | exact hE' | exact hEk | exact hMm | exact hMk | exact hHk | exact rd_)) | (show ∃ _ _, _ ∧ _; refine ex2_ ?_ (by first | with_reducible exact rfl | exact hZ' | with_reducible exact hal | exact hA' | exact hT' | exact hS' | exact hI' | exact hE' | exact hEk | exact hMm | exact hMk | exact hHk | exact rd_)) | fail)
  · rw [if_pos (by omega)] at hZ'
    (repeat' (conv => whnf) <;> first | exact True.intro | (refine if_ ?_ ?_ <;> intro h <;> first | exact h.elim | (exfalso; omega) | skip) | refine vs_ ?_ | refine dv_ ?_ | exact fin_ | (show ∃ _, _ ∧ _; refine ex_ ?_ (by first | with_reducible exact rfl | exact hZ' | exact rd_)) | (show ∃ _ _, _ ∧ _; refine ex2_ ?_ (by first | with_reducible exact rfl | exact hZ' | exact rd_)) | fail)
end Go.X
