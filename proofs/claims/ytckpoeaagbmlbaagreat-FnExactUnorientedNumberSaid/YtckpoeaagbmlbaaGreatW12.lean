import Derived.Test.YtckpoeaagbmlbaaGreatK6
import Derived.Test.YtckpoeaagbmlbaaGreatK7
import Derived.Test.YtckpoeaagbmlbaaGreatK5
import Derived.Test.YtckpoeaagbmlbaaGreatW7
import Derived.Test.YtckpoeaagbmlbaaGreatW8
set_option linter.all false
namespace Go.X
open Go Go.RowKit
set_option maxRecDepth 100000
set_option maxHeartbeats 8000000
variable {P : Program} {N : FN}
theorem uno_same {a : Alg} (ha : AlgOk a) (h : sAlgP a) (hc : sCommP a) (hf : sFrobP a) {t : Nat → Int} {q g : Nat} : iUno a t q g = sUno a t q g := by
  have hp2 := prime_bd ha.p
  have ca : CA a := ⟨ha, h.2.1, hc, h.2.2⟩
  obtain ⟨_, u2, u3, u4⟩ := unit_facts ha h.2.2
  unfold iUno sUno
  rw [(unit_same ha).2, handle_same ha hf, mul_comm' ca, fold_comm ha h.2.1 u2 (foldV_rw (by omega) u3 g) (foldV_z u4 g)]
theorem unoR_same {a : Alg} (hi : AlgIn a) {m : Nat} {s : Nat → Nat → Int} {t : Nat → Int} {q g : Nat} {b : Bool} :
    unoR (dB (IsAlgP a ∧ AllSm a 1 fun _ => t)) (dB (m = a.n.toNat ∧ AllSm a m s)) b (dB ((CommP a ∧ FrobP a ∧ iStarP a s) ∧ crossP a s (iKlein a s) t)) (iUno a t q g) =
    unoR (dB (sAlgP a ∧ AllSm a 1 fun _ => t)) (dB (m = a.n.toNat ∧ AllSm a m s)) b (dB ((sCommP a ∧ sFrobP a ∧ sStarP a s) ∧ crossP a s (sKlein a s) t)) (sUno a t q g) := by
  rw [dB_congr (show (IsAlgP a ∧ AllSm a 1 fun _ => t) ↔ _ from and_congr (alg_iff hi) Iff.rfl)]
  by_cases g1 : sAlgP a ∧ AllSm a 1 fun _ => t
  · have ha := hi.s.ok g1.1.1
    rw [dB_congr (show ((CommP a ∧ FrobP a ∧ iStarP a s) ∧ crossP a s (iKlein a s) t) ↔ _ from and_congr (st3_iff ha) Iff.rfl)]
    by_cases g3 : sCommP a ∧ sFrobP a ∧ sStarP a s
    · rw [klein_same ha g3.2.1, uno_same ha g1.1 g3.1 g3.2.1]
    · rw [dB_f (p := (sCommP a ∧ sFrobP a ∧ sStarP a s) ∧ crossP a s (iKlein a s) t) (fun x => g3 x.1), dB_f (p := (sCommP a ∧ sFrobP a ∧ sStarP a s) ∧ crossP a s (sKlein a s) t) (fun x => g3 x.1)]
      cases dB (sAlgP a ∧ AllSm a 1 fun _ => t) <;> cases dB (m = a.n.toNat ∧ AllSm a m s) <;> cases b <;> rfl
  · rw [dB_f g1]; rfl
theorem uno_tup (x y r z : Bool) (v : Int) : ∃ u c : Int, unoR x y r z v = .tup [.int .i64 u, .int .i64 c] := by
  cases x <;> cases y <;> cases r <;> cases z <;> exact ⟨_, _, rfl⟩
theorem args5 {t1 t2 t3 t4 t5 : Ty} {args : List D} (h : argsHave [t1, t2, t3, t4, t5] args) : ∃ d1 d2 d3 d4 d5, args = [d1, d2, d3, d4, d5] ∧ t1.arg d1 ∧ t2.arg d2 ∧ t3.arg d3 ∧ t4.arg d4 ∧ t5.arg d5 := by
  match args, h with
  | [d1, d2, d3, d4, d5], h => exact ⟨d1, d2, d3, d4, d5, rfl, h.1, h.2.1, h.2.2.1, h.2.2.2.1, h.2.2.2.2.1⟩
theorem eqvs_u (hE : C_eqVS P N) {m : Nat} {s : Nat → Nat → Int} (hm : m ≤ 1048576) : Can P N.laws_eqVectorS [vsD m s, vsD m s] (.val (.bool true)) := can_t (hE hm hm) ⟨rfl, fun _ _ => VEq.rfl'⟩
def L_UnorientedNumber (P : Program) (N : FN) : Prop := ∀ args, argsHave [tyAlg, tyVs, tyVec, .int .i64, .int .i64] args → Can P N.laws_FnExactUnorientedNumber args (.val (.bool true))
theorem l_UnorientedNumber (hA : C_toAlgebra P N) (hV : C_id P N.laws_toVector 6) (hZ : C_szVS P N) (hT : C_toVS P N) (hE : C_eqVS P N) (hS : C_sUno P N) (hI : C_Uno P N)
    (hf : isFn P N.laws_FnExactUnorientedNumber (ir_laws_FnExactUnorientedNumber N) = true) : L_UnorientedNumber P N := fun args h => by
  obtain ⟨d1, d2, d3, d4, d5, rfl, h1, h2, h3, h4, h5⟩ := args5 h
  obtain ⟨a, rfl, ha, _⟩ := arg_alg h1
  obtain ⟨m, s, rfl, hm, hs⟩ := arg_vs h2
  obtain ⟨t, rfl, ht⟩ := arg_vec h3
  obtain ⟨q, rfl, _⟩ := arg_i64 h4
  obtain ⟨g', rfl, _⟩ := arg_i64 h5
  have hm2 : m ≤ 9223372036854775807 := Nat.le_trans hm (by decide)
  have hal := (algAt_one a).all
  have hZ' := hZ (s := s) (k := 1048576) hm2 (by omega)
  have hA' := hA (a := a)
  have hV' : Can P N.laws_toVector [vecD t] (.val (vecD t)) := hV
  refine can_of hf rfl rfl ?_
  by_cases g : m ≤ 1048576
  · rw [if_neg (by omega)] at hZ'
    have hT' := hT (s := s) g
    have hE' := eqvs_u hE (s := s) g
    have hS' := hS (h := q) (g := g') ha.s g hs ht (fun h hf => sCol_some (ha.s.ok h.1) hf)
    have hI' := hI (h := q) (g := g') ha g hs ht
    rw [unoR_same ha] at hI'
    obtain ⟨u, c, e⟩ := uno_tup (dB (sAlgP a ∧ AllSm a 1 fun _ => t)) (dB (m = a.n.toNat ∧ AllSm a m s)) (genB q g') (dB ((sCommP a ∧ sFrobP a ∧ sStarP a s) ∧ crossP a s (sKlein a s) t)) (sUno a t q.toNat g'.toNat)
    rw [e] at hI' hS'
    (repeat' (conv => whnf) <;> first | exact True.intro | (refine if_ ?_ ?_ <;> intro h <;> first | exact h.elim | (exfalso; omega) | skip) | refine vs_ ?_ | refine dv_ ?_ | exact fin_ | (show ∃ _, _ ∧ _; refine ex_ ?_ (by first | with_reducible exact rfl | exact hZ' | with_reducible exact hal | exact hA' | exact hT' | exact hV' | exact hS' | exact hI' | exact hE' | exact rd_)) | (show ∃ _ _, _ ∧ _; refine ex2_ ?_ (by first | with_reducible exact rfl | exact hZ' | with_reducible exact hal | exact hA' | exact hT' | exact hV' | exact hS' | exact hI' | exact hE' | exact rd_)) | fail)
  · rw [if_pos (by omega)] at hZ'
    (repeat' (conv => whnf) <;> first | exact True.intro | (refine if_ ?_ ?_ <;> intro h <;> first | exact h.elim | (exfalso; omega) | skip) | refine vs_ ?_ | refine dv_ ?_ | exact fin_ | (show ∃ _, _ ∧ _; refine ex_ ?_ (by first | with_reducible exact rfl | exact hZ' | exact rd_)) | (show ∃ _ _, _ ∧ _; refine ex2_ ?_ (by first | with_reducible exact rfl | exact hZ' | exact rd_)) | fail)
end Go.X
