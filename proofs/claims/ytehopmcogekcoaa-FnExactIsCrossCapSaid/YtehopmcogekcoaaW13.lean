import Derived.Test.YtehopmcogekcoaaK8
import Derived.Test.YtehopmcogekcoaaW9
import Derived.Test.YtehopmcogekcoaaW10
import Derived.Test.YtehopmcogekcoaaW12
import Derived.Test.YtehopmcogekcoaaW11
set_option linter.all false
namespace Go.X
open Go Go.RowKit
set_option maxRecDepth 100000
set_option maxHeartbeats 8000000
variable {P : Program} {N : FN}
theorem eqvs_t (hE : C_eqVS P N) {m : Nat} {s : Nat → Nat → Int} (hm : m ≤ 1048576) : Can P N.laws_eqVectorS [vsD m s, vsD m s] (.val (.bool true)) := can_t (hE hm hm) ⟨rfl, fun _ _ => VEq.rfl'⟩
def L_IsCrossCap (P : Program) (N : FN) : Prop := ∀ args, argsHave [tyAlg, tyVs, tyVec] args → Can P N.laws_FnExactIsCrossCap args (.val (.bool true))
theorem l_IsCrossCap (hA : C_toAlgebra P N) (hV : C_id P N.laws_toVector 6) (hZ : C_szVS P N) (hT : C_toVS P N) (hE : C_eqVS P N) (hS : C_sIsCrossCap P N) (hI : C_IsCrossCap P N)
    (hf : isFn P N.laws_FnExactIsCrossCap (ir_laws_FnExactIsCrossCap N) = true) : L_IsCrossCap P N := fun args h => by
  obtain ⟨d1, d2, d3, rfl, h1, h2, h3⟩ := args3 h
  obtain ⟨a, rfl, ha, _⟩ := arg_alg h1
  obtain ⟨m, s, rfl, hm, hs⟩ := arg_vs h2
  obtain ⟨t, rfl, ht⟩ := arg_vec h3
  have hm2 : m ≤ 9223372036854775807 := Nat.le_trans hm (by decide)
  have hal := (algAt_one a).all
  have hZ' := hZ (s := s) (k := 1048576) hm2 (by omega)
  have hA' := hA (a := a)
  have hV' : Can P N.laws_toVector [vecD t] (.val (vecD t)) := hV
  refine can_of hf rfl rfl ?_
  by_cases g : m ≤ 1048576
  · rw [if_neg (by omega)] at hZ'
    have hT' := hT (s := s) g
    have hE' := eqvs_t hE (s := s) g
    have hS' := hS ha.s g hs ht (fun h hf => sCol_some (ha.s.ok h.1) hf)
    have hI' := hI ha g hs ht
    have e : dB (iStA a m s 1 (fun _ => t) ∧ crossP a s (iKlein a s) t) = dB (sStA a m s 1 (fun _ => t) ∧ crossP a s (sKlein a s) t) := dB_congr <| by
      by_cases c : sStA a m s 1 (fun _ => t)
      · rw [klein_same (ha.s.ok c.1.1.1) c.2.2.2.1]
        exact and_congr (stA_iff ha) Iff.rfl
      · exact ⟨fun h => absurd ((stA_iff ha).1 h.1) c, fun h => absurd h.1 c⟩
    rw [scode_same ha, e] at hI'
    generalize dB (sStA a m s 1 (fun _ => t) ∧ crossP a s (sKlein a s) t) = b at *
    generalize scode (dB (sAlgP a ∧ AllSm a 1 fun _ => t)) (dB (m = a.n.toNat ∧ AllSm a m s)) (dB (sCommP a ∧ sFrobP a ∧ sStarP a s)) = k at *
    cases b <;> (repeat' (conv => whnf) <;> first | exact True.intro | (refine if_ ?_ ?_ <;> intro h <;> first | exact h.elim | (exfalso; omega) | skip) | refine vs_ ?_ | refine dv_ ?_ | exact fin_ | (show ∃ _, _ ∧ _; refine ex_ ?_ (by first | with_reducible exact rfl | exact hZ' | with_reducible exact hal | exact hA' | exact hT' | exact hV' | exact hS' | exact hI' | exact hE' | exact rd_)) | refine ex2_ ?_ (by first | with_reducible exact rfl | exact hZ' | with_reducible exact hal | exact hA' | exact hT' | exact hV' | exact hS' | exact hI' | exact hE' | exact rd_) | fail)
    all_goals exact absurd ‹(_ == _) = false› (by decide)
  · rw [if_pos (by omega)] at hZ'
    (repeat' (conv => whnf) <;> first | exact True.intro | (refine if_ ?_ ?_ <;> intro h <;> first | exact h.elim | (exfalso; omega) | skip) | refine vs_ ?_ | refine dv_ ?_ | exact fin_ | (show ∃ _, _ ∧ _; refine ex_ ?_ (by first | with_reducible exact rfl | exact hZ' | exact rd_)) | refine ex2_ ?_ (by first | with_reducible exact rfl | exact hZ' | exact rd_) | fail)
end Go.X
