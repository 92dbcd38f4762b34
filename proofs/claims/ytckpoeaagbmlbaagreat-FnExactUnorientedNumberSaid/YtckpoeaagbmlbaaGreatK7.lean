import Derived.Test.YtckpoeaagbmlbaaGreatK6
import Derived.Test.YtckpoeaagbmlbaaGreatK5
set_option linter.all false
namespace Go.X
open Go Go.RowKit
theorem form_bas {a : Alg} (ha : AlgOk a) {i : Nat} (hi : i < a.n.toNat) : formV a (basV i) = a.f i := by
  have hn := ha.n
  unfold formV fsum
  rw [sumN_one' (i := i) (by omega) fun k _ hne => by unfold basV; rw [if_neg hne, Int.zero_mul]]
  have e : basV i i = 1 := by unfold basV; rw [if_pos rfl]
  rw [e, Int.one_mul]
  exact Int.emod_eq_of_lt (ha.f i).1 (ha.f i).2
theorem star_iff {a : Alg} (ha : AlgOk a) {s : Nat → Nat → Int} : iStarP a s ↔ sStarP a s := by
  unfold iStarP sStarP iStar1 iStar2 sStar1 sStar2
  refine forall_congr' fun i => forall_congr' fun hi => ?_
  rw [form_bas ha hi]
  refine and_congr Iff.rfl (forall_congr' fun j => forall_congr' fun hj => ?_)
  rw [bas_times2 ha hi hj]
theorem klein_same {a : Alg} (ha : AlgOk a) (hf : sFrobP a) (s : Nat → Nat → Int) : iKlein a s = sKlein a s := by
  unfold iKlein sKlein
  rw [iCop_len2 ha hf]
  exact pairR_ext _ fun i j hi hj => cop_same ha hf hi hj
theorem st3_iff {a : Alg} (ha : AlgOk a) {s : Nat → Nat → Int} : (CommP a ∧ FrobP a ∧ iStarP a s) ↔ (sCommP a ∧ sFrobP a ∧ sStarP a s) :=
  and_congr (comm_iff ha) (and_congr (frob_iff ha) (star_iff ha))
def tyVs : Ty := .sl tyVec
theorem vecs_fn : ∀ {l : List (List D)}, (∀ r ∈ l, ∃ f : Nat → Int, r = vecL f ∧ Byts f) → ∃ s : Nat → Nat → Int, l = arr l.length (fun i => vecL (s i)) ∧ ∀ i, Byts (s i)
  | [], _ => ⟨fun _ => Z, rfl, fun _ _ => by show (0 : Int) ≤ 0 ∧ (0 : Int) ≤ 255; omega⟩
  | r :: l, h => by
    obtain ⟨f, rfl, hf⟩ := h r (List.mem_cons_self ..)
    obtain ⟨s, h1, hs⟩ := vecs_fn fun r hr => h r (List.mem_cons_of_mem _ hr)
    refine ⟨fun i => if i = 0 then f else s (i - 1), ?_, fun i => ?_⟩
    · refine arr_of rfl fun i hi => ?_
      cases i with
      | zero => rfl
      | succ i =>
        rw [List.getElem?_cons_succ, h1, arr_get (by simp at hi; omega)]; rfl
    · dsimp only; split
      · exact hf
      · exact hs _
theorem arg_vs {d : D} (h : tyVs.arg d) : ∃ (m : Nat) (s : Nat → Nat → Int), d = vsD m s ∧ m ≤ maxLen ∧ ∀ i, Byts (s i) := by
  obtain ⟨l, h, hl, hr⟩ := h
  simp only [List.cons.injEq, and_true] at h
  obtain ⟨s, h1, hs⟩ := vecs_fn (l := l) fun r hrm => allU8_arr (n := 6) allU8_int _ (hr r hrm)
  refine ⟨l.length, s, ?_, hl, hs⟩
  rw [h]
  show D.lst 6 l = _
  rw [h1, arr_len]
end Go.X
namespace Go.X
open Go Go.RowKit
structure CA (a : Alg) : Prop where
  ok : AlgOk a
  as : AssocP a
  cm : sCommP a
  un : (findF a).isSome = true
def vadd (p : Int) (v w : Nat → Int) : Nat → Int := fun i => (v i + w i) % p
theorem eq_mod {p : Int} {v w : Nat → Int} (hv : Rw p v) (hw : Rw p w) (h : ∀ i, v i % p = w i % p) : v = w := funext fun i => by
  have := h i
  rwa [rw_mod hv, rw_mod hw] at this
section
variable {a : Alg} (h : CA a)
theorem CA.p1 (h : CA a) : 1 ≤ a.p := by have := prime_bd h.ok.p; omega
theorem CA.p2 (h : CA a) : 2 ≤ a.p := (prime_bd h.ok.p).1
theorem LinF.add {p : Int} {n : Nat} {F : (Nat → Int) → Int} (hF : LinF p n F) (u v : Nat → Int) : F (vadd p u v) % p = (F u + F v) % p := by
  rw [hF, cg_add (hF u) (hF v), ← sumN_add]
  refine sumN_mod fun i _ => ?_
  rw [← Int.add_mul]
  exact cg_mul (cg_mod p _) rfl
theorem mul_comm' (h : CA a) (v w : Nat → Int) : timesV a v w = timesV a w v := by
  have hn := h.ok.n
  refine eq_mod (times_rw h.p1 _ _) (times_rw h.p1 _ _) fun q => ?_
  refine LinF.ext (F := fun v => timesV a v w q) (G := fun v => timesV a w v q) (lin_l q) (lin_r q) (fun i hi => ?_) v
  refine LinF.ext (F := fun w => timesV a (basV i) w q) (G := fun w => timesV a w (basV i) q) (lin_r q) (lin_l q) (fun j hj => ?_) w
  show timesV a (basV i) (basV j) q % a.p = timesV a (basV j) (basV i) q % a.p
  rw [bas_times2 h.ok hi hj, bas_times2 h.ok hj hi]
  by_cases hq : q < 6
  · rcases Nat.lt_trichotomy i j with c | c | c
    · rw [h.cm j (by omega) i c q hq]
    · rw [c]
    · rw [h.cm i (by omega) j c q hq]
  · rw [h.ok.z i j q (by omega), h.ok.z j i q (by omega)]
end
end Go.X
