import Derived.Test.YtphelkciklpakaaW20
import Derived.Test.YtphelkciklpakaaW10
import Derived.Test.YtphelkciklpakaaW11
import Derived.Test.YtphelkciklpakaaW18
import Derived.Test.YtphelkciklpakaaK4
set_option linter.all false
namespace Go.X
open Go Go.RowKit
set_option maxRecDepth 100000
set_option linter.unusedVariables false
structure GV (a : Alg) (v : Row) : Prop where
  rw : Rw a.p v
  z : ∀ i, a.n.toNat ≤ i → v i = 0
structure GA (a : Alg) : Prop where
  ok : AlgOk a
  as : AssocP a
  un : (findF a).isSome = true
theorem ga_of {a : Alg} (hi : AlgIn a) (h : IsAlgP a) : GA a := by
  have hs := (alg_iff hi).1 h
  exact ⟨hi.alg h, hs.2.1, hs.2.2⟩
theorem GA.p1 {a : Alg} (h : GA a) : 2 ≤ a.p ∧ a.p ≤ 13 := prime_bd h.ok.p
theorem GA.eu {a : Alg} (h : GA a) : iUnit a = sUnit a := (unit_same h.ok).2
theorem GA.unit {a : Alg} (h : GA a) : GV a (sUnit a) := by
  obtain ⟨_, _, h3, h4⟩ := unit_facts h.ok h.un
  exact ⟨h3, h4⟩
theorem GA.times {a : Alg} (h : GA a) (v w : Row) : GV a (timesV a v w) := by
  have := h.p1
  exact ⟨times_rw (by omega) v w, fun i hi => times_ge (by have := h.ok.n; omega)⟩
theorem GA.ul {a : Alg} (h : GA a) {v : Row} (hv : GV a v) : timesV a (sUnit a) v = v := by
  have := h.p1
  obtain ⟨h1, _⟩ := unit_facts h.ok h.un
  exact times_ul (by omega) h1 hv.rw hv.z
theorem GA.ur {a : Alg} (h : GA a) {v : Row} (hv : GV a v) : timesV a v (sUnit a) = v := by
  have := h.p1
  obtain ⟨_, h2, _⟩ := unit_facts h.ok h.un
  exact times_ur (by omega) h2 hv.rw hv.z
theorem GA.assoc {a : Alg} (h : GA a) (u v w : Row) : timesV a (timesV a u v) w = timesV a u (timesV a v w) := times_assoc h.ok h.as u v w
theorem GA.fold {a : Alg} (h : GA a) {u b : Row} (hu : GV a u) : ∀ k, GV a (foldV a u b k)
  | 0 => hu
  | k + 1 => h.times _ _
theorem GA.fold_succ {a : Alg} (h : GA a) {v : Row} (hv : GV a v) : ∀ k, foldV a (sUnit a) v (k + 1) = timesV a v (foldV a (sUnit a) v k)
  | 0 => (h.ul hv).trans (h.ur hv).symm
  | k + 1 => by
    exact (congrArg (fun x => timesV a x v) (h.fold_succ hv k)).trans (h.assoc v _ v)
theorem GV.sm {a : Alg} {v : Row} (h : GV a v) : Small v a.n a.p := fun i _ => ⟨(h.rw i).2, fun hi => h.z i (by omega)⟩
theorem GV.byt {a : Alg} {v : Row} (h : GV a v) (hp : a.p ≤ 255) : Byts v := fun i => by have := h.rw i; omega
theorem gv_of {a : Alg} (ha : GA a) {v : Row} (hv : DrV v) (h : Small v a.n a.p) : GV a v := by
  have hp := ha.p1
  refine ⟨fun i => ?_, fun i hi => ?_⟩
  · have h0 := hv.b i
    by_cases c : i < 6
    · exact ⟨h0.1, (h i c).1⟩
    · rw [hv.z i (by omega)]; omega
  · by_cases c : i < 6
    · exact (h i c).2 (by omega)
    · exact hv.z i (by omega)
theorem sm2 {a : Alg} {x y : Row} (hx : Small x a.n a.p) (hy : Small y a.n a.p) : AllSm a 2 (twoV x y) := fun i hi => by
  unfold twoV; split
  · exact hx
  · exact hy
theorem sm2_l {a : Alg} {x y : Row} (h : AllSm a 2 (twoV x y)) : Small x a.n a.p := h 0 (by omega)
theorem sm2_r {a : Alg} {x y : Row} (h : AllSm a 2 (twoV x y)) : Small y a.n a.p := h 1 (by omega)
theorem sm1 {a : Alg} {x : Row} (hx : Small x a.n a.p) : AllSm a 1 (fun _ => x) := fun _ _ => hx
theorem dB_alg {a : Alg} (h : AlgIn a) (Q : Prop) : dB (sAlgP a ∧ Q) = dB (IsAlgP a ∧ Q) := by
  rw [propext (alg_iff h)]
section
variable {P : Program} {N : FN}
theorem mul0 (hM : C_Mul P N) {a : Alg} (hi : AlgIn a) (h : IsAlgP a) {x y : Row} (hx : GV a x) (hy : GV a y) : Can P N.impl_MultiplyVectors [algD a, vecD x, vecD y] (.tup [vecD (timesV a x y), .int .i64 0]) := by
  have ha := ga_of hi h
  have hp := ha.p1
  have := hM hi (hx.byt (by omega)) (hy.byt (by omega))
  rw [dB_t ⟨h, sm2 hx.sm hy.sm⟩] at this
  exact this
theorem pow0 (hM : C_PowerV P N) {a : Alg} (hi : AlgIn a) (h : IsAlgP a) {x : Row} (hx : GV a x) {k : Nat} (hk : k ≤ 1000) : Can P N.impl_PowerVector [algD a, vecD x, .int .i64 k] (.tup [vecD (foldV a (sUnit a) x k), .int .i64 0]) := by
  have ha := ga_of hi h
  have hp := ha.p1
  have := hM (k := k) hi (hx.byt (by omega))
  unfold powVR at this
  rw [dB_t ⟨h, sm1 hx.sm⟩, if_pos rfl, if_pos (by omega), Int.toNat_natCast, ha.eu] at this
  exact this
theorem unit0 (hU : C_UnitOf P N) {a : Alg} (hi : AlgIn a) (h : IsAlgP a) : Can P N.impl_UnitOf [algD a] (.tup [vecD (sUnit a), .int .i64 0]) := by
  have ha := ga_of hi h
  have := hU hi
  unfold unitR at this
  rw [dB_t h, if_pos rfl] at this
  rw [← ha.eu]
  exact this
end
theorem mulR_eq {a : Alg} {v w : Row} {b : Bool} : mulR a v w b = .tup [vecD (if b then timesV a v w else Z), .int .i64 (if b then 0 else 1)] := by cases b <;> rfl
theorem formR_eq {a : Alg} {v : Row} {b : Bool} : formR a v b = .tup [.int .i64 (if b then formV a v else 0), .int .i64 (if b then 0 else 1)] := by cases b <;> rfl
theorem unitR_eq {u : Row} {b : Bool} : unitR u b = .tup [vecD (if b then u else Z), .int .i64 (if b then 0 else 1)] := by cases b <;> rfl
theorem addR_ex (a : Alg) (v w : Row) (k : Int) (b : Bool) : ∃ x c, addR a v w k b = .tup [vecD x, .int .i64 c] := by
  unfold addR
  cases b
  · exact ⟨_, _, rfl⟩
  · rw [if_pos rfl]
    split <;> exact ⟨_, _, rfl⟩
theorem powVR_ex (a : Alg) (u v : Row) (k : Int) (b : Bool) : ∃ x c, powVR a u v k b = .tup [vecD x, .int .i64 c] := by
  unfold powVR
  cases b
  · exact ⟨_, _, rfl⟩
  · rw [if_pos rfl]
    split <;> exact ⟨_, _, rfl⟩
theorem powVR_same {a : Alg} (hi : AlgIn a) {v : Row} {k : Int} {Q : Prop} : powVR a (sUnit a) v k (dB (sAlgP a ∧ Q)) = powVR a (iUnit a) v k (dB (IsAlgP a ∧ Q)) := by
  rw [dB_alg hi]
  by_cases g : IsAlgP a ∧ Q
  · rw [(ga_of hi g.1).eu]
  · rw [dB_f g]; rfl
theorem unitR_same {a : Alg} (hi : AlgIn a) : unitR ((findF a).getD Z) (dB (sAlgP a)) = unitR ((iFindF a).getD Z) (dB (IsAlgP a)) := by
  rw [← propext (alg_iff hi)]
  by_cases g : IsAlgP a
  · rw [show (findF a).getD Z = sUnit a from rfl, show (iFindF a).getD Z = iUnit a from rfl, (ga_of hi g).eu]
  · rw [dB_f g]; rfl
theorem invR_same {a : Alg} (hi : AlgIn a) {v : Row} {Q : Prop} : invR (sBackO a v) (dB (sAlgP a ∧ Q)) = invR (iBack a v) (dB (IsAlgP a ∧ Q)) := by
  rw [dB_alg hi]
  by_cases g : IsAlgP a ∧ Q
  · have ha := ga_of hi g.1
    unfold sBackO
    rcases inv_same ha.ok ha.as ha.un v with ⟨h1, h2⟩ | ⟨w, h1, h2, _⟩
    · rw [h1, h2]; rfl
    · rw [h1, h2]; rfl
  · rw [dB_f g]; rfl
theorem arg_bytes {d : D} (h : (Ty.sl (.int .u8)).arg d) : ∃ (m : Nat) (f : Nat → Int), d = .lst 1 (nbL f m) ∧ m ≤ maxLen ∧ ∀ i, 0 ≤ f i ∧ f i ≤ 255 := by
  obtain ⟨l, h, hl, hr⟩ := h
  simp only [List.cons.injEq, and_true] at h
  subst h
  have key : ∀ i, (hi : i < l.length) → ∃ n : Int, l[i]? = some [.int .u8 n] ∧ 0 ≤ n ∧ n ≤ 255 := fun i hi => by
    obtain ⟨n, hn, hw⟩ := hr _ (List.getElem_mem hi)
    refine ⟨n, by rw [List.getElem?_eq_getElem hi, hn], ?_⟩
    have : IntKind.u8.min ≤ n ∧ n ≤ IntKind.u8.max := by simpa [Lit.wf] using hw
    exact this
  refine ⟨l.length, fun i => if hi : i < l.length then (key i hi).choose else 0, ?_, hl, fun i => ?_⟩
  · refine congrArg (D.lst 1) (arr_of rfl fun i hi => ?_)
    have := (key i hi).choose_spec.1
    dsimp only
    rw [dif_pos hi]
    exact this
  · dsimp only
    split
    · rename_i hi
      exact (key i hi).choose_spec.2
    · exact ⟨Int.le_refl _, by decide⟩
end Go.X
