import Derived.Test.YtphelkciklpakaaX4
import Derived.IntWalk
import Derived.OpenShut
import Derived.SizedLaws
import Derived.Carry
set_option linter.all false
namespace Go.X
open Go Go.RowKit
def cGuard (ops : Array Oper) : Option (Nat × Bool) → Option (Option (Nat × Bool))
  | none => some none
  | some (j, want) => match (ops[j]?).bind (·.dst) with
    | some g => some (some (g, want))
    | none => none
def nmOf (nt i : Nat) (o : Oper) : Nat := match o.dst with | some d => d + 1 | none => nt + 1 + i
def cRO (P : Program) (slc : Bool) (nt : Nat) (ops : Array Oper) (i : Nat) (o : Oper) : Option RO :=
  match cOp P slc o.op, cGuard ops o.guard with
  | some X, some g => some ⟨o.dst, nmOf nt i o, X, g, [], none⟩
  | _, _ => none
def storesS (P : Program) : List Oper → Bool
  | [] => false
  | o :: r => match o.op with
    | .store T _ _ => isSlice P T || storesS P r
    | _ => storesS P r
def cROs (P : Program) (slc : Bool) (nt : Nat) (ops : Array Oper) : Nat → List Oper → Option (List RO)
  | _, [] => some []
  | i, o :: r => match cRO P slc nt ops i o, cROs P slc nt ops (i + 1) r with
    | some x, some xs => some (x :: xs)
    | _, _ => none
def forbOf (before : List Nat) (i : Nat) : Nat → List RO → List Nat
  | _, [] => []
  | j, o :: r => if o.op.mk && !Nat.beq i j && !memN j before then o.nm :: forbOf before i (j + 1) r else forbOf before i (j + 1) r
def tgtOf (n : Nat) : List RO → Option Nat
  | [] => none
  | o :: r => match o.dst with
    | some d => if Nat.beq d n && o.op.mk then some o.nm else tgtOf n r
    | none => tgtOf n r
def movOf (n : Nat) : List RO → Option Nat
  | [] => none
  | o :: r => match o.dst, o.op with
    | some d, .mov (.t v) => if Nat.beq d n then some v else movOf n r
    | _, _ => movOf n r
def elemOf (n : Nat) : List RO → Option Nat
  | [] => none
  | o :: r => match o.dst, o.op with
    | some d, .iaddrS _ (.t v) _ => if Nat.beq d n then some v else elemOf n r
    | _, _ => elemOf n r
def nestOfLoad (all : List RO) (n : Nat) : Option Nat := ((elemOf n all).bind fun m => movOf m all).map (· + 1)
def nestsIn (an : List (List Nat)) (all : List RO) (i : Nat) : Nat → List RO → List Nat
  | _, [] => []
  | j, o :: r => match o.op with
    | .loadS (.t n) => match nestOfLoad all n with
      | some b => if Nat.beq i j || memN j (getN an i) || memN i (getN an j) then nestsIn an all i (j + 1) r else b :: nestsIn an all i (j + 1) r
      | none => nestsIn an all i (j + 1) r
    | _ => nestsIn an all i (j + 1) r
def aim (s : Bool) (all : List RO) (x : RO) : RO :=
  match x.op with
  | .loadS (.t n) => match nestOfLoad all n with
    | some b => { x with tgt := some [b, x.nm] }
    | none => x
  | .store _ (.t n) _ => match tgtOf n all with
    | some b => { x with tgt := some [b] }
    | none => if s then { x with tgt := some [n + 1] } else x
  | _ => x
def forbSt (an : List (List Nat)) (all : List RO) (i : Nat) : Nat → List RO → List Nat
  | _, [] => []
  | j, o :: r => match o.op with
    | .store _ (.t n) _ => match tgtOf n all with
      | some _ => forbSt an all i (j + 1) r
      | none => if Nat.beq i j || memN j (getN an i) || memN i (getN an j) then forbSt an all i (j + 1) r else (n + 1) :: forbSt an all i (j + 1) r
    | _ => forbSt an all i (j + 1) r
def addForb (s : Bool) (an : List (List Nat)) (all : List RO) : Nat → List RO → List RO
  | _, [] => []
  | i, x :: xs => (if x.op.rdsH then { aim s all x with forb := nestsIn an all i 0 all ++ (forbOf (getN an i) i 0 all ++ (if s then forbSt an all i 0 all else [])) } else x) :: addForb s an all (i + 1) xs
def mkNames : List RO → List Nat
  | [] => []
  | o :: r => if o.op.mk then o.nm :: mkNames r else mkNames r
def distinctN : List Nat → Bool
  | [] => true
  | n :: r => !memN n r && distinctN r
def cReg (P : Program) (nt : Nat) (ops : Array Oper) (draw : Bool) : Option (List Nat × List RO) :=
  match cROs P (!draw || storesS P ops.toList) nt ops 0 ops.toList with
  | some ros => if distinctN (mkNames ros) then
      if draw then
        let an := ancs .any ops.toList []
        let ros' := addForb false an ros 0 ros
        let ros2 := addForb true an ros 0 ros
        if P.follows .mixedOrders && lexX .any ops an ros' 0 ros' (Array.replicate ops.size false) then some (mkNames ros, ros')
        else if P.follows .mixedOrders && lexX .any ops an ros2 0 ros2 (Array.replicate ops.size false) then some (mkNames ros, ros2) else none
      else some (mkNames ros, ros)
    else none
  | none => none
def RO.erase (o : RO) : RO := { o with op := o.op.erase }
def Fits (P : Program) (ops : Array Oper) (o : Oper) (ro : RO) : Prop := (∃ slc, cOp P slc o.op = some ro.op.erase) ∧ ro.dst = o.dst ∧ cGuard ops o.guard = some ro.guard
theorem cROs_spec {P : Program} {slc : Bool} {nt : Nat} {ops : Array Oper} : ∀ {l : List Oper} {i : Nat} {ros : List RO}, cROs P slc nt ops i l = some ros →
    ros.length = l.length ∧ ∀ (j : Nat) (o : Oper) (ro : RO), l[j]? = some o → ros[j]? = some ro → (∃ slc, cOp P slc o.op = some ro.op) ∧ ro.dst = o.dst ∧ cGuard ops o.guard = some ro.guard ∧ ro.nm ≠ 0
  | [], i, ros, h => by simp only [cROs, Option.some.injEq] at h; subst h; simp
  | o :: r, i, ros, h => by
    unfold cROs at h
    split at h
    · rename_i x xs h1 h2
      simp only [Option.some.injEq] at h; subst h
      obtain ⟨g1, g2⟩ := cROs_spec h2
      refine ⟨by simp [g1], fun j o' ro' hj hj' => ?_⟩
      cases j with
      | zero =>
        simp only [List.getElem?_cons_zero, Option.some.injEq] at hj hj'; subst hj; subst hj'
        unfold cRO at h1
        split at h1
        · rename_i X g e1 e2
          simp only [Option.some.injEq] at h1; subst h1
          exact ⟨⟨_, e1⟩, rfl, e2, by show nmOf nt i o ≠ 0; unfold nmOf; split <;> omega⟩
        · simp at h1
      | succ j => exact g2 j o' ro' hj hj'
    · simp at h
theorem aim_spec (s : Bool) (all : List RO) (x : RO) : (aim s all x).dst = x.dst ∧ (x.op.mk = true → (aim s all x).nm = x.nm) ∧ (aim s all x).op = x.op ∧ (aim s all x).guard = x.guard := by
  unfold aim
  split
  · split <;> exact ⟨rfl, fun _ => rfl, rfl, rfl⟩
  · split
    · exact ⟨rfl, fun _ => rfl, rfl, rfl⟩
    · split <;> exact ⟨rfl, fun _ => rfl, rfl, rfl⟩
  · exact ⟨rfl, fun _ => rfl, rfl, rfl⟩
theorem addForb_spec {s : Bool} {an : List (List Nat)} {all : List RO} : ∀ {xs : List RO} {i : Nat}, (addForb s an all i xs).length = xs.length ∧
    ∀ (j : Nat) (x : RO), (addForb s an all i xs)[j]? = some x → ∃ y : RO, xs[j]? = some y ∧ x.dst = y.dst ∧ (y.op.mk = true → x.nm = y.nm) ∧ x.op = y.op ∧ x.guard = y.guard
  | [], i => by simp [addForb]
  | x :: xs, i => by
    obtain ⟨h1, h2⟩ := addForb_spec (s := s) (an := an) (all := all) (xs := xs) (i := i + 1)
    refine ⟨by simp [addForb, h1], fun j y hy => ?_⟩
    cases j with
    | zero =>
      simp only [addForb, List.getElem?_cons_zero, Option.some.injEq] at hy
      subst hy
      refine ⟨x, rfl, ?_⟩
      split
      · exact aim_spec s all x
      · exact ⟨rfl, fun _ => rfl, rfl, rfl⟩
    | succ j => exact h2 j y (by simpa [addForb] using hy)
theorem mkNames_pos : ∀ {ros : List RO}, (∀ (j : Nat) (ro : RO), ros[j]? = some ro → ro.nm ≠ 0) → ∀ b ∈ mkNames ros, b ≠ 0
  | [], _, b, hb => by simp [mkNames] at hb
  | o :: r, h, b, hb => by
    have ih := mkNames_pos (ros := r) fun j ro hj => h (j + 1) ro (by simpa using hj)
    unfold mkNames at hb
    split at hb
    · rcases List.mem_cons.1 hb with rfl | hb
      · exact h 0 o rfl
      · exact ih b hb
    · exact ih b hb
theorem mkNames_mem : ∀ {ros : List RO} {j : Nat} {o : RO}, ros[j]? = some o → o.op.mk = true → o.nm ∈ mkNames ros
  | [], j, o, h, _ => by simp at h
  | x :: r, 0, o, h, hm => by simp only [List.getElem?_cons_zero, Option.some.injEq] at h; subst h; simp [mkNames, hm]
  | x :: r, j + 1, o, h, hm => by
    have := mkNames_mem (ros := r) (j := j) (by simpa using h) hm
    unfold mkNames; split
    · exact List.mem_cons_of_mem _ this
    · exact this
theorem mkNames_inj : ∀ {ros : List RO} {i j : Nat} {x y : RO}, distinctN (mkNames ros) = true → ros[i]? = some x → ros[j]? = some y → x.op.mk = true → y.op.mk = true → i ≠ j → x.nm ≠ y.nm
  | [], i, j, x, y, _, h, _, _, _, _ => by simp at h
  | z :: r, i, j, x, y, hd, hx, hy, mx, my, hne => by
    have hd' : distinctN (mkNames r) = true ∧ (z.op.mk = true → z.nm ∉ mkNames r) := by
      unfold mkNames at hd
      split at hd
      · simp only [distinctN, Bool.and_eq_true, Bool.not_eq_true', ← Bool.not_eq_true, memN_iff] at hd
        exact ⟨hd.2, fun _ => hd.1⟩
      · rename_i e; exact ⟨hd, fun e' => absurd e' e⟩
    cases i with
    | zero =>
      cases j with
      | zero => exact absurd rfl hne
      | succ j =>
        simp only [List.getElem?_cons_zero, Option.some.injEq] at hx; subst hx
        intro e
        exact hd'.2 mx (e ▸ mkNames_mem (by simpa using hy) my)
    | succ i =>
      cases j with
      | zero =>
        simp only [List.getElem?_cons_zero, Option.some.injEq] at hy; subst hy
        intro e
        exact hd'.2 my (e ▸ mkNames_mem (by simpa using hx) mx)
      | succ j => exact mkNames_inj (i := i) (j := j) hd'.1 (by simpa using hx) (by simpa using hy) mx my (by omega)
section
variable {P : Program} {w0 : World} {wr : Wr} {F0 F : Nat → Prop} {E : Env} {t : List AV} {h hm : List Chunk} {a : Act} {w w' : World} {nm : Nat} {y : AV} {u : List (Nat × Chunk)}
theorem eff_nm (Can : FuncId → List D → Res → Prop) {X : XOp} (hX : X.mk = false) (nm nm' : Nat) (t : List AV) (h : List Chunk) (K : Eff) : X.eff Can nm t h K = X.eff Can nm' t h K := by
  cases X <;> first | rfl | (simp [XOp.mk] at hX)
theorem maskL_nr {b : Nat} (nr : NRs b t h) (A : List Nat) : NRs b t (maskL A h) := by
  refine ⟨nr.1, fun c hc => ?_, nr.ne⟩
  rcases mem_maskL hc with rfl | hc
  · exact True.intro
  · exact nr.2 c hc
theorem sub_mask (A : List Nat) (h : List Chunk) : Sub (maskL A h) h := by
  induction A generalizing h with
  | nil => exact fun b c hc _ => hc
  | cons x r ih =>
    intro b c hc hl
    have h1 := ih (h.set x .none) b c hc hl
    rw [List.getElem?_set] at h1
    by_cases e : x = b
    · subst e; simp only [if_true] at h1
      split at h1
      · simp only [Option.some.injEq] at h1; subst h1; exact hl.elim
      · simp at h1
    · simpa [e] using h1
theorem outR_nr {ro : RO} {st : St} {b : Nat} (nr : NRs b st.t st.h) (hb : ro.op.mk = true → b ≠ ro.nm) (hy : OutR (Can P) ro st y u) : GoodN b y u := by
  have key : (ro.eff (Can P) st.t (maskL ro.forb st.h) fun v' u' => v' = y ∧ u' = u) → GoodN b y u := by
    intro hy
    have hy := (roeff_op (Can P) hy).1
    by_cases hm : ro.op.mk = true
    · exact eff_nr (Can P) (maskL_nr nr _) (hb hm) ro.op y u hy
    · rw [eff_nm (Can P) (by simpa using hm) ro.nm (b + 1)] at hy
      exact eff_nr (Can P) (maskL_nr nr _) (by omega) ro.op y u hy
  unfold OutR at hy
  split at hy
  · exact key hy
  · rcases hy with ⟨_, hy⟩ | ⟨_, rfl, rfl⟩
    · exact key hy
    · exact ⟨.d _, by simp⟩
theorem nrs_app {ro : RO} {st : St} {b : Nat} (nr : NRs b st.t st.h) (g : GoodN b y u) : NRs b (app ro y u st).t (app ro y u st).h := by
  refine ⟨fun x hx => ?_, fun c hc => ?_, nr.ne⟩
  · simp only [app] at hx
    cases hd : ro.dst with
    | none => rw [hd] at hx; exact nr.1 x hx
    | some d =>
      rw [hd] at hx
      rcases mem_set_of hx with rfl | hx
      · exact g.1
      · exact nr.1 x hx
  · simp only [app] at hc
    have : ∀ (u : List (Nat × Chunk)) (h : List Chunk), (∀ p ∈ u, NRc b p.2) → (∀ c ∈ h, NRc b c) → ∀ c ∈ updL u h, NRc b c := by
      intro u
      induction u with
      | nil => exact fun h _ hh => hh
      | cons p r ih =>
        intro h hp hh
        refine ih _ (fun q hq => hp q (List.mem_cons_of_mem _ hq)) fun c hc => ?_
        rcases mem_set_of hc with rfl | hc
        · exact hp p (by simp)
        · exact hh c hc
    exact this u st.h g.2 nr.2 c hc
theorem tmp_of {st : St} (hs : SimAt w0 wr F0 F E st a w) {g : Nat} {x : AV} (hg : getL st.t g = x) (hd : x ≠ .dead) : ∃ v, a.tmps[g]? = some v ∧ SeesA w F E x v := by
  rw [getL_eq] at hg
  cases hn : st.t[g]? with
  | none => rw [hn] at hg; simp at hg; exact absurd hg.symm hd
  | some z =>
    rw [hn] at hg; simp at hg; subst hg
    have hlt : g < a.tmps.size := by rw [hs.len]; exact (List.getElem?_eq_some_iff.1 hn).1
    exact ⟨_, Array.getElem?_eq_getElem hlt, hs.tmps g z _ hn (Array.getElem?_eq_getElem hlt)⟩
theorem step_wp {o : Oper} {st : St} {ro : RO} (hd : ro.dst = o.dst) {K : Act → World → Prop} {Q : Exit → Act → World → Prop} (hst : Step P w0 wr F0 o a w st.t st.h y u)
    (hK : ∀ a' w', Sim w0 wr F0 (app ro y u st) a' w' → K a' w') : o.wp P a w K Q := by
  unfold Oper.wp
  unfold Step at hst
  unfold app at hK
  rw [hd] at hK
  generalize (execOp a.eval o).run P w = r at *
  cases r with
  | ok n w1 =>
    cases n
    case value v => exact hK _ _ hst
    case skip => exact hK _ _ hst
    case enter f args => exact Calls.mono hst fun e w'' he => by obtain ⟨v, rfl, hv⟩ := he; exact hK _ _ hv
    all_goals exact hst.elim
  | halt x w1 => exact hst.elim
theorem ro_step {ops : Array Oper} {i : Nat} {o : Oper} {ro : RO} {st : St} {K : Act → World → Prop} {Q : Exit → Act → World → Prop} (hi : ops[i]? = some o) (hf : Fits P ops o ro)
    (hs : Sim w0 wr F0 st a w) (nr : ro.op.mk = true → NRs ro.nm st.t st.h) (hy : OutR (Can P) ro st y u) (hK : ∀ a' w', Sim w0 wr F0 (app ro y u st) a' w' → K a' w') :
    wpOp P ops Q i K a w := by
  obtain ⟨F, E, hs⟩ := hs
  obtain ⟨⟨slc, h1⟩, h2, h3⟩ := hf
  obtain ⟨t, h⟩ := st
  unfold wpOp
  simp only [hi]
  have key : (ro.eff (Can P) t (maskL ro.forb h) fun v' u' => v' = y ∧ u' = u) → o.wp P a w K Q := fun hy =>
    step_wp h2 (op_soundE hs (sub_mask _ _) nr h1 (roeff_op (Can P) hy).1) hK
  cases hg : o.guard with
  | none =>
    rw [hg] at h3
    simp only [cGuard, Option.some.injEq] at h3
    unfold OutR at hy
    rw [← h3] at hy
    have : Region.wanted o (yielded ops a.tmps) = true := by unfold Region.wanted; rw [hg]
    simp only [this, if_true]
    exact .inl (key hy)
  | some p =>
    obtain ⟨j, want⟩ := p
    rw [hg] at h3
    unfold cGuard at h3
    split at h3
    · simp at *
    · rename_i j' want' heq
      simp only [Option.some.injEq, Prod.mk.injEq] at heq
      obtain ⟨rfl, rfl⟩ := heq
      split at h3
      · rename_i g hj
        simp only [Option.some.injEq] at h3
        unfold OutR at hy
        rw [← h3] at hy
        dsimp only at hy
        rcases hy with ⟨hb, hy⟩ | ⟨hb, rfl, rfl⟩
        · obtain ⟨v, hv, hsv⟩ := tmp_of hs hb (by simp)
          have : v = .bool want := by cases hsv with | d h => cases h; rfl
          subst this
          have : Region.wanted o (yielded ops a.tmps) = true := by unfold Region.wanted yielded; simp [hg, hj, hv]
          simp only [this, if_true]
          exact .inl (key hy)
        · have : Region.wanted o (yielded ops a.tmps) = false := by
            rcases hb with hb | hb
            · obtain ⟨v, hv, hsv⟩ := tmp_of hs hb (by simp)
              have : v = .bool !want := by cases hsv with | d h => cases h; rfl
              subst this
              unfold Region.wanted yielded; simp [hg, hj, hv]
            · obtain ⟨v, hv, hsv⟩ := tmp_of hs hb (by simp)
              have : v = Go.undef := by cases hsv with | d h => cases h; rfl
              subst this
              unfold Region.wanted yielded; simp [hg, hj, hv, Go.undef]
          simp only [this, Bool.false_eq_true, if_false]
          refine hK _ _ ⟨F, E, ?_⟩
          have := hs.put ro.dst (y := .d .undef) (v := Go.undef) (.d .undef)
          rw [h2] at this
          simpa [app, updL, h2] using this
      · simp at h3
theorem seq_sound {ops : Array Oper} {ros : List RO} {K : St → Prop} {Q : Exit → Act → World → Prop} (hlen : ros.length = ops.size)
    (hfit : ∀ (j : Nat) (o : Oper) (ro : RO), ops[j]? = some o → ros[j]? = some ro → Fits P ops o ro) (hdis : distinctN (mkNames ros) = true) (hQ : ∀ st' a' w', K st' → Sim w0 wr F0 st' a' w' → Q .normal a' w') :
    ∀ (l : List RO) (k : Nat) (st : St) (a : Act) (w : World), (∀ j : Nat, l[j]? = ros[k + j]?) → k + l.length = ros.length → (∀ (j : Nat) (ro : RO), k ≤ j → ros[j]? = some ro → ro.op.mk = true → NRs ro.nm st.t st.h) →
      Sim w0 wr F0 st a w → exOps (Can P) l K st → wpOps P ops Q (List.range' k l.length) a w := by
  intro l
  induction l with
  | nil => intro k st a w _ _ _ hs hex; exact hQ st a w hex hs
  | cons ro l ih =>
    intro k st a w hl hk hnr hs hex
    have h0 : ros[k]? = some ro := by simpa using (hl 0).symm
    obtain ⟨v, u, hy, hK⟩ := (ex_iff (Can P) ro _ st).1 hex
    have hlt : k < ops.size := by rw [← hlen]; exact (List.getElem?_eq_some_iff.1 h0).1
    rw [List.length_cons, List.range'_succ, wpOps_cons]
    refine ro_step (Array.getElem?_eq_getElem hlt) (hfit k _ ro (Array.getElem?_eq_getElem hlt) h0) hs (fun hm => hnr k ro (Nat.le_refl _) h0 hm) hy fun a' w' hs' => ?_
    refine ih (k + 1) _ a' w' (fun j => by have := hl (j + 1); simpa [Nat.add_assoc, Nat.add_comm 1 j] using this) (by simp at hk; omega) (fun j rj hj hrj hm => ?_) hs' hK
    exact nrs_app (hnr j rj (by omega) hrj hm) (outR_nr (hnr j rj (by omega) hrj hm) (fun hm' => mkNames_inj hdis hrj h0 hm hm' (by omega)) hy)
theorem any_sound {ops : Array Oper} {ros : List RO} {md : Region.Mode} {K : St → Prop} {Q : Exit → Act → World → Prop}
    (hfit : ∀ (j : Nat) (o : Oper) (ro : RO), ops[j]? = some o → ros[j]? = some ro → Fits P ops o ro) (hdis : distinctN (mkNames ros) = true) (hQ : ∀ st' a' w', K st' → Sim w0 wr F0 st' a' w' → Q .normal a' w') :
    ∀ (fuel : Nat) (listed : Array Bool) (st : St) (a : Act) (w : World), (∀ (j : Nat) (ro : RO), listed.getD j true = false → ros[j]? = some ro → ro.op.mk = true → NRs ro.nm st.t st.h) →
      Sim w0 wr F0 st a w → anyX (Can P) md ops ros K fuel listed st → wpAny P md ops Q fuel listed a w := by
  intro fuel
  induction fuel with
  | zero => intro listed st a w _ hs h; exact ⟨h.1, hQ st a w h.2 hs⟩
  | succ fuel ih =>
    intro listed st a w hnr hs h
    refine ⟨fun e => hQ st a w (h.1 e) hs, fun i hi => ?_⟩
    obtain ⟨ro, hro, hex⟩ := h.2 i hi
    obtain ⟨v, u, hy, hK⟩ := (ex_iff (Can P) ro _ st).1 hex
    obtain ⟨hun, oo, hoo, _⟩ := mem_ready.1 hi
    refine ro_step hoo (hfit i _ ro hoo hro) hs (fun hm => hnr i ro hun hro hm) hy fun a' w' hs' => ?_
    refine ih _ _ a' w' (fun j rj hj hrj hm => ?_) hs' hK
    have hji : i ≠ j := by
      rintro rfl
      rcases Nat.lt_or_ge i listed.size with h' | h'
      · simp [Array.getD, h'] at hj
      · simp [Array.getD, Nat.not_lt.2 h'] at hun
    have hj' : listed.getD j true = false := by rw [getD_set_ne true hji] at hj; exact hj
    exact nrs_app (hnr j rj hj' hrj hm) (outR_nr (hnr j rj hj' hrj hm) (fun hm' => mkNames_inj hdis hrj hro hm hm' (Ne.symm hji)) hy)
theorem Sim.drawn {st : St} (hs : Sim w0 wr F0 st a w) (n : Nat) : Sim w0 wr F0 st a { w with drawn := n } := by
  obtain ⟨F, E, hs⟩ := hs
  have h1 : SameOn F w { w with drawn := n } := fun k _ => rfl
  have h2 : Sizes w { w with drawn := n } := fun k c T fz hk => ⟨c, T, fz, hk, rfl⟩
  refine ⟨F, E, hs.len, fun i x v hx hv => (hs.tmps i x v hx hv).mono (fun _ h => h) h1 h2, fun b c hc => ?_, hs.excl, hs.own, hs.inn, hs.fin, hs.orig, ⟨hs.frame.os, hs.frame.tape, hs.frame.output, hs.frame.size, hs.frame.block, hs.frame.sizes⟩, hs.defers, hs.pin⟩
  exact (hs.heap b c hc).mono (fun _ h => h) h1 h2 (fun k o _ _ hn _ => ⟨hn, rfl⟩) (fun _ _ _ _ _ k _ _ _ _ hn _ => ⟨hn, rfl⟩)
theorem mkNames_erase : ∀ ros : List RO, mkNames (ros.map RO.erase) = mkNames ros
  | [] => rfl
  | o :: r => by simp only [List.map_cons, mkNames, RO.erase, erase_mk, mkNames_erase r]
theorem cOp_erase {slc : Bool} {op : Op} {X : XOp} (h : cOp P slc op = some X) : X.erase = X := by
  cases X
  case callM f x args =>
    exfalso
    exact cOp_noM h
  case bsliceD sz ps =>
    exfalso
    exact cOp_noD h
  all_goals rfl
theorem reg_sound {nt id : Nat} {ops : Array Oper} {draw : Bool} {A : List Nat} {ros rosC : List RO} {st : St} {K : St → Prop} {Q : Exit → Act → World → Prop} (hc : cReg P nt ops draw = some (A, rosC)) (her : rosC = if draw then ros else ros.map RO.erase)
    (hs : Sim w0 wr F0 st a w) (hk : killStK A st (exOps (Can P) ros K)) (hQ : ∀ st' a' w', K st' → Sim w0 wr F0 st' a' w' → Q .normal a' w') : (Code.region id ops draw).wp P Q a w := by
  obtain ⟨st1, hex, hst⟩ := killStK_spec hk
  have hs1 : Sim w0 wr F0 st1 a w := by
    rcases hst with rfl | ⟨_, rfl⟩
    · obtain ⟨F, E, hs⟩ := hs
      exact ⟨F, E, hs.kill A⟩
    · exact hs
  have hnr0 : ∀ b ∈ A, b ≠ 0 → NRs b st1.t st1.h := by
    rcases hst with rfl | ⟨rfl, _⟩
    · exact fun b hb h0 => killSt_nr hb h0 st
    · simp
  unfold cReg at hc
  split at hc
  case h_2 => simp at hc
  rename_i ros0 h0
  obtain ⟨g1, g2⟩ := cROs_spec h0
  have hpos : ∀ b ∈ mkNames ros0, b ≠ 0 := mkNames_pos fun j ro hj => by
    have hlt : j < ops.toList.length := by rw [← g1]; exact (List.getElem?_eq_some_iff.1 hj).1
    exact (g2 j _ ro (List.getElem?_eq_getElem hlt) hj).2.2.2
  split at hc
  case isFalse => simp at hc
  rename_i hdis
  split at hc
  · rename_i hdraw
    subst hdraw
    simp only [if_true] at her
    subst her
    dsimp only at hc
    have han : Before .any ops (ancs .any ops.toList []) := ancs_spec _ _ (fun j => by simp) (fun k l h => by simp at h)
    have main : ∀ ros1 : List RO, ros1 = rosC → mkNames ros0 = A → ros1.length = ros0.length → (∀ (j : Nat) (x : RO), ros1[j]? = some x → ∃ y : RO, ros0[j]? = some y ∧ x.dst = y.dst ∧ (y.op.mk = true → x.nm = y.nm) ∧ x.op = y.op ∧ x.guard = y.guard) →
        (P.follows .mixedOrders && lexX .any ops (ancs .any ops.toList []) ros1 0 ros1 (Array.replicate ops.size false)) = true → (Code.region id ops true).wp P Q a w := by
      intro ros1 e1 e2 f1 f2 hl
      subst e1
      subst e2
      simp only [Bool.and_eq_true] at hl
      obtain ⟨hm, hlex⟩ := hl
      have hmk : mkNames ros1 = mkNames ros0 := by
        have : ∀ (xs ys : List RO), xs.length = ys.length → (∀ (j : Nat) (x : RO), xs[j]? = some x → ∃ y : RO, ys[j]? = some y ∧ (y.op.mk = true → x.nm = y.nm) ∧ x.op = y.op) → mkNames xs = mkNames ys := by
          intro xs
          induction xs with
          | nil => intro ys hl _; cases ys with | nil => rfl | cons y ys => simp at hl
          | cons x xs ih =>
            intro ys hl hh
            cases ys with
            | nil => simp at hl
            | cons y ys =>
              obtain ⟨y', e1, e2, e3⟩ := hh 0 x rfl
              simp only [List.getElem?_cons_zero, Option.some.injEq] at e1; subst e1
              have := ih ys (by simpa using hl) fun j x hx => by simpa using hh (j + 1) x (by simpa using hx)
              simp only [mkNames, e3, this]
              split
              · rename_i e; rw [e2 e]
              · rfl
        exact this _ _ f1 fun j x hx => by obtain ⟨y, e1, e2, e3, e4, e5⟩ := f2 j x hx; exact ⟨y, e1, e3, e4⟩
      refine wp_region_any hm ?_
      have hz : ops.size = ros1.length := by rw [f1, g1]; simp
      rw [show wpAny P .any ops Q ops.size (Array.replicate ops.size false) a _ = wpAny P .any ops Q ros1.length (Array.replicate ops.size false) a _ from by rw [hz]]
      have hnr : ∀ b ∈ mkNames ros0, NRs b st1.t st1.h := fun b hb => hnr0 b hb (hpos b hb)
      have hdown : Down .any ops (Array.replicate ops.size false) := fun k o ho hk => by
        have hlt : k < ops.size := (Array.getElem?_eq_some_iff.1 ho).1
        simp [Array.getD, hlt] at hk
      refine any_sound (ros := ros1) (fun j o ro hj hj' => ?_) (by rw [hmk]; exact hdis) hQ _ _ st1 a _ (fun j ro _ hj hm => hnr _ (by rw [← hmk]; exact mkNames_mem hj hm)) (hs1.drawn _)
        (anyX_lex (Can P) han _ 0 _ st1 (fun j => by simp) hdown hlex hex)
      obtain ⟨ro', e1, e2, e3, e4, e5⟩ := f2 j ro hj'
      obtain ⟨⟨slc, k1⟩, k2, k3, _⟩ := g2 j o ro' (by simpa using hj) e1
      exact ⟨⟨slc, by rw [e4, cOp_erase k1]; exact k1⟩, by rw [e2]; exact k2, by rw [e5]; exact k3⟩
    obtain ⟨f1, f2⟩ := addForb_spec (s := false) (an := ancs .any ops.toList []) (all := ros0) (xs := ros0) (i := 0)
    obtain ⟨f3, f4⟩ := addForb_spec (s := true) (an := ancs .any ops.toList []) (all := ros0) (xs := ros0) (i := 0)
    split at hc
    · rename_i hl
      simp only [Option.some.injEq, Prod.mk.injEq] at hc
      exact main _ hc.2 hc.1 f1 f2 hl
    · split at hc
      · rename_i hl
        simp only [Option.some.injEq, Prod.mk.injEq] at hc
        exact main _ hc.2 hc.1 f3 f4 hl
      · simp at hc
  · rename_i hdraw
    have : draw = false := by simpa using hdraw
    subst this
    simp only [Option.some.injEq, Prod.mk.injEq] at hc
    obtain ⟨rfl, rfl⟩ := hc
    simp only [Bool.false_eq_true, if_false] at her
    subst her
    have hz : ros.length = ops.size := by rw [List.length_map] at g1; rw [g1]; simp
    have hnr : ∀ b ∈ mkNames (ros.map RO.erase), NRs b st1.t st1.h := fun b hb => hnr0 b hb (hpos b hb)
    rw [mkNames_erase] at hdis hnr
    have g3 : ∀ (j : Nat) (o : Oper) (ro : RO), ops[j]? = some o → ros[j]? = some ro → Fits P ops o ro := fun j o ro hj hj' => by
      have := g2 j o ro.erase (by simpa using hj) (by simp [hj'])
      exact ⟨this.1, this.2.1, this.2.2.1⟩
    refine wp_region ?_
    rw [List.range_eq_range', ← hz]
    exact seq_sound hz g3 hdis hQ ros 0 st1 a w (fun j => by simp) (by simp) (fun j ro _ hj hm => hnr _ (mkNames_mem hj hm)) hs1 hex
def RO.bare (o : RO) : RO := { o with op := o.op.erase, forb := [], tgt := none }
theorem regD_sound {nt id : Nat} {ops : Array Oper} {A : List Nat} {ros rosC : List RO} {st : St} {K : St → Prop} {Q : Exit → Act → World → Prop} (hc : cReg P nt ops true = some (A, rosC)) (hb : ros.map RO.bare = rosC.map RO.bare)
    (hm : P.follows .mixedOrders = true) (hlex : lexX .any ops (ancs .any ops.toList []) ros 0 ros (Array.replicate ops.size false) = true)
    (hs : Sim w0 wr F0 st a w) (hk : killStK A st (exOps (Can P) ros K)) (hQ : ∀ st' a' w', K st' → Sim w0 wr F0 st' a' w' → Q .normal a' w') : (Code.region id ops true).wp P Q a w := by
  obtain ⟨st1, hex, hst⟩ := killStK_spec hk
  have hs1 : Sim w0 wr F0 st1 a w := by
    rcases hst with rfl | ⟨_, rfl⟩
    · obtain ⟨F, E, hs⟩ := hs
      exact ⟨F, E, hs.kill A⟩
    · exact hs
  have hnr0 : ∀ b ∈ A, b ≠ 0 → NRs b st1.t st1.h := by
    rcases hst with rfl | ⟨rfl, _⟩
    · exact fun b hb h0 => killSt_nr hb h0 st
    · simp
  unfold cReg at hc
  split at hc
  case h_2 => simp at hc
  rename_i ros0 h0
  obtain ⟨g1, g2⟩ := cROs_spec h0
  have hpos : ∀ b ∈ mkNames ros0, b ≠ 0 := mkNames_pos fun j ro hj => by
    have hlt : j < ops.toList.length := by rw [← g1]; exact (List.getElem?_eq_some_iff.1 hj).1
    exact (g2 j _ ro (List.getElem?_eq_getElem hlt) hj).2.2.2
  split at hc
  case isFalse => simp at hc
  rename_i hdis
  simp only [if_true] at hc
  have han : Before .any ops (ancs .any ops.toList []) := ancs_spec _ _ (fun j => by simp) (fun k l h => by simp at h)
  have main : ∀ rosD : List RO, rosD = rosC → mkNames ros0 = A → rosD.length = ros0.length → (∀ (j : Nat) (x : RO), rosD[j]? = some x → ∃ y : RO, ros0[j]? = some y ∧ x.dst = y.dst ∧ (y.op.mk = true → x.nm = y.nm) ∧ x.op = y.op ∧ x.guard = y.guard) →
      (Code.region id ops true).wp P Q a w := by
    intro rosD e1 e2 f1 f2
    subst e1
    subst e2
    have hlen : ros.length = ros0.length := by have := congrArg List.length hb; rw [List.length_map, List.length_map] at this; rw [this, f1]
    have f3 : ∀ (j : Nat) (x : RO), ros[j]? = some x → ∃ y : RO, ros0[j]? = some y ∧ x.dst = y.dst ∧ (y.op.mk = true → x.nm = y.nm) ∧ x.op.erase = y.op ∧ x.guard = y.guard := fun j x hx => by
      have hlt : j < rosD.length := by rw [f1, ← hlen]; exact (List.getElem?_eq_some_iff.1 hx).1
      have hz : rosD[j]? = some rosD[j] := List.getElem?_eq_getElem hlt
      obtain ⟨y, e1, e2, e3, e4, e5⟩ := f2 j _ hz
      have hbj : x.bare = (rosD[j]).bare := by
        have := congrArg (fun l => l[j]?) hb
        simpa [hx, hz] using this
      have hj0 : ops.toList[j]? = some (ops.toList[j]'(by rw [← g1, ← f1]; exact hlt)) := List.getElem?_eq_getElem _
      obtain ⟨⟨slc, k1⟩, _⟩ := g2 j _ y hj0 e1
      have b1 : x.bare.dst = (rosD[j]).bare.dst := congrArg RO.dst hbj
      have b2 : x.bare.nm = (rosD[j]).bare.nm := congrArg RO.nm hbj
      have b3 : x.op.erase = (rosD[j]).op.erase := congrArg RO.op hbj
      have b4 : x.bare.guard = (rosD[j]).bare.guard := congrArg RO.guard hbj
      exact ⟨y, e1, b1.trans e2, fun h => b2.trans (e3 h), by rw [b3, e4, cOp_erase k1], b4.trans e5⟩
    have hmk : mkNames ros = mkNames ros0 := by
      have : ∀ (xs ys : List RO), xs.length = ys.length → (∀ (j : Nat) (x : RO), xs[j]? = some x → ∃ y : RO, ys[j]? = some y ∧ (y.op.mk = true → x.nm = y.nm) ∧ x.op.erase = y.op) → mkNames xs = mkNames ys := by
        intro xs
        induction xs with
        | nil => intro ys hl _; cases ys with | nil => rfl | cons y ys => simp at hl
        | cons x xs ih =>
          intro ys hl hh
          cases ys with
          | nil => simp at hl
          | cons y ys =>
            obtain ⟨y', e1, e2, e3⟩ := hh 0 x rfl
            simp only [List.getElem?_cons_zero, Option.some.injEq] at e1; subst e1
            have := ih ys (by simpa using hl) fun j x hx => by simpa using hh (j + 1) x (by simpa using hx)
            have hmm : x.op.mk = y.op.mk := by rw [← e3, erase_mk]
            simp only [mkNames, hmm, this]
            split
            · rename_i e; rw [e2 e]
            · rfl
      exact this _ _ hlen fun j x hx => by obtain ⟨y, e1, e2, e3, e4, e5⟩ := f3 j x hx; exact ⟨y, e1, e3, e4⟩
    refine wp_region_any hm ?_
    have hz : ops.size = ros.length := by rw [hlen, g1]; simp
    rw [show wpAny P .any ops Q ops.size (Array.replicate ops.size false) a _ = wpAny P .any ops Q ros.length (Array.replicate ops.size false) a _ from by rw [hz]]
    have hnr : ∀ b ∈ mkNames ros0, NRs b st1.t st1.h := fun b hb => hnr0 b hb (hpos b hb)
    have hdown : Down .any ops (Array.replicate ops.size false) := fun k o ho hk => by
      have hlt : k < ops.size := (Array.getElem?_eq_some_iff.1 ho).1
      simp [Array.getD, hlt] at hk
    refine any_sound (ros := ros) (fun j o ro hj hj' => ?_) (by rw [hmk]; exact hdis) hQ _ _ st1 a _ (fun j ro _ hj hm => hnr _ (by rw [← hmk]; exact mkNames_mem hj hm)) (hs1.drawn _)
      (anyX_lex (Can P) han _ 0 _ st1 (fun j => by simp) hdown hlex hex)
    obtain ⟨ro', e1, e2, e3, e4, e5⟩ := f3 j ro hj'
    obtain ⟨⟨slc, k1⟩, k2, k3, _⟩ := g2 j o ro' (by simpa using hj) e1
    exact ⟨⟨slc, by rw [e4]; exact k1⟩, by rw [e2]; exact k2, by rw [e5]; exact k3⟩
  obtain ⟨f1, f2⟩ := addForb_spec (s := false) (an := ancs .any ops.toList []) (all := ros0) (xs := ros0) (i := 0)
  obtain ⟨f3, f4⟩ := addForb_spec (s := true) (an := ancs .any ops.toList []) (all := ros0) (xs := ros0) (i := 0)
  split at hc
  · simp only [Option.some.injEq, Prod.mk.injEq] at hc
    exact main _ hc.2 hc.1 f1 f2
  · split at hc
    · simp only [Option.some.injEq, Prod.mk.injEq] at hc
      exact main _ hc.2 hc.1 f3 f4
    · simp at hc
end
end Go.X
namespace Go.X
open Go Go.RowKit
inductive IR where
  | skip
  | reg (draw : Bool) (A : List Nat) (ros : List RO)
  | seq (x y : IR)
  | cond (c : Opd) (x y : IR)
  | block (id : Nat) (x : IR)
  | loop (x : IR)
  | exit (id : Nat)
  | ret
  | gh (g : Gh) (x : IR)
  | ga (g : Gh) (x : IR)
  | cut (x : IR)
  | drawM (A : List Nat) (rosC ros : List RO)
def IR.erase : IR → IR
  | .reg d A ros => .reg d A (if d then ros else ros.map RO.erase)
  | .seq x y => .seq x.erase y.erase
  | .cond c x y => .cond c x.erase y.erase
  | .block id x => .block id x.erase
  | .loop x => .loop x.erase
  | .gh _ x => x.erase
  | .ga _ x => x.erase
  | .cut x => x.erase
  | .drawM A rosC _ => .reg true A rosC
  | x => x
def IR.noFrz : IR → Bool
  | .seq x y => x.noFrz && y.noFrz
  | .cond _ x y => x.noFrz && y.noFrz
  | .block _ x => x.noFrz
  | .loop x => x.noFrz
  | .gh g x => g.noFrz && x.noFrz
  | .ga g x => g.noFrz && x.noFrz
  | .cut x => x.noFrz
  | _ => true
def cCode (P : Program) (nt : Nat) : Code → Option IR
  | .skip => some .skip
  | .region _ ops draw => match cReg P nt ops draw with
    | some (A, ros) => some (.reg draw A ros)
    | none => none
  | .seq x y => match cCode P nt x, cCode P nt y with
    | some X, some Y => some (.seq X Y)
    | _, _ => none
  | .cond c x y => match cOpd c, cCode P nt x, cCode P nt y with
    | some C, some X, some Y => some (.cond C X Y)
    | _, _, _ => none
  | .block id x => match cCode P nt x with
    | some X => some (.block id X)
    | none => none
  | .loop x => match cCode P nt x with
    | some X => some (.loop X)
    | none => none
  | .exit id => some (.exit id)
  | .ret => some .ret
  | _ => none
def lookX (id : Nat) : List (Nat × (St → Prop)) → St → Prop
  | [], _ => False
  | (i, N) :: r, st => match Nat.beq id i with
    | true => N st
    | false => lookX id r st
inductive LoopEx (body : (St → Prop) → St → Prop) (st : St) : Prop
  | intro (I : Nat → St → Prop) (h0 : ∃ n s, LeS st s ∧ I n s) (h : ∀ n s, I n s → body (fun s' => ∃ m s'', m < n ∧ LeS s' s'' ∧ I m s'') s) : LoopEx body st
inductive CutEx (body : (St → Prop) → St → Prop) (N : St → Prop) (st : St) : Prop
  | intro (s0 : St) (h : N s0) (hG : ∀ K : St → Prop, K s0 → body (fun s' => ∃ s'', LeS s' s'' ∧ K s'') st) : CutEx body N st
section
variable (Can : FuncId → List D → Res → Prop)
def IR.ex : IR → (St → Prop) → (St → Prop) → List (Nat × (St → Prop)) → St → Prop
  | .skip, N, _, _, st => N st
  | .reg _ A ros, N, _, _, st => killStK A st (exOps Can ros N)
  | .seq x y, N, R, X, st => x.ex (y.ex N R X) R X st
  | .cond c x y, N, R, X, st => match c.ev st.t with
    | .d (.bool b) => (b = true → x.ex N R X st) ∧ (b = false → y.ex N R X st)
    | _ => False
  | .block id x, N, R, X, st => x.ex N R ((id, N) :: X) st
  | .loop x, _, R, X, st => LoopEx (fun N' s => x.ex N' R X s) st
  | .exit id, _, _, X, st => lookX id X st
  | .ret, _, R, _, st => R st
  | .gh g x, N, R, X, st => g.exK st (x.ex N R X)
  | .ga g x, N, R, X, st => x.ex (fun st' => g.exK st' N) R X st
  | .cut x, N, R, X, st => CutEx (fun N' s => x.ex N' R X s) N st
  | .drawM A _ ros, N, _, _, st => killStK A st (exOps Can ros N)
end
theorem least {p : Nat → Prop} (h : ∃ n, p n) : ∃ n, p n ∧ ∀ m, p m → n ≤ m := by
  obtain ⟨n, hn⟩ := h
  induction n using Nat.strongRecOn with
  | _ n ih =>
    by_cases hl : ∃ m, m < n ∧ p m
    · obtain ⟨m, h1, h2⟩ := hl; exact ih m h1 h2
    · exact ⟨n, hn, fun m hm => Nat.le_of_not_lt fun hlt => hl ⟨m, hlt, hm⟩⟩
section
variable {P : Program} {w0 : World} {wr : Wr} {F0 F : Nat → Prop} {E : Env} {t : List AV} {h hm : List Chunk} {a : Act} {w w' : World} {nm : Nat} {y : AV} {u : List (Nat × Chunk)}
abbrev No : Nat → Prop := fun _ => False
abbrev NoW : Wr := ⟨No, 0, True⟩
def DrawOK (P : Program) : IR → Code → Prop
  | .gh _ x, c => DrawOK P x c
  | .ga _ x, c => DrawOK P x c
  | .cut x, c => DrawOK P x c
  | .drawM _ rosC ros, c => match c with
    | .region _ ops _ => P.follows .mixedOrders = true ∧ lexX .any ops (ancs .any ops.toList []) ros 0 ros (Array.replicate ops.size false) = true ∧ ros.map RO.bare = rosC.map RO.bare
    | _ => True
  | .seq X Y, c => match c with
    | .seq x y => DrawOK P X x ∧ DrawOK P Y y
    | _ => True
  | .cond _ X Y, c => match c with
    | .cond _ x y => DrawOK P X x ∧ DrawOK P Y y
    | _ => True
  | .block _ X, c => match c with
    | .block _ x => DrawOK P X x
    | _ => True
  | .loop X, c => match c with
    | .loop x => DrawOK P X x
    | _ => True
  | _, _ => True
theorem ex_sound {nt : Nat} : ∀ (ir : IR) (c : Code) (N R : St → Prop) (X : List (Nat × (St → Prop))) (Q : Exit → Act → World → Prop) (st : St) (a : Act) (w : World), ((∀ k, ¬ wr k) ∨ ir.noFrz = true) → cCode P nt c = some ir.erase → DrawOK P ir c →
    (∀ st a w, N st → Sim w0 wr F0 st a w → Q .normal a w) → (∀ st a w, R st → Sim w0 wr F0 st a w → Q .ret a w) → (∀ id st a w, lookX id X st → Sim w0 wr F0 st a w → Q (.exit id) a w) →
    Sim w0 wr F0 st a w → ir.ex (Can P) N R X st → c.wp P Q a w := by
  intro ir
  induction ir with
  | skip =>
    intro c N R X Q st a w hw hc hd hN hR hX hs hex
    cases c <;> simp only [cCode, IR.erase] at hc <;> try (first | cases hc | (split at hc <;> cases hc))
    exact wp_skip (hN _ _ _ hex hs)
  | reg draw A ros =>
    intro c N R X Q st a w hw hc hd hN hR hX hs hex
    cases c <;> simp only [cCode, IR.erase] at hc
    case region id ops dr =>
      split at hc
      · rename_i A' ros' h1
        simp only [Option.some.injEq, IR.reg.injEq] at hc
        obtain ⟨rfl, rfl, rfl⟩ := hc
        exact reg_sound h1 rfl hs hex hN
      · cases hc
    all_goals first | cases hc | (split at hc <;> cases hc)
  | seq x y ihx ihy =>
    intro c N R X Q st a w hw hc hd hN hR hX hs hex
    cases c <;> simp only [cCode, IR.erase] at hc
    case seq cx cy =>
      split at hc
      · rename_i x' y' h1 h2
        simp only [Option.some.injEq, IR.seq.injEq] at hc
        obtain ⟨rfl, rfl⟩ := hc
        have hd' : DrawOK P x cx ∧ DrawOK P y cy := hd
        exact wp_seq (ihx cx _ R X _ st a w (hw.imp id fun h => (Bool.and_eq_true _ _ ▸ h).1) h1 hd'.1 (fun st a w hn hs => ihy cy N R X Q st a w (hw.imp id fun h => (Bool.and_eq_true _ _ ▸ h).2) h2 hd'.2 hN hR hX hs hn) hR hX hs hex)
      · cases hc
    all_goals first | cases hc | (split at hc <;> cases hc)
  | cond o x y ihx ihy =>
    intro c N R X Q st a w hw hc hd hN hR hX hs hex
    cases c <;> simp only [cCode, IR.erase] at hc
    case cond co cx cy =>
      split at hc
      · rename_i o' x' y' h0 h1 h2
        simp only [Option.some.injEq, IR.cond.injEq] at hc
        obtain ⟨rfl, rfl, rfl⟩ := hc
        simp only [IR.ex] at hex
        split at hex
        · rename_i b hb
          have hb' : a.eval co = .bool b := by
            obtain ⟨F, E, hs⟩ := hs
            have := ev_sound hs h0
            rw [hb] at this
            generalize a.eval co = v at this
            cases this with | d hd => cases hd; rfl
          have hd' : DrawOK P x cx ∧ DrawOK P y cy := hd
          exact wp_cond_split hb' (fun e => ihx cx N R X Q st a w (hw.imp id fun h => (Bool.and_eq_true _ _ ▸ h).1) h1 hd'.1 hN hR hX hs (hex.1 e)) (fun e => ihy cy N R X Q st a w (hw.imp id fun h => (Bool.and_eq_true _ _ ▸ h).2) h2 hd'.2 hN hR hX hs (hex.2 e))
        · exact hex.elim
      · cases hc
    all_goals first | cases hc | (split at hc <;> cases hc)
  | block id x ih =>
    intro c N R X Q st a w hw hc hd hN hR hX hs hex
    cases c <;> simp only [cCode, IR.erase] at hc
    case block id' cx =>
      split at hc
      · rename_i x' h1
        simp only [Option.some.injEq, IR.block.injEq] at hc
        obtain ⟨rfl, rfl⟩ := hc
        refine wp_block (ih cx N R _ _ st a w hw h1 hd hN hR (fun id st a w hl hs => ?_) hs hex)
        unfold lookX at hl
        simp only [Exit.inBlock]
        split at hl
        · rename_i e; have := beq_t e; subst this; simp only [if_true]; exact hN _ _ _ hl hs
        · rename_i e; rw [if_neg (beq_f e)]; exact hX _ _ _ _ hl hs
      · cases hc
    all_goals first | cases hc | (split at hc <;> cases hc)
  | loop x ih =>
    intro c N R X Q st a w hw hc hd hN hR hX hs hex
    cases c <;> simp only [cCode, IR.erase] at hc
    case loop cx =>
      split at hc
      · rename_i x' h1
        simp only [Option.some.injEq, IR.loop.injEq] at hc
        subst hc
        obtain ⟨I, ⟨n, s, hle, hI⟩, hround⟩ := hex
        have weak : ∀ {st s : St} {a w}, Sim w0 wr F0 st a w → LeS st s → Sim w0 wr F0 s a w := fun ⟨F, E, hs⟩ hle => ⟨F, E, hs.le hle⟩
        let p : Act → World → Nat → Prop := fun a w n => ∃ s, I n s ∧ Sim w0 wr F0 s a w
        let μ : Act → World → Nat := fun a w => Classical.epsilon fun n => p a w n ∧ ∀ m, p a w m → n ≤ m
        have hμ : ∀ a w, (∃ n, p a w n) → p a w (μ a w) ∧ ∀ m, p a w m → μ a w ≤ m := fun a w he => Classical.epsilon_spec (p := fun n => p a w n ∧ ∀ m, p a w m → n ≤ m) (least he)
        refine wp_loop (fun a w => ∃ n, p a w n) μ ⟨n, s, hI, weak hs hle⟩ fun a w he => ?_
        obtain ⟨⟨s, hI, hs⟩, hmin⟩ := hμ a w he
        refine ih cx _ R X _ s a w hw h1 hd (fun st a w hn hs => ?_) hR hX hs (hround _ s hI)
        obtain ⟨m, s'', hlt, hle, hI'⟩ := hn
        have he' : ∃ n, p a w n := ⟨m, s'', hI', weak hs hle⟩
        exact ⟨he', Nat.lt_of_le_of_lt ((hμ a w he').2 m ⟨s'', hI', weak hs hle⟩) hlt⟩
      · cases hc
    all_goals first | cases hc | (split at hc <;> cases hc)
  | exit id =>
    intro c N R X Q st a w hw hc hd hN hR hX hs hex
    cases c <;> simp only [cCode, IR.erase] at hc
    case exit id' =>
      simp only [Option.some.injEq, IR.exit.injEq] at hc
      subst hc
      exact wp_exit (hX _ _ _ _ hex hs)
    all_goals first | cases hc | (split at hc <;> cases hc)
  | ret =>
    intro c N R X Q st a w hw hc hd hN hR hX hs hex
    cases c <;> simp only [cCode, IR.erase] at hc
    case ret => exact wp_ret (hR _ _ _ hex hs)
    all_goals first | cases hc | (split at hc <;> cases hc)
  | gh g x ih =>
    intro c N R X Q st a w hw hc hd hN hR hX hs hex
    obtain ⟨st', h1, h2⟩ := gh_sound g (hw.imp id fun h => (Bool.and_eq_true _ _ ▸ h).1) hs hex
    exact ih c N R X Q st' a w (hw.imp id fun h => (Bool.and_eq_true _ _ ▸ h).2) hc hd hN hR hX h2 h1
  | ga g x ih =>
    intro c N R X Q st a w hw hc hd hN hR hX hs hex
    refine ih c _ R X Q st a w (hw.imp id fun h => (Bool.and_eq_true _ _ ▸ h).2) hc hd (fun st a w hn hs => ?_) hR hX hs hex
    obtain ⟨st', h1, h2⟩ := gh_sound g (hw.imp id fun h => (Bool.and_eq_true _ _ ▸ h).1) hs hn
    exact hN _ _ _ h1 h2
  | cut x ih =>
    intro c N R X Q st a w hw hc hd hN hR hX hs hex
    obtain ⟨s0, h, hG⟩ := hex
    have weak : ∀ {st s : St} {a w}, Sim w0 wr F0 st a w → LeS st s → Sim w0 wr F0 s a w := fun ⟨F, E, hs⟩ hle => ⟨F, E, hs.le hle⟩
    refine ih c _ R X Q st a w hw hc hd (fun st a w hn hs => ?_) hR hX hs (hG N h)
    obtain ⟨s'', hle, hn'⟩ := hn
    exact hN _ _ _ hn' (weak hs hle)
  | drawM A rosC ros =>
    intro c N R X Q st a w hw hc hd hN hR hX hs hex
    cases c <;> simp only [cCode, IR.erase] at hc
    case region id ops dr =>
      split at hc
      · rename_i A' ros' h1
        simp only [Option.some.injEq, IR.reg.injEq] at hc
        obtain ⟨rfl, rfl, rfl⟩ := hc
        obtain ⟨d1, d2, d3⟩ := (show P.follows .mixedOrders = true ∧ lexX .any ops (ancs .any ops.toList []) ros 0 ros (Array.replicate ops.size false) = true ∧ ros.map RO.bare = ros'.map RO.bare from hd)
        exact regD_sound h1 d3 d1 d2 hs hex hN
      · cases hc
    all_goals first | cases hc | (split at hc <;> cases hc)
theorem run_lv_one {T : TypeId} (hT : tAgg P T = some false) {k q : Nat} {v : Value} (hc : w.cell? ⟨k, q, none⟩ = some v) : (loadVar T ⟨k, q, none⟩).run P w = .ok v w := by
  simp [loadVar, run_isAgg hT, hc]
theorem run_lv_agg {T : TypeId} {n : Nat} (hT : grp P T = some (some n)) {k q : Nat} {cs : List Value} (hlen : cs.length = n) (hc : w.rangeAt k q cs) : (loadVar T ⟨k, q, none⟩).run P w = .ok (.agg cs.toArray) w := by
  obtain ⟨h1, h2⟩ := grp_some hT
  have hl : (loadCells ⟨k, q, none⟩ n).run P w = .ok cs.toArray w := by
    rw [← hlen]
    exact run_loadCells_list (P := P) w ⟨k, q, none⟩ cs (fun j v hv => by rw [Addr.add_mid]; exact hc j v hv)
  simp [loadVar, run_isAgg h1, run_sizeOf h2, hl]
theorem ld_sound {wr : Wr} (hs : SimAt w0 wr F0 F E ⟨t, h⟩ a w) (hsub : Sub hm h) {x : Operand} {X : Opd} (hx : cOpd x = some X) {T : TypeId} {g : Option Nat} (hT : grp P T = some g)
    (hy : Y P (.load g X) nm t hm y u) : ∃ k q v, a.eval x = .pointer (some ⟨k, q, none⟩) ∧ (loadVar T ⟨k, q, none⟩).run P w = .ok v w ∧ SeesA w F E y v := by
  simp only [Y, XOp.eff] at hy
  have hxs := ev_sound hs hx
  cases g with
  | none =>
    obtain ⟨hT1, hT2⟩ := grp_none hT
    simp only [rd] at hy
    split at hy
    · rename_i sz l e off e1
      rw [e1] at hxs
      obtain ⟨d, hd, rfl, rfl⟩ := hy
      obtain ⟨k, q, vals, hv, hF, hl⟩ := seesA_pd hxs
      obtain ⟨g1, g2, g3⟩ := hl.get hd
      exact ⟨_, _, _, hv, run_lv_one hT1 g1, .d g3⟩
    · rename_i b sz e off e1
      rw [e1] at hxs
      obtain ⟨k, q, hv, hloc⟩ := seesA_ptr hxs
      split at hy
      · rename_i sz' l hc
        obtain ⟨rfl, d, hd, rfl, rfl⟩ := hy
        obtain ⟨vals, hl, _⟩ := laid_chunk (hs.heap _ _ (sub_get hsub hc trivial)) hloc
        obtain ⟨g1, g2, g3⟩ := hl.get hd
        exact ⟨_, _, _, hv, run_lv_one hT1 g1, .d g3⟩
      · rename_i cs hc
        obtain ⟨rfl, d, hd, rfl, rfl⟩ := hy
        obtain ⟨vals, _, h1, h2, _⟩ := chunk_mix (hs.heap _ _ (sub_get hsub hc trivial)) hloc
        have hlt := (List.getElem?_eq_some_iff.1 hd).1
        simp only [Nat.zero_mul, Nat.add_zero] at hv
        exact ⟨_, _, _, hv, run_lv_one hT1 (h1 off hlt).1, h2 off d hd⟩
      · exact hy.elim
    · exact hy.elim
  | some n =>
    simp only [rd] at hy
    split at hy
    · rename_i sz l e off e1
      rw [e1] at hxs
      obtain ⟨cs, hd, rfl, rfl⟩ := hy
      obtain ⟨k, q, vals, hv, hF, hl⟩ := seesA_pd hxs
      obtain ⟨g1, g2, g3, g4⟩ := hl.sub hd
      obtain ⟨r1, r2⟩ := laid_agg g1 g3 g4
      exact ⟨_, _, _, hv, run_lv_agg hT (by simp) r1, .d r2⟩
    · rename_i b sz e off e1
      rw [e1] at hxs
      obtain ⟨k, q, hv, hloc⟩ := seesA_ptr hxs
      split at hy
      · rename_i sz' l hc
        obtain ⟨rfl, cs, hd, rfl, rfl⟩ := hy
        obtain ⟨vals, hl, _⟩ := laid_chunk (hs.heap _ _ (sub_get hsub hc trivial)) hloc
        obtain ⟨g1, g2, g3, g4⟩ := hl.sub hd
        obtain ⟨r1, r2⟩ := laid_agg g1 g3 g4
        exact ⟨_, _, _, hv, run_lv_agg hT (by simp) r1, .d r2⟩
      · rename_i cs hc
        obtain ⟨rfl, hlen, rfl, rfl⟩ := hy
        obtain ⟨vals, _, h1, h2, _⟩ := chunk_mix (hs.heap _ _ (sub_get hsub hc trivial)) hloc
        simp only [Nat.zero_mul, Nat.add_zero] at hv
        have hr : w.rangeAt k (q + off) ((List.range n).map fun j => vals (off + j)) := by
          intro j v hv
          simp only [List.getElem?_map, Option.map_eq_some_iff] at hv
          obtain ⟨m, hm', rfl⟩ := hv
          have hj := (List.getElem?_eq_some_iff.1 hm').1
          simp at hj
          rw [List.getElem?_range hj] at hm'
          simp only [Option.some.injEq] at hm'; subst hm'
          have := (h1 (off + j) (by omega)).1
          rwa [Nat.add_assoc]
        refine ⟨_, _, _, hv, run_lv_agg hT (by simp) hr, .mix (by simp; omega) (fun j v hv => ?_) fun j x v hx hv => ?_⟩
        · simp only [List.getElem?_toArray, List.getElem?_map, Option.map_eq_some_iff] at hv
          obtain ⟨m, hm', rfl⟩ := hv
          have hj := (List.getElem?_eq_some_iff.1 hm').1
          simp at hj
          rw [List.getElem?_range hj] at hm'
          simp only [Option.some.injEq] at hm'; subst hm'
          exact (h1 (off + j) (by omega)).2
        · simp only [List.getElem?_toArray, List.getElem?_map, Option.map_eq_some_iff] at hv
          obtain ⟨m, hm', rfl⟩ := hv
          have hj := (List.getElem?_eq_some_iff.1 hm').1
          simp at hj
          rw [List.getElem?_range hj] at hm'
          simp only [Option.some.injEq] at hm'; subst hm'
          rw [List.getElem?_take, if_pos hj, List.getElem?_drop] at hx
          exact h2 _ _ hx
      · exact hy.elim
    · exact hy.elim
end
inductive RX where
  | tmp (n : Nat)
  | cell (n : Nat) (g : Option Nat)
def cRX (P : Program) : ResultVar → Option RX
  | .tmp n => some (.tmp n)
  | .cell n T => match grp P T with
    | some g => some (.cell n g)
    | none => none
def cRXs (P : Program) : List ResultVar → Option (List RX)
  | [] => some []
  | x :: r => match cRX P x, cRXs P r with
    | some y, some ys => some (y :: ys)
    | _, _ => none
def rxK (Can : FuncId → List D → Res → Prop) (st : St) : List RX → (List AV → Prop) → Prop
  | [], k => k []
  | .tmp n :: r, k => force (getL st.t n) fun v => rxK Can st r fun vs => k (v :: vs)
  | .cell n g :: r, k => (XOp.load g (.t n)).eff Can 0 st.t st.h fun v _ => rxK Can st r fun vs => k (v :: vs)
def oneRes (tmps : Array Value) : ResultVar → Sem Value
  | .tmp t => pure (tmps.getD t undef)
  | .cell b T => do loadVar T (← asAddr (tmps.getD b undef))
def resK (h : List Chunk) (vs : List AV) : Res → Prop
  | .val x => match vs with
    | [v] => toAK h v fun y => y = x
    | _ => False
  | .own sz l => match vs with
    | [.row b sz'] => match getC h b with
      | .data sz'' l' => (sz' = sz ∧ sz'' = sz) ∧ l' = l
      | _ => False
    | _ => False
  | .ownN isz rs => match vs with
    | [.row b sz'] => match getC h b with
      | .nest isz' rs' none => (sz' = 1 ∧ isz' = isz) ∧ rs' = rs
      | .data 1 [] => sz' = 1 ∧ rs = []
      | _ => False
    | _ => False
  | .tup xs => match vs with
    | [_] => False
    | vs => toAsK h vs fun ys => ys = xs
  | .ownB sz l => match vs with
    | [.ptr b sz' e off] => match getC h b with
      | .data sz'' l' => (sz' = sz ∧ sz'' = sz ∧ e = 0 ∧ off = 0) ∧ l' = l
      | _ => False
    | _ => False
  | .post _ _ => False
  | .postB _ _ _ _ => False
  | .postN _ _ _ => False
  | .tupO sz l b a => ∃ nm, vs = b.map .d ++ .row nm sz :: a.map .d ∧ getC h nm = .data sz l ∧ 2 ≤ vs.length
section
variable {P : Program} {w0 : World} {wr : Wr} {F0 F : Nat → Prop} {E : Env} {t : List AV} {h hm : List Chunk} {a : Act} {w w' : World} {nm : Nat} {y : AV} {u : List (Nat × Chunk)}
theorem rx_sound (hs : SimAt w0 wr F0 F E ⟨t, h⟩ a w) : ∀ (l : List ResultVar) (rx : List RX) (k : List AV → Prop), cRXs P l = some rx → rxK (Can P) ⟨t, h⟩ rx k →
    ∃ (vs : List AV) (us : List Value), k vs ∧ (l.mapM (oneRes a.tmps)).run P w = .ok us w ∧ us.length = vs.length ∧
      ∀ (i : Nat) (x : AV) (v : Value), vs[i]? = some x → us[i]? = some v → SeesA w F E x v
  | [], rx, k, hc, hk => by
    simp only [cRXs, Option.some.injEq] at hc; subst hc
    exact ⟨[], [], hk, rfl, rfl, by simp⟩
  | x :: r, rx, k, hc, hk => by
    simp only [cRXs] at hc
    split at hc
    case h_2 => cases hc
    rename_i y ys e1 e2
    simp only [Option.some.injEq] at hc; subst hc
    have fin : ∀ (y : AV) (v : Value) (rest : rxK (Can P) ⟨t, h⟩ ys fun vs => k (y :: vs)) (hv : SeesA w F E y v)
        (hrun : (oneRes a.tmps x).run P w = .ok v w), ∃ (vs : List AV) (us : List Value), k vs ∧ ((x :: r).mapM (oneRes a.tmps)).run P w = .ok us w ∧ us.length = vs.length ∧
      ∀ (i : Nat) (x : AV) (v : Value), vs[i]? = some x → us[i]? = some v → SeesA w F E x v := by
      intro y v rest hv hrun
      obtain ⟨vs, us, h1, h2, h3, h4⟩ := rx_sound hs r ys _ e2 rest
      refine ⟨y :: vs, v :: us, h1, ?_, by simp [h3], fun i x' v' hx hv' => ?_⟩
      · rw [List.mapM_cons, Sem.run_bind, hrun, Result.andThen_ok, Sem.run_bind, h2, Result.andThen_ok]; rfl
      · cases i with
        | zero => simp only [List.getElem?_cons_zero, Option.some.injEq] at hx hv'; subst hx; subst hv'; exact hv
        | succ i => exact h4 i x' v' (by simpa using hx) (by simpa using hv')
    cases x with
    | tmp n =>
      simp only [cRX, Option.some.injEq] at e1; subst e1
      simp only [rxK, force_eq] at hk
      exact fin _ (a.tmps.getD n undef) hk (ev_sound hs (x := .tmp n) rfl) rfl
    | cell n T =>
      simp only [cRX] at e1
      split at e1
      case h_2 => cases e1
      rename_i g hg
      simp only [Option.some.injEq] at e1; subst e1
      simp only [rxK] at hk
      obtain ⟨y, u, h1, h2⟩ := (eff_lin t h (Can P) (.load g (.t n)) 0 _).1 hk
      obtain ⟨k', q, v, g1, g2, g3⟩ := ld_sound (nm := 0) hs (fun _ _ h _ => h) (x := .tmp n) rfl hg h1
      refine fin y v h2 g3 ?_
      simp only [Act.eval] at g1
      simp only [oneRes, g1, asAddr]
      rw [Sem.run_bind]; exact g2
theorem res_sound (hs : SimAt w0 NoW F0 F E ⟨t, h⟩ a w) {vs : List AV} {us : List Value} (hl : us.length = vs.length) (hv : ∀ (i : Nat) (x : AV) (v : Value), vs[i]? = some x → us[i]? = some v → SeesA w F E x v)
    {r : Res} (hr : resK h vs r) : ResAt w0 w F0 r (if h : us.toArray.size = 1 then us.toArray[0] else .tuple us.toArray) := by
  have own : ∀ k, Fc F E h k → F0 k ∨ (w0.heap.size ≤ k ∧ k < w.heap.size) := by
    intro k hk
    have h1 := fc_fin hs hk
    rcases hk with hk | ⟨b, c, q, e1, e2, e3⟩ | ⟨b, i, hi⟩
    · exact (hs.orig k hk).imp id fun h => ⟨h, h1⟩
    · exact .inr ⟨(hs.own b c k q e1 e2 e3).resolve_right (fun h => h), h1⟩
    · exact .inr ⟨(hs.inn b i k hi).1.resolve_right (fun h => h), h1⟩
  have ownF : ∀ k, F k → F0 k ∨ (w0.heap.size ≤ k ∧ k < w.heap.size) := fun k hk => own k (.inl hk)
  have rowOwn : ∀ {b sz : Nat} {l : List (List D)} {v : Value}, SeesA w F E (.row b sz) v → getC h b = .data sz l → OwnAt w0 w F sz l v := by
    intro b sz l v hv hc
    have hb := sub_get (fun _ _ h _ => h) hc trivial
    have hch := hs.heap _ _ hb
    rcases seesA_row hv with ⟨k, cap, c, T', fz, rfl, hloc, hk, hlen, hroom⟩ | ⟨ad, rfl, hloc, h0⟩
    · cases hch with
      | empty _ h1 => rw [hloc] at h1; simp at h1
      | data vals h1 hn hb' hF hcc hss =>
        rw [hloc] at h1; simp only [Option.some.injEq, Prod.mk.injEq] at h1
        obtain ⟨rfl, rfl⟩ := h1
        rw [hk] at hb'; simp only [Option.some.injEq, Obj.cells.injEq] at hb'
        obtain ⟨rfl, rfl, rfl⟩ := hb'
        rw [hn] at hlen ⊢
        refine .inr ⟨k, cap, c, T', vals, rfl, (hs.own b _ k 0 hb trivial hloc).resolve_right (fun h => h), hF, hk, hlen, ?_, fun i r hi => ?_, hss⟩
        · exact hroom
        · simpa using hcc i r hi
    · cases hch with
      | empty _ h1 => exact .inl ⟨ad, rfl, rfl⟩
      | data _ h1 => rw [hloc] at h1; simp at h1
  have ne1 : ∀ {p : vs.length ≠ 1}, (if h : us.toArray.size = 1 then us.toArray[0] else Value.tuple us.toArray) = Value.tuple us.toArray := fun {p} => by
    rw [dif_neg]; simpa [hl] using p
  cases r with
  | val x =>
    simp only [resK] at hr
    split at hr
    case h_2 => exact hr.elim
    rename_i v
    obtain ⟨z, rfl⟩ : ∃ z, us = [z] := by
      match us, hl with
      | [z], _ => exact ⟨z, rfl⟩
    obtain ⟨y, h1, h2, _⟩ := toA_sound hs (fun _ _ h _ => h) (hv 0 v z rfl rfl) hr
    subst h1
    exact ⟨_, own, h2⟩
  | ownB sz l =>
    simp only [resK] at hr
    split at hr
    case h_2 => exact hr.elim
    rename_i b sz' e off
    split at hr
    case h_2 => exact hr.elim
    rename_i sz'' l' hc
    obtain ⟨⟨rfl, rfl, rfl, rfl⟩, rfl⟩ := hr
    obtain ⟨z, rfl⟩ : ∃ z, us = [z] := by
      match us, hl with
      | [z], _ => exact ⟨z, rfl⟩
    have hb := sub_get (fun _ _ h _ => h) hc trivial
    have hch := hs.heap _ _ hb
    obtain ⟨k, q, hz, hloc⟩ : ∃ k q, z = .pointer (some ⟨k, q, none⟩) ∧ E.loc b = some (k, q) := by
      have := hv 0 _ z rfl rfl
      cases this with | ptr h => exact ⟨_, _, by simp, h⟩
    refine ⟨F, ownF, ?_⟩
    show OwnBx w0 w F _ _ z
    cases hch with
    | empty _ h1 => rw [hloc] at h1; cases h1
    | data vals h1 hn hb' hF hcc hss =>
      rw [hloc] at h1; simp only [Option.some.injEq, Prod.mk.injEq] at h1
      obtain ⟨rfl, rfl⟩ := h1
      exact ⟨k, q, _, _, vals, hz, (hs.own b _ k q hb trivial hloc).resolve_right (fun h => h), hF, hb', hcc, hss⟩
  | own sz l =>
    simp only [resK] at hr
    split at hr
    case h_2 => exact hr.elim
    rename_i b sz'
    split at hr
    case h_2 => exact hr.elim
    rename_i sz'' l' hc
    obtain ⟨⟨rfl, rfl⟩, rfl⟩ := hr
    obtain ⟨z, rfl⟩ : ∃ z, us = [z] := by
      match us, hl with
      | [z], _ => exact ⟨z, rfl⟩
    exact ⟨F, ownF, rowOwn (hv 0 _ z rfl rfl) hc⟩
  | ownN isz rs =>
    simp only [resK] at hr
    split at hr
    case h_2 => exact hr.elim
    rename_i b sz'
    obtain ⟨z, rfl⟩ : ∃ z, us = [z] := by
      match us, hl with
      | [z], _ => exact ⟨z, rfl⟩
    have hv := hv 0 _ z rfl rfl
    refine ⟨F, ownF, ?_⟩
    show OwnN w0 w F isz rs z
    split at hr
    · rename_i isz' rs' hc
      obtain ⟨⟨rfl, rfl⟩, rfl⟩ := hr
      have hb := sub_get (fun _ _ h _ => h) hc trivial
      have hch := hs.heap _ _ hb
      rcases seesA_row hv with ⟨k, cap, c, T', fz, rfl, hloc, hk, hlen, hroom⟩ | ⟨ad, rfl, hloc, h0⟩
      · cases hch with
        | nestE _ _ h1 => rw [hloc] at h1; cases h1
        | nest vals h1 hn hb' hF hcc ho hi =>
          rw [hloc] at h1; simp only [Option.some.injEq, Prod.mk.injEq] at h1
          obtain ⟨rfl, rfl⟩ := h1
          rw [hk] at hb'; simp only [Option.some.injEq, Obj.cells.injEq] at hb'
          obtain ⟨rfl, rfl, rfl⟩ := hb'
          rw [hn] at hlen ⊢
          refine .inr ⟨k, cap, c, T', vals, E.il b, rfl, (hs.own b _ k 0 hb trivial hloc).resolve_right (fun h => h), hF, hk, hlen, hroom, fun j hj => by have := hcc j hj; rwa [Nat.zero_add] at this, fun j r hr => hi j r hr (by simp), fun j k' hj ek => ?_⟩
          have hinn : ∀ {i k}, i < rs'.length → E.il b i = some k → InnAt h E b i k := fun hi ek => ⟨_, _, _, _, hb, List.getElem?_eq_getElem hi, by simp, ek⟩
          obtain ⟨p1, p2, p3⟩ := hs.inn b j k' (hinn hj ek)
          exact ⟨p1.resolve_right (fun h => h), fun e => p2 b _ 0 hb trivial (by rw [e]; exact hloc), fun j' hj' ek' => (p3 b j' (hinn hj' ek')).2⟩
      · cases hch with
        | nestE => exact .inl ⟨ad, rfl, rfl⟩
        | nest _ h1 => rw [hloc] at h1; simp at h1
    · rename_i hc
      obtain ⟨rfl, rfl⟩ := hr
      rcases rowOwn hv hc with ⟨ad, e, _⟩ | ⟨k, cap, c, T, vals, e, h1, h2, h3, h4, h5, _⟩
      · exact .inl ⟨ad, e, rfl⟩
      · exact .inr ⟨k, cap, c, T, fun _ => undef, fun _ => none, e, h1, h2, h3, h4, h5, by simp, by simp, by simp⟩
    · exact hr.elim
  | tup xs =>
    simp only [resK] at hr
    split at hr
    · exact hr.elim
    · rename_i hne
      obtain ⟨ys, h1, h2, h3, _⟩ := toAs_sound (vs := us.toArray) hs (fun _ _ h _ => h) (by simpa using hl) (by simpa using hv) hr
      subst h1
      have hne' : vs.length ≠ 1 := by
        intro e
        obtain ⟨x, hx⟩ : ∃ x, vs = [x] := by
          match vs, e with
          | [x], _ => exact ⟨x, rfl⟩
        exact hne x hx
      rw [ne1 (p := hne')]
      exact ⟨_, own, us.toArray, rfl, by simp [hl, h2], h3⟩
  | post => exact hr.elim
  | postB => exact hr.elim
  | postN => exact hr.elim
  | tupO sz l b a =>
    obtain ⟨nm, h1, h2, h3⟩ := hr
    rw [ne1 (p := by omega)]
    subst h1
    refine ⟨F, ownF, us.toArray, rfl, by simp at hl ⊢; omega, fun u hu => ?_, fun i x u hx hu => ?_, fun i x u hx hu => ?_⟩
    · exact rowOwn (hv b.length _ u (by simp) (by simpa using hu)) h2
    · have := hv i (.d x) u (by rw [List.getElem?_append_left (by simpa using (List.getElem?_eq_some_iff.1 hx).1)]; simp [hx]) (by simpa using hu)
      cases this with | d h => exact h
    · have := hv (b.length + 1 + i) (.d x) u (by rw [List.getElem?_append_right (by simp; omega)]; simp [show b.length + 1 + i - b.length = i + 1 from by omega, hx]) (by simpa using hu)
      cases this with | d h => exact h
end
structure CF where
  np : Nat
  nt : Nat
  res : List RX
  body : IR
def CF.erase (c : CF) : CF := { c with body := c.body.erase }
def cFunc (P : Program) (fn : Func) : Option CF :=
  match fn.body with
  | some c => match cCode P fn.ntmps c, cRXs P fn.results.toList with
    | some ir, some rx => if fn.params.size + fn.nfree ≤ fn.ntmps && !(fn.name == "runtime.NumGoroutine") then some ⟨fn.params.size + fn.nfree, fn.ntmps, rx, ir⟩ else none
    | _, _ => none
  | none => none
def repK {α : Type} (x : α) : Nat → (List α → Prop) → Prop
  | 0, k => k []
  | n + 1, k => repK x n fun l => k (x :: l)
theorem repK_eq {α : Type} (x : α) : ∀ (n : Nat) (k : List α → Prop), repK x n k = k (List.replicate n x)
  | 0, _ => rfl
  | n + 1, k => by rw [repK, repK_eq x n]; rfl
def initK (nt : Nat) : List D → (List AV → Prop) → Prop
  | [], k => repK (.d .undef) nt k
  | x :: r, k => initK (nt - 1) r fun l => k (.d x :: l)
theorem initK_eq : ∀ (nt : Nat) (l : List D) (k : List AV → Prop), initK nt l k = k (l.map .d ++ List.replicate (nt - l.length) (.d .undef))
  | nt, [], k => by simp [initK, repK_eq]
  | nt, x :: r, k => by rw [initK, initK_eq]; simp [Nat.sub_sub, Nat.add_comm]
def finX (Can : FuncId → List D → Res → Prop) (rx : List RX) (r : Res) (st : St) : Prop := rxK Can st rx fun vs => resK st.h vs r
def CF.ex (Can : FuncId → List D → Res → Prop) (c : CF) (args : List D) (r : Res) : Prop :=
  initK c.nt args fun t => repK .none (c.nt + 1) fun h => c.body.ex Can (finX Can c.res r) (finX Can c.res r) [] ⟨t, h⟩
theorem can_introD {P : Program} {f : FuncId} {fn : Func} {c : CF} {args : List D} {r : Res} (hf : P.funcs[f]? = some fn) (hc : cFunc P fn = some c.erase) (hd : ∀ code, fn.body = some code → DrawOK P c.body code) (hl : args.length = c.np) (hex : c.ex (Can P) args r) : CanD P f args r := by
  unfold cFunc at hc
  split at hc
  case h_2 => cases hc
  rename_i code hb
  split at hc
  case h_2 => cases hc
  rename_i ir rx h1 h2
  split at hc
  case isFalse => cases hc
  rename_i h3
  simp only [Bool.and_eq_true, decide_eq_true_eq, Bool.not_eq_true'] at h3
  obtain ⟨np, nt, res, body⟩ := c
  simp only [Option.some.injEq, CF.erase, CF.mk.injEq] at hc
  obtain ⟨rfl, rfl, rfl, rfl⟩ := hc
  refine ⟨⟨fn, hf⟩, fun w F vs hF hsz hv => ?_⟩
  refine Plain.goes ⟨fn, hf, h3.2, by simp [hb]⟩ (calls_of_wp hf hb ?_)
  simp only [CF.ex, initK_eq, repK_eq] at hex
  have hs : Sim w NoW F ⟨args.map .d ++ List.replicate (fn.ntmps - args.length) (.d .undef), List.replicate (fn.ntmps + 1) .none⟩ { tmps := vs ++ Array.replicate (fn.ntmps - vs.size) undef, defers := [] } w := by
    refine ⟨F, ⟨fun _ => none, fun _ => 0, fun _ _ => none⟩, by simp [hsz], fun i x v hx hv' => ?_, fun b c hc => ?_, ?_, ?_, ?_, hF, fun k hk => .inl hk, Fr.refl _ _, rfl, ⟨fun k q h => (by cases h), fun _ _ h => h.elim⟩⟩
    · dsimp only at hx hv'
      rcases Nat.lt_or_ge i args.length with hi | hi
      · rw [List.getElem?_append_left (by simpa using hi)] at hx
        rw [Array.getElem?_append_left (by omega)] at hv'
        simp only [List.getElem?_map, Option.map_eq_some_iff] at hx
        obtain ⟨y, hy, rfl⟩ := hx
        exact .d (hv i y v hy hv')
      · rw [List.getElem?_append_right (by simpa using hi)] at hx
        rw [Array.getElem?_append_right (by omega)] at hv'
        rw [List.getElem?_replicate] at hx
        rw [Array.getElem?_replicate] at hv'
        split at hx
        · split at hv'
          · simp only [Option.some.injEq] at hx hv'; subst hx; subst hv'; exact .d .undef
          · simp at hv'
        · simp at hx
    · dsimp only at hc
      rw [List.getElem?_replicate] at hc
      split at hc
      · simp only [Option.some.injEq] at hc; subst hc; exact .none
      · simp at hc
    · intro b b' c c' k o o' _ _ _ _ h; simp at h
    · intro b c k o _ _ h; simp at h
    · rintro b i k ⟨_, _, _, _, h, _, _, e⟩; simp at e
  have fin : ∀ st a w', finX (Can P) rx r st → Sim w NoW F st a w' → a.defers = [] ∧ ∃ v, (results fn a.tmps).run P w' = .ok v w' ∧ (∃ v', Ending.returned v = .returned v' ∧ Below w.heap.size w w' ∧ ResAt w w' F r v') := by
    intro st a w' hfin hs
    obtain ⟨F', E, hs⟩ := hs
    obtain ⟨avs, us, g1, g2, g3, g4⟩ := rx_sound hs _ _ _ h2 hfin
    refine ⟨hs.defers, _, ?_, _, rfl, ⟨hs.frame.os, hs.frame.tape, hs.frame.output, hs.frame.size, fun k hk => hs.frame.block k hk (fun h => h)⟩, res_sound hs g3 g4 g1⟩
    have e : results fn a.tmps = (do let vs ← fn.results.mapM (oneRes a.tmps); pure (if h : vs.size = 1 then vs[0] else .tuple vs)) := rfl
    rw [e, Sem.run_bind, show fn.results = fn.results.toList.toArray from by simp, List.mapM_toArray, map_eq_pure_bind, Sem.run_bind, g2, Result.andThen_ok]
    rfl
  exact ex_sound body code _ _ [] _ _ _ w (.inl fun _ h => h) h1 (hd _ hb) (fun st a w' hn hs => fin st a w' hn hs) (fun st a w' hn hs => fin st a w' hn hs) (fun id st a w' hl _ => hl.elim) hs hex
theorem can_intro {P : Program} {f : FuncId} {fn : Func} {c : CF} {args : List D} {r : Res} (hf : P.funcs[f]? = some fn) (hc : cFunc P fn = some c.erase) (hd : ∀ code, fn.body = some code → DrawOK P c.body code) (hl : args.length = c.np) (hr : r.isPost = false) (hex : c.ex (Can P) args r) : Can P f args r :=
  (can_introD hf hc hd hl hex).can hr
def resM (h : List Chunk) (vs : List AV) (p : Option (List (List D))) : Res → Prop
  | .val x => vs = [.d x]
  | .tup xs => xs.length ≠ 1 ∧ vs = xs.map .d
  | .own sz l => match vs with
    | [.row b sz'] => match getC h b with
      | .data sz'' l' => (sz' = sz ∧ sz'' = sz ∧ (p = none ∨ b ≠ 0)) ∧ l' = l
      | _ => False
    | [.sub b sz' off m] => match getC h b with
      | .data sz'' l' => (sz' = sz ∧ sz'' = sz ∧ p = none ∧ b = 0 ∧ off = 0 ∧ m ≤ l'.length) ∧ l'.take m = l
      | _ => False
    | _ => False
  | _ => False
def postM (h : List Chunk) (sz n : Nat) : Option (List (List D)) → Prop
  | some l' => match getC h 0 with
    | .data sz' l'' => (sz' = sz ∧ l'.length = n) ∧ l'' = l'
    | _ => False
  | none => True
def finM (Can : FuncId → List D → Res → Prop) (rx : List RX) (sz n : Nat) (p : Option (List (List D))) (r : Res) (st : St) : Prop := postM st.h sz n p ∧ rxK Can st rx fun vs => resM st.h vs p r
def CF.exM (Can : FuncId → List D → Res → Prop) (c : CF) (sz : Nat) (l : List (List D)) (args : List D) (p : Option (List (List D))) (r : Res) : Prop :=
  initK (c.nt - 1) args fun t => repK .none c.nt fun h => c.body.ex Can (finM Can c.res sz l.length p r) (finM Can c.res sz l.length p r) [] ⟨.row 0 sz :: t, .data sz l :: h⟩
theorem can_introM {P : Program} {f : FuncId} {fn : Func} {c : CF} {sz : Nat} {l : List (List D)} {args : List D} {p : Option (List (List D))} {r : Res} (hf : P.funcs[f]? = some fn) (hc : cFunc P fn = some c.erase) (hd : ∀ code, fn.body = some code → DrawOK P c.body code) (hl : args.length + 1 = c.np) (hnf : c.body.noFrz = true)
    (hex : c.exM (Can P) sz l args p r) : Can P f (.ownA sz l :: args) (.post p r) := by
  unfold cFunc at hc
  split at hc
  case h_2 => cases hc
  rename_i code hb
  split at hc
  case h_2 => cases hc
  rename_i ir rx h1 h2
  split at hc
  case isFalse => cases hc
  rename_i h3
  simp only [Bool.and_eq_true, decide_eq_true_eq, Bool.not_eq_true'] at h3
  obtain ⟨np, nt, res, body⟩ := c
  simp only [Option.some.injEq, CF.erase, CF.mk.injEq] at hc
  obtain ⟨rfl, rfl, rfl, rfl⟩ := hc
  refine ⟨⟨fn, hf, h3.2, by simp [hb]⟩, fun w F ob v0 vs hF hsz hv hrow => ?_⟩
  refine calls_of_wp hf hb ?_
  simp only [CF.exM, initK_eq, repK_eq] at hex
  have hnt : args.length + 1 ≤ fn.ntmps := by have := h3.1; simp only at hl; omega
  have hln0 : ob = none → l = [] := fun e => by cases hrow with | nil _ _ h0 => exact h0 | row _ h0 => rw [e] at h0; cases h0
  have hs : Sim w ⟨fun k => ob = some k, 0, True⟩ F ⟨.row 0 sz :: (args.map .d ++ List.replicate (fn.ntmps - 1 - args.length) (.d .undef)), .data sz l :: List.replicate fn.ntmps .none⟩ { tmps := (#[v0] ++ vs) ++ Array.replicate (fn.ntmps - (#[v0] ++ vs).size) undef, defers := [] } w := by
    let E0 : Env := ⟨fun b => if b = 0 then ob.map fun k => (k, 0) else none, fun b => if b = 0 then l.length else 0, fun _ _ => none⟩
    have only0 : ∀ (b : Nat) (c : Chunk), (Chunk.data sz l :: List.replicate fn.ntmps .none)[b]? = some c → c.live → b = 0 := by
      intro b c hc hlv
      cases b with
      | zero => rfl
      | succ b =>
        rw [List.getElem?_cons_succ, List.getElem?_replicate] at hc
        split at hc
        · simp only [Option.some.injEq] at hc; subst hc; exact hlv.elim
        · cases hc
    refine ⟨F, E0, by simp [hsz]; omega, fun i x v hx hv' => ?_, fun b c hc => ?_, fun b b' c c' k o o' hc hc' l1 l2 _ _ => by rw [only0 b c hc l1, only0 b' c' hc' l2], fun b c k o hc l1 e => ?_, ?_, hF, fun k hk => .inl hk, Fr.refl _ _, rfl, ⟨fun k q h => ?_, fun _ k h => ?_⟩⟩
    · cases i with
      | zero =>
        simp only [List.getElem?_cons_zero, Option.some.injEq] at hx; subst hx
        have : v = v0 := by
          rw [Array.append_assoc, Array.getElem?_append_left (by simp)] at hv'
          simpa using hv'.symm
        subst this
        cases hrow with
        | nil ad e0 e1 e2 =>
          rw [e2]; exact .rowE (by simp [E0, e0]) (by simp [E0, e1])
        | row vals e0 e1 e2 e3 e4 e5 =>
          rw [e5]
          exact row0 (by simp [E0, e0]) (by simp [E0]) e1 e3 e4
      | succ i =>
        rw [List.getElem?_cons_succ] at hx
        have hv2 : (vs ++ Array.replicate (fn.ntmps - (#[v0] ++ vs).size) undef)[i]? = some v := by
          rw [Array.append_assoc, Array.getElem?_append_right (by simp)] at hv'
          simpa using hv'
        rcases Nat.lt_or_ge i args.length with hi | hi
        · rw [List.getElem?_append_left (by simpa using hi)] at hx
          rw [Array.getElem?_append_left (by omega)] at hv2
          simp only [List.getElem?_map, Option.map_eq_some_iff] at hx
          obtain ⟨y, hy, rfl⟩ := hx
          exact .d (hv i y v hy hv2)
        · rw [List.getElem?_append_right (by simpa using hi), List.getElem?_replicate] at hx
          rw [Array.getElem?_append_right (by omega), Array.getElem?_replicate] at hv2
          split at hx
          · split at hv2
            · simp only [Option.some.injEq] at hx hv2; subst hx; subst hv2; exact .d .undef
            · simp at hv2
          · simp at hx
    · cases b with
      | zero =>
        simp only [List.getElem?_cons_zero, Option.some.injEq] at hc; subst hc
        cases hrow with
        | nil ad e0 e1 e2 => subst e1; exact .empty sz (by simp [E0, e0]) (by simp [E0])
        | row vals e0 e1 e2 e3 e4 e5 e6 e7 => exact .data vals (by simp [E0, e0]; rfl) (by simp [E0]) e1 e2 (by simpa using e6) e7
      | succ b =>
        rw [List.getElem?_cons_succ, List.getElem?_replicate] at hc
        split at hc
        · simp only [Option.some.injEq] at hc; subst hc; exact .none
        · cases hc
    · have := only0 b c hc l1
      subst this
      simp only [E0, if_true, Option.map_eq_some_iff, Prod.mk.injEq] at e
      obtain ⟨k', e1, e2, _⟩ := e
      exact .inr (by rw [e1, e2])
    · rintro b i k ⟨_, _, _, _, _, _, _, e⟩; simp [E0] at e
    · simp only [E0, if_true, Option.map_eq_some_iff, Prod.mk.injEq] at h
      obtain ⟨k', e1, e2, e3⟩ := h
      exact ⟨by show ob = some k; rw [e1, e2], e3.symm⟩
    · have e : ob = some k := h
      simp [E0, e]
  have fin : ∀ st a w', finM (Can P) rx sz l.length p r st → Sim w ⟨fun k => ob = some k, 0, True⟩ F st a w' → a.defers = [] ∧ ∃ v, (results fn a.tmps).run P w' = .ok v w' ∧ (∃ v', Ending.returned v = .returned v' ∧ BelowBut ob w w' ∧
      ∃ G : Nat → Prop, (∀ k, G k → F k ∨ (w.heap.size ≤ k ∧ k < w'.heap.size)) ∧ (∀ l', p = some l' → InRow w' G ob sz l' v0) ∧ ResM w w' G ob p r v') := by
    intro st a w' hfin hs1
    obtain ⟨F', E, hq⟩ := hs1
    obtain ⟨hpost, hrx⟩ := hfin
    obtain ⟨avs, us, g1, g2, g3, g4⟩ := rx_sound hq _ _ _ h2 hrx
    have locpin : E.loc 0 = ob.map fun k => (k, 0) := by
      cases ho : E.loc 0 with
      | none =>
        cases ob with
        | none => rfl
        | some k => have := hq.pin.2 trivial k rfl; rw [ho] at this; cases this
      | some q =>
        obtain ⟨k, q⟩ := q
        obtain ⟨e1, e2⟩ := hq.pin.1 k q ho
        have e1 : ob = some k := e1
        have e2 : q = 0 := e2
        rw [e1, e2]; rfl
    refine ⟨hq.defers, (if h : us.toArray.size = 1 then us.toArray[0] else .tuple us.toArray), ?_, _, rfl, ⟨hq.frame.os, hq.frame.tape, hq.frame.output, hq.frame.size, fun k hk hn => hq.frame.block k hk hn, hq.frame.sizes⟩, F', fun k hk => ?_, fun l' el => ?_, ?_⟩
    · have e : results fn a.tmps = (do let vs ← fn.results.mapM (oneRes a.tmps); pure (if h : vs.size = 1 then vs[0] else .tuple vs)) := rfl
      rw [e, Sem.run_bind, show fn.results = fn.results.toList.toArray from by simp, List.mapM_toArray, map_eq_pure_bind, Sem.run_bind, g2, Result.andThen_ok]
      rfl
    · exact (hq.orig k hk).imp id fun h => ⟨h, hq.fin k hk⟩
    · subst el
      unfold postM at hpost
      dsimp only at hpost
      split at hpost
      case h_2 => exact hpost.elim
      rename_i sz' l'' hc0
      obtain ⟨⟨rfl, hlen⟩, rfl⟩ := hpost
      have hch := hq.heap 0 _ (getC_some hc0 trivial)
      cases hch with
      | empty _ e0 =>
        rw [locpin] at e0
        have e0 : ob = none := by cases ob with | none => rfl | some k => cases e0
        cases hrow with
        | nil ad _ _ e2 => exact .nil ad e0 rfl e2
        | row _ e1 => rw [e0] at e1; cases e1
      | data vals e0 e1 e2 e3 e4 e5 =>
        rw [locpin, Option.map_eq_some_iff] at e0
        obtain ⟨k, ek, e6⟩ := e0
        simp only [Prod.mk.injEq] at e6
        obtain ⟨rfl, rfl⟩ := e6
        cases hrow with
        | nil _ e7 => rw [e7] at ek; cases ek
        | row vals0 e7 e8 e9 e10 e11 e12 =>
          rw [e7] at ek; simp only [Option.some.injEq] at ek; subst ek
          obtain ⟨c', T', fz', q1, q2⟩ := hq.frame.sizes _ _ _ _ e8
          rw [e2] at q1; simp only [Option.some.injEq, Obj.cells.injEq] at q1
          obtain ⟨rfl, _, _⟩ := q1
          exact .row vals e7 e2 e3 (by rw [hlen]; exact e10) (by rw [q2]; exact e11) (by rw [hlen]; exact e12) (by simpa using e4) e5
    · cases r with
      | val x =>
        obtain rfl : avs = [.d x] := g1
        obtain ⟨z, rfl⟩ : ∃ z, us = [z] := by
          match us, g3 with
          | [z], _ => exact ⟨z, rfl⟩
        have := g4 0 (.d x) z rfl rfl
        cases this with | d h => exact h
      | tup xs =>
        obtain ⟨hne, rfl⟩ := g1
        have hsz2 : us.toArray.size ≠ 1 := by simp at g3 ⊢; omega
        rw [dif_neg hsz2]
        refine ⟨us.toArray, rfl, by simpa using g3, fun i x u hx hu => ?_⟩
        have := g4 i (.d x) u (by simp [hx]) (by simpa using hu)
        cases this with | d h => exact h
      | own sz2 l2 =>
        simp only [resM] at g1
        split at g1
        case h_3 => exact g1.elim
        case h_2 =>
          rename_i b sz' off m
          split at g1
          case h_2 => exact g1.elim
          rename_i sz'' l'' hcb
          obtain ⟨⟨rfl, rfl, rfl, rfl, rfl, hm⟩, rfl⟩ := g1
          obtain ⟨z, rfl⟩ : ∃ z, us = [z] := by
            match us, g3 with
            | [z], _ => exact ⟨z, rfl⟩
          have hbl := getC_some hcb trivial
          have hch := hq.heap _ _ hbl
          show OwnAt w w' F' _ _ z ∨ _
          obtain ⟨k, q, cap, c, T', fz, rfl, hloc, hmc, hk, hext, hroom⟩ := seesA_sub' (g4 0 _ z rfl rfl)
          obtain ⟨hwr, hq0⟩ := hq.pin.1 k q hloc
          have hwr : ob = some k := hwr
          obtain rfl : q = 0 := hq0
          cases hch with
          | empty _ e0 => rw [hloc] at e0; cases e0
          | data vals e0 e1 e2 e3 e4 e5 =>
            rw [hloc] at e0; simp only [Option.some.injEq, Prod.mk.injEq] at e0
            obtain ⟨rfl, rfl⟩ := e0
            rw [hk] at e2; simp only [Option.some.injEq, Obj.cells.injEq] at e2
            obtain ⟨rfl, rfl, rfl⟩ := e2
            have hl1 : (l''.take m).length = m := by simp; omega
            simp only [Nat.zero_mul, Nat.add_zero, Nat.zero_add] at hroom ⊢
            have key : ∀ {i : Nat} {r : List D}, (l''.take m)[i]? = some r → l''[i]? = some r := fun {i r} hi => by
              rw [List.getElem?_take] at hi; split at hi
              · exact hi
              · cases hi
            refine .inr ⟨?_, .row (k := k) (cap := cap) vals hwr hk e3 (by rw [hl1]; exact hmc) hroom (by rw [hl1]; rfl) (fun i r hi => by have := e4 i r (key hi); simpa using this) (fun i r j x hi hj => e5 i r j x (key hi) hj)⟩
            first | rfl | trivial
        rename_i b sz'
        split at g1
        case h_2 => exact g1.elim
        rename_i sz'' l'' hcb
        obtain ⟨⟨rfl, rfl, hp⟩, rfl⟩ := g1
        obtain ⟨z, rfl⟩ : ∃ z, us = [z] := by
          match us, g3 with
          | [z], _ => exact ⟨z, rfl⟩
        have hbl := getC_some hcb trivial
        have hch := hq.heap _ _ hbl
        show OwnAt w w' F' _ _ z ∨ _
        rcases seesA_row (g4 0 _ z rfl rfl) with ⟨k, cap, c, T', fz, rfl, hloc, hk, hlen, hroom⟩ | ⟨ad, rfl, hloc, h0⟩
        · cases hch with
          | empty _ e0 => rw [hloc] at e0; cases e0
          | data vals e0 e1 e2 e3 e4 e5 =>
            rw [hloc] at e0; simp only [Option.some.injEq, Prod.mk.injEq] at e0
            obtain ⟨rfl, rfl⟩ := e0
            rw [hk] at e2; simp only [Option.some.injEq, Obj.cells.injEq] at e2
            obtain ⟨rfl, rfl, rfl⟩ := e2
            rw [e1] at hlen ⊢
            rcases hq.own b _ k 0 hbl trivial hloc with hge | hob
            · exact .inl (.inr ⟨k, cap, c, T', vals, rfl, hge, e3, hk, hlen, hroom, by simpa using e4, e5⟩)
            · have hpn : p = none := by
                rcases hp with hp | hp
                · exact hp
                · cases p with
                  | none => rfl
                  | some l' =>
                    exfalso
                    unfold postM at hpost
                    dsimp only at hpost
                    split at hpost
                    case h_2 => exact hpost.elim
                    rename_i hc0
                    exact hp (hq.excl b 0 _ _ k 0 0 hbl (getC_some hc0 trivial) trivial trivial hloc (hq.pin.2 trivial k hob))
              exact .inr ⟨hpn, .row vals hob hk e3 hlen hroom rfl (by simpa using e4) e5⟩
        · cases hch with
          | empty => exact .inl (.inl ⟨ad, rfl, rfl⟩)
          | data _ e0 => rw [hloc] at e0; cases e0
      | ownN => exact g1.elim
      | ownB => exact g1.elim
      | tupO => exact g1.elim
      | post => exact g1.elim
      | postB => exact g1.elim
      | postN => exact g1.elim
  exact ex_sound body code _ _ [] _ _ _ w (.inr hnf) h1 (hd _ hb) (fun st a w' hn hs => fin st a w' hn hs) (fun st a w' hn hs => fin st a w' hn hs) (fun id st a w' hl _ => hl.elim) hs hex
def Res.isVT : Res → Bool
  | .val _ => true
  | .tup _ => true
  | _ => false
def CF.exB (Can : FuncId → List D → Res → Prop) (c : CF) (sz : Nat) (l : List (List D)) (args : List D) (l' : List (List D)) (r : Res) : Prop :=
  initK (c.nt - 1) args fun t => repK .none c.nt fun h => c.body.ex Can (finM Can c.res sz l.length (some l') r) (finM Can c.res sz l.length (some l') r) [] ⟨.ptr 0 sz 0 0 :: t, .data sz l :: h⟩
theorem can_introB {P : Program} {f : FuncId} {fn : Func} {c : CF} {sz : Nat} {l : List (List D)} {args : List D} {l' : List (List D)} {r : Res} (hf : P.funcs[f]? = some fn) (hc : cFunc P fn = some c.erase) (hd : ∀ code, fn.body = some code → DrawOK P c.body code) (hl : args.length + 1 = c.np) (hnf : c.body.noFrz = true)
    (hll : l'.length = l.length) (hvt : r.isVT = true) (hex : c.exB (Can P) sz l args l' r) : Can P f args (.postB sz l l' r) := by
  unfold cFunc at hc
  split at hc
  case h_2 => cases hc
  rename_i code hb
  split at hc
  case h_2 => cases hc
  rename_i ir rx h1 h2
  split at hc
  case isFalse => cases hc
  rename_i h3
  simp only [Bool.and_eq_true, decide_eq_true_eq, Bool.not_eq_true'] at h3
  obtain ⟨np, nt, res, body⟩ := c
  simp only [Option.some.injEq, CF.erase, CF.mk.injEq] at hc
  obtain ⟨rfl, rfl, rfl, rfl⟩ := hc
  refine ⟨hll, ⟨fn, hf, h3.2, by simp [hb]⟩, fun w F k q v0 vs hF hsz hv hbox => ?_⟩
  refine calls_of_wp hf hb ?_
  simp only [CF.exB, initK_eq, repK_eq] at hex
  have hnt : args.length + 1 ≤ fn.ntmps := by have := h3.1; simp only at hl; omega
  have hs : Sim w ⟨fun k' => k' = k, q, True⟩ F ⟨.ptr 0 sz 0 0 :: (args.map .d ++ List.replicate (fn.ntmps - 1 - args.length) (.d .undef)), .data sz l :: List.replicate fn.ntmps .none⟩ { tmps := (#[v0] ++ vs) ++ Array.replicate (fn.ntmps - (#[v0] ++ vs).size) undef, defers := [] } w := by
    let E0 : Env := ⟨fun b => if b = 0 then some (k, q) else none, fun b => if b = 0 then l.length else 0, fun _ _ => none⟩
    have only0 : ∀ (b : Nat) (c : Chunk), (Chunk.data sz l :: List.replicate fn.ntmps .none)[b]? = some c → c.live → b = 0 := by
      intro b c hc hlv
      cases b with
      | zero => rfl
      | succ b =>
        rw [List.getElem?_cons_succ, List.getElem?_replicate] at hc
        split at hc
        · simp only [Option.some.injEq] at hc; subst hc; exact hlv.elim
        · cases hc
    refine ⟨F, E0, by simp [hsz]; omega, fun i x v hx hv' => ?_, fun b c hc => ?_, fun b b' c c' k o o' hc hc' l1 l2 _ _ => by rw [only0 b c hc l1, only0 b' c' hc' l2], fun b c k' o hc l1 e => ?_, ?_, hF, fun k hk => .inl hk, Fr.refl _ _, rfl, ⟨fun k' q' h => ?_, fun _ k' h => ?_⟩⟩
    · cases i with
      | zero =>
        simp only [List.getElem?_cons_zero, Option.some.injEq] at hx; subst hx
        have : v = v0 := by
          rw [Array.append_assoc, Array.getElem?_append_left (by simp)] at hv'
          simpa using hv'.symm
        subst this
        cases hbox with
        | mk vals e1 e2 e3 =>
          rw [e3]
          have := SeesA.ptr (W := w) (F := F) (E := E0) (b := 0) (sz := sz) (e := 0) (off := 0) (k := k) (o := q) (by simp [E0])
          simpa using this
      | succ i =>
        rw [List.getElem?_cons_succ] at hx
        have hv2 : (vs ++ Array.replicate (fn.ntmps - (#[v0] ++ vs).size) undef)[i]? = some v := by
          rw [Array.append_assoc, Array.getElem?_append_right (by simp)] at hv'
          simpa using hv'
        rcases Nat.lt_or_ge i args.length with hi | hi
        · rw [List.getElem?_append_left (by simpa using hi)] at hx
          rw [Array.getElem?_append_left (by omega)] at hv2
          simp only [List.getElem?_map, Option.map_eq_some_iff] at hx
          obtain ⟨y, hy, rfl⟩ := hx
          exact .d (hv i y v hy hv2)
        · rw [List.getElem?_append_right (by simpa using hi), List.getElem?_replicate] at hx
          rw [Array.getElem?_append_right (by omega), Array.getElem?_replicate] at hv2
          split at hx
          · split at hv2
            · simp only [Option.some.injEq] at hx hv2; subst hx; subst hv2; exact .d .undef
            · simp at hv2
          · simp at hx
    · cases b with
      | zero =>
        simp only [List.getElem?_cons_zero, Option.some.injEq] at hc; subst hc
        cases hbox with
        | mk vals e1 e2 e3 e4 e5 => exact .data vals (by simp [E0]) (by simp [E0]) e1 e2 e4 e5
      | succ b =>
        rw [List.getElem?_cons_succ, List.getElem?_replicate] at hc
        split at hc
        · simp only [Option.some.injEq] at hc; subst hc; exact .none
        · cases hc
    · have := only0 b c hc l1
      subst this
      simp only [E0, if_true, Option.some.injEq, Prod.mk.injEq] at e
      exact .inr e.1.symm
    · rintro b i k ⟨_, _, _, _, _, _, _, e⟩; simp [E0] at e
    · simp only [E0, if_true, Option.some.injEq, Prod.mk.injEq] at h
      exact ⟨h.1.symm, h.2.symm⟩
    · have e : k' = k := h
      simp [E0, e]
  have fin : ∀ st a w', finM (Can P) rx sz l.length (some l') r st → Sim w ⟨fun k' => k' = k, q, True⟩ F st a w' → a.defers = [] ∧ ∃ v, (results fn a.tmps).run P w' = .ok v w' ∧ (∃ v', Ending.returned v = .returned v' ∧ BelowBut (some k) w w' ∧
      ∃ G : Nat → Prop, (∀ k, G k → F k ∨ (w.heap.size ≤ k ∧ k < w'.heap.size)) ∧ InBox w' G k q sz l' v0 ∧ ResG w w' G r v') := by
    intro st a w' hfin hs1
    obtain ⟨F', E, hq⟩ := hs1
    obtain ⟨hpost, hrx⟩ := hfin
    obtain ⟨avs, us, g1, g2, g3, g4⟩ := rx_sound hq _ _ _ h2 hrx
    have hloc : E.loc 0 = some (k, q) := hq.pin.2 trivial k rfl
    refine ⟨hq.defers, (if h : us.toArray.size = 1 then us.toArray[0] else .tuple us.toArray), ?_, _, rfl, ⟨hq.frame.os, hq.frame.tape, hq.frame.output, hq.frame.size, fun k1 hk hn => hq.frame.block k1 hk (fun e => hn (congrArg some e.symm)), hq.frame.sizes⟩, F', fun k hk => ?_, ?_, ?_⟩
    · have e : results fn a.tmps = (do let vs ← fn.results.mapM (oneRes a.tmps); pure (if h : vs.size = 1 then vs[0] else .tuple vs)) := rfl
      rw [e, Sem.run_bind, show fn.results = fn.results.toList.toArray from by simp, List.mapM_toArray, map_eq_pure_bind, Sem.run_bind, g2, Result.andThen_ok]
      rfl
    · exact (hq.orig k hk).imp id fun h => ⟨h, hq.fin k hk⟩
    · unfold postM at hpost
      dsimp only at hpost
      split at hpost
      case h_2 => exact hpost.elim
      rename_i sz' l'' hc0
      obtain ⟨⟨rfl, hlen⟩, rfl⟩ := hpost
      have hch := hq.heap 0 _ (getC_some hc0 trivial)
      have e3 : v0 = .pointer (some ⟨k, q, none⟩) := by cases hbox with | mk _ _ _ e3 => exact e3
      cases hch with
      | empty _ e0 => rw [hloc] at e0; cases e0
      | data vals e0 e1 e2 e4 e5 e6 =>
        rw [hloc] at e0; simp only [Option.some.injEq, Prod.mk.injEq] at e0
        obtain ⟨rfl, rfl⟩ := e0
        exact .mk vals e2 e4 e3 e5 e6
    · cases r with
      | val x =>
        obtain rfl : avs = [.d x] := g1
        obtain ⟨z, rfl⟩ : ∃ z, us = [z] := by
          match us, g3 with
          | [z], _ => exact ⟨z, rfl⟩
        have := g4 0 (.d x) z rfl rfl
        cases this with | d h => exact h
      | tup xs =>
        obtain ⟨hne, rfl⟩ := g1
        have hsz2 : us.toArray.size ≠ 1 := by simp at g3 ⊢; omega
        rw [dif_neg hsz2]
        refine ⟨us.toArray, rfl, by simpa using g3, fun i x u hx hu => ?_⟩
        have := g4 i (.d x) u (by simp [hx]) (by simpa using hu)
        cases this with | d h => exact h
      | own => cases hvt
      | ownN => cases hvt
      | ownB => cases hvt
      | tupO => cases hvt
      | post => cases hvt
      | postB => cases hvt
      | postN => cases hvt
  exact ex_sound body code _ _ [] _ _ _ w (.inr hnf) h1 (hd _ hb) (fun st a w' hn hs => fin st a w' hn hs) (fun st a w' hn hs => fin st a w' hn hs) (fun id st a w' hl _ => hl.elim) hs hex
end Go.X
namespace Go.X
open Go Go.RowKit
section
variable {x y : Int} {K : Int → Prop}
theorem ar_add (h : -9223372036854775808 ≤ x + y ∧ x + y ≤ 9223372036854775807) (hk : K (x + y)) : Ar.int .add .i64 x y K := by
  rw [Ar.int_eq]; unfold Ar.intD; rw [IntWalk.i64_in _ h]; exact hk
theorem ar_sub (h : -9223372036854775808 ≤ x - y ∧ x - y ≤ 9223372036854775807) (hk : K (x - y)) : Ar.int .sub .i64 x y K := by
  rw [Ar.int_eq]; unfold Ar.intD; rw [IntWalk.i64_in _ h]; exact hk
theorem ar_mul (h : -9223372036854775808 ≤ x * y ∧ x * y ≤ 9223372036854775807) (hk : K (x * y)) : Ar.int .mul .i64 x y K := by
  rw [Ar.int_eq]; unfold Ar.intD; rw [IntWalk.i64_in _ h]; exact hk
theorem ar_quo (h : 0 ≤ x ∧ x ≤ 9223372036854775807 ∧ 1 ≤ y) (hk : K (x / y)) : Ar.int .quo .i64 x y K := by
  rw [Ar.int_eq]; unfold Ar.intD; rw [IntWalk.i64_quo _ _ h]; exact ⟨by omega, hk⟩
theorem ar_rem (h : 0 ≤ x ∧ 1 ≤ y) (hk : K (x % y)) : Ar.int .rem .i64 x y K := by
  rw [Ar.int_eq]; unfold Ar.intD; rw [Int.tmod_eq_emod_of_nonneg h.1]; exact ⟨by omega, hk⟩
theorem ar_remT (h : y ≠ 0) (hk : K (x.tmod y)) : Ar.int .rem .i64 x y K := by
  rw [Ar.int_eq]; unfold Ar.intD; exact ⟨h, hk⟩
theorem wk_i64 (h : -9223372036854775808 ≤ x ∧ x ≤ 9223372036854775807) (hk : K x) : wrapK .i64 x K := by
  rw [wrapK_eq]; rw [IntWalk.i64_in _ h]; exact hk
theorem wk_u8 (h : 0 ≤ x ∧ x ≤ 255) (hk : K x) : wrapK .u8 x K := by
  rw [wrapK_eq]; rw [IntWalk.u8_in _ h]; exact hk
end
def rosT : List RO → List Nat
  | [] => []
  | o :: r => match o.dst with
    | some d => d :: rosT r
    | none => rosT r
def IR.slots : IR → List Nat → List Nat
  | .reg _ _ ros, l => rosT ros ++ l
  | .seq x y, l => x.slots (y.slots l)
  | .cond _ x y, l => x.slots (y.slots l)
  | .block _ x, l => x.slots l
  | .loop x, l => x.slots l
  | .gh _ x, l => x.slots l
  | .ga _ x, l => x.slots l
  | .cut x, l => x.slots l
  | .drawM _ _ ros, l => rosT ros ++ l
  | _, l => l
def setsK : List (Nat × AV) → List AV → (List AV → Prop) → Prop
  | [], t, k => k t
  | (i, v) :: r, t, k => setK t i v fun t' => setsK r t' k
def loopK (ir : IR) (ds : List Nat) (sl : List (Nat × AV)) (hp : List (Nat × Chunk)) (st : St) (k : St → Prop) : Prop :=
  match st with
  | ⟨t, h⟩ => deadK (ir.slots ds) t fun t1 => setsK sl t1 fun t2 => updK hp h fun h2 => k ⟨t2, h2⟩
theorem setsK_eq : ∀ (l : List (Nat × AV)) (t : List AV) (k : List AV → Prop), setsK l t k = k (l.foldl (fun t p => t.set p.1 p.2) t)
  | [], _, _ => rfl
  | (i, v) :: r, t, k => by rw [setsK, setK_eq, setsK_eq r]; rfl
theorem deadK_eq : ∀ (l : List Nat) (t : List AV) (k : List AV → Prop), deadK l t k = k (l.foldl (fun t i => t.set i .dead) t)
  | [], _, _ => rfl
  | i :: r, t, k => by rw [deadK, setK_eq, deadK_eq r]; rfl
def loopSt (ir : IR) (ds : List Nat) (sl : List (Nat × AV)) (hp : List (Nat × Chunk)) (st : St) : St :=
  ⟨sl.foldl (fun t p => t.set p.1 p.2) ((ir.slots ds).foldl (fun t i => t.set i .dead) st.t), updL hp st.h⟩
theorem loopK_eq (ir : IR) (ds : List Nat) (sl : List (Nat × AV)) (hp : List (Nat × Chunk)) (st : St) (k : St → Prop) : loopK ir ds sl hp st k = k (loopSt ir ds sl hp st) := by
  obtain ⟨t, h⟩ := st; unfold loopK loopSt; dsimp only; rw [deadK_eq, setsK_eq, updK_eq]
theorem vc_loop {Can : FuncId → List D → Res → Prop} {α : Type} {body : IR} {R : St → Prop} {X : List (Nat × (St → Prop))} {st : St} (x0 : α) (μ : α → Nat) (inv : α → Prop) (ds : List Nat)
    (sl : α → List (Nat × AV)) (hp : α → List (Nat × Chunk)) (h0 : inv x0) (hle : loopK body ds (sl x0) (hp x0) st fun s => LeS st s)
    (hround : ∀ x, inv x → loopK body ds (sl x) (hp x) st fun s => body.ex Can (fun s' => ∃ x', inv x' ∧ μ x' < μ x ∧ loopK body ds (sl x') (hp x') st fun s'' => LeS s' s'') R X s) :
    LoopEx (fun N' s => body.ex Can N' R X s) st := by
  rw [loopK_eq] at hle
  refine ⟨fun n s => ∃ x, inv x ∧ n = μ x ∧ s = loopSt body ds (sl x) (hp x) st, ⟨_, _, hle, x0, h0, rfl, rfl⟩, ?_⟩
  rintro n s ⟨x, hi, rfl, rfl⟩
  have h := hround x hi
  rw [loopK_eq] at h
  have e : (fun s' => ∃ x', inv x' ∧ μ x' < μ x ∧ loopK body ds (sl x') (hp x') st fun s'' => LeS s' s'') =
      fun s' => ∃ m s'', m < μ x ∧ LeS s' s'' ∧ ∃ x', inv x' ∧ m = μ x' ∧ s'' = loopSt body ds (sl x') (hp x') st := by
    funext s'
    apply propext
    constructor
    · rintro ⟨x', h1, h2, h3⟩
      rw [loopK_eq] at h3
      exact ⟨_, _, h2, h3, x', h1, rfl, rfl⟩
    · rintro ⟨m, s'', h1, h2, x', h3, rfl, rfl⟩
      exact ⟨x', h3, h1, by rw [loopK_eq]; exact h2⟩
  rw [← e]
  exact h
theorem vc_cut {Can : FuncId → List D → Res → Prop} {body : IR} {N R : St → Prop} {X : List (Nat × (St → Prop))} {st : St} (ds : List Nat)
    (sl : List (Nat × AV)) (hp : List (Nat × Chunk)) (h : loopK body ds sl hp st fun s => N s)
    (hG : ∀ K : St → Prop, (∀ s', (loopK body ds sl hp st fun s => LeS s' s) → K s') → body.ex Can K R X st) :
    CutEx (fun N' s => body.ex Can N' R X s) N st := by
  rw [loopK_eq] at h
  refine ⟨_, h, fun K hK => hG _ fun s' hle => ?_⟩
  rw [loopK_eq] at hle
  exact ⟨_, hle, hK⟩
end Go.X
namespace Go.X
open Go Go.RowKit
def D.plain : D → Bool
  | .int _ _ | .bool _ | .str _ | .emp | .nilp | .nilfn | .undef => true
  | _ => false
def D.same : D → D → Bool
  | .int k n, .int k' n' => decide (k = k') && decide (n = n')
  | .bool a, .bool b => decide (a = b)
  | .str a, .str b => decide (a = b)
  | .emp, .emp => true
  | .nilp, .nilp => true
  | .nilfn, .nilfn => true
  | .undef, .undef => true
  | _, _ => false
theorem D.same_iff {x y : D} : D.same x y = true ↔ x = y ∧ x.plain = true := by
  cases x <;> cases y <;> simp [D.same, D.plain]
def same2 {α : Type} (p : α → α → Bool) : List α → List α → Bool
  | [], [] => true
  | x :: xs, y :: ys => p x y && same2 p xs ys
  | _, _ => false
theorem same2_eq {α : Type} {p : α → α → Bool} (hp : ∀ x y, p x y = true → x = y) : ∀ {xs ys : List α}, same2 p xs ys = true → xs = ys
  | [], [], _ => rfl
  | x :: xs, y :: ys, h => by
    simp only [same2, Bool.and_eq_true] at h
    rw [hp x y h.1, same2_eq hp h.2]
def Opd.same : Opd → Opd → Bool
  | .t n, .t m => Nat.beq n m
  | .c x, .c y => x.same y
  | .f g, .f g' => Nat.beq g g'
  | _, _ => false
theorem Opd.same_eq {x y : Opd} (h : Opd.same x y = true) : x = y := by
  cases x <;> cases y <;> simp only [Opd.same, Bool.false_eq_true] at h
  · rw [Nat.eq_of_beq_eq_true h]
  · rw [(D.same_iff.1 h).1]
  · rw [Nat.eq_of_beq_eq_true h]
def oSame {α : Type} (p : α → α → Bool) : Option α → Option α → Bool
  | none, none => true
  | some x, some y => p x y
  | _, _ => false
theorem oSame_eq {α : Type} {p : α → α → Bool} (hp : ∀ x y, p x y = true → x = y) : ∀ {x y : Option α}, oSame p x y = true → x = y
  | none, none, _ => rfl
  | some x, some y, h => by rw [hp x y h]
def nSame (a b : Nat) : Bool := Nat.beq a b
theorem nSame_eq {a b : Nat} (h : nSame a b = true) : a = b := Nat.eq_of_beq_eq_true h
def partSame (a b : Nat × Nat × Opd) : Bool := nSame a.1 b.1 && (nSame a.2.1 b.2.1 && a.2.2.same b.2.2)
theorem partSame_eq (a b : Nat × Nat × Opd) (h : partSame a b = true) : a = b := by
  obtain ⟨a1, a2, a3⟩ := a; obtain ⟨b1, b2, b3⟩ := b
  simp only [partSame, Bool.and_eq_true] at h
  rw [nSame_eq h.1, nSame_eq h.2.1, Opd.same_eq h.2.2]
abbrev dSame := same2 D.same
theorem dSame_eq {a b : List D} (h : dSame a b = true) : a = b := same2_eq (fun _ _ h => (D.same_iff.1 h).1) h
abbrev osSame := same2 Opd.same
theorem osSame_eq {a b : List Opd} (h : osSame a b = true) : a = b := same2_eq (fun _ _ h => Opd.same_eq h) h
abbrev gSame := oSame nSame
theorem gSame_eq {a b : Option Nat} (h : gSame a b = true) : a = b := oSame_eq (fun _ _ h => nSame_eq h) h
abbrev opSame := oSame Opd.same
theorem opSame_eq {a b : Option Opd} (h : opSame a b = true) : a = b := oSame_eq (fun _ _ h => Opd.same_eq h) h
def XOp.same : XOp → XOp → Bool
  | .mov x, .mov x' => x.same x'
  | .pick c a b, .pick c' a' b' => c.same c' && (a.same a' && b.same b')
  | .alloc z, .alloc z' => dSame z z'
  | .box x, .box x' => x.same x'
  | .build z p, .build z' p' => dSame z z' && same2 partSame p p'
  | .bslice s p, .bslice s' p' => nSame s s' && osSame p p'
  | .bsliceD s p, .bsliceD s' p' => nSame s s' && osSame p p'
  | .load g p, .load g' p' => gSame g g' && p.same p'
  | .loadS p, .loadS p' => p.same p'
  | .store g p x, .store g' p' x' => gSame g g' && (p.same p' && x.same x')
  | .nilchk x, .nilchk x' => x.same x'
  | .arith o x y, .arith o' x' y' => decide (o = o') && (x.same x' && y.same y')
  | .cmp o x y, .cmp o' x' y' => decide (o = o') && (x.same x' && y.same y')
  | .cmpB o x y, .cmpB o' x' y' => decide (o = o') && (x.same x' && y.same y')
  | .eqa o k x y, .eqa o' k' x' y' => decide (o = o') && (decide (k = k') && (x.same x' && y.same y'))
  | .not x, .not x' => x.same x'
  | .neg x, .neg x' => x.same x'
  | .conv k x, .conv k' x' => decide (k = k') && x.same x'
  | .faddr k x, .faddr k' x' => nSame k k' && x.same x'
  | .field k g x, .field k' g' x' => nSame k k' && (gSame g g' && x.same x')
  | .iaddrA a b x y, .iaddrA a' b' x' y' => nSame a a' && (nSame b b' && (x.same x' && y.same y'))
  | .iaddrS b x y, .iaddrS b' x' y' => nSame b b' && (x.same x' && y.same y')
  | .idx a b g x y, .idx a' b' g' x' y' => nSame a a' && (nSame b b' && (gSame g g' && (x.same x' && y.same y')))
  | .idxS x y, .idxS x' y' => x.same x' && y.same y'
  | .slc b x l h, .slc b' x' l' h' => nSame b b' && (x.same x' && (opSame l l' && opSame h h'))
  | .slcA a b x l h, .slcA a' b' x' l' h' => nSame a a' && (nSame b b' && (x.same x' && (opSame l l' && opSame h h')))
  | .mkrow a b z n, .mkrow a' b' z' n' => nSame a a' && (nSame b b' && (dSame z z' && n.same n'))
  | .app a b x y, .app a' b' x' y' => nSame a a' && (nSame b b' && (x.same x' && y.same y'))
  | .len x, .len x' => x.same x'
  | .lenS x, .lenS x' => x.same x'
  | .mm m x z, .mm m' x' z' => decide (m = m') && (x.same x' && z.same z')
  | .slcS x l h, .slcS x' l' h' => x.same x' && (opSame l l' && opSame h h')
  | .lenA n, .lenA n' => nSame n n'
  | .call f a, .call f' a' => nSame f f' && osSame a a'
  | .callM f x a, .callM f' x' a' => nSame f f' && (x.same x' && osSame a a')
  | .callV x a, .callV x' a' => x.same x' && osSame a a'
  | .mkfn f a c, .mkfn f' a' c' => nSame f f' && (osSame a a' && osSame c c')
  | .extract x i, .extract x' i' => x.same x' && nSame i i'
  | .slc3 b x l h m, .slc3 b' x' l' h' m' => nSame b b' && (x.same x' && (l.same l' && (h.same h' && m.same m')))
  | .isNil b x, .isNil b' x' => decide (b = b') && x.same x'
  | .clr z x, .clr z' x' => dSame z z' && x.same x'
  | .b2s x, .b2s x' => x.same x'
  | _, _ => false
theorem XOp.same_eq {x y : XOp} (h : XOp.same x y = true) : x = y := by
  unfold XOp.same at h
  split at h
  all_goals first | (cases h; done) | skip
  all_goals (try simp only [Bool.and_eq_true, decide_eq_true_eq] at h)
  all_goals first
    | rw [Opd.same_eq h]
    | rw [dSame_eq h]
    | rw [nSame_eq h]
    | rw [dSame_eq h.1, Opd.same_eq h.2]
    | rw [dSame_eq h.1, same2_eq partSame_eq h.2]
    | rw [dSame_eq h.1, Opd.same_eq h.2]
    | rw [nSame_eq h.1, osSame_eq h.2]
    | rw [gSame_eq h.1, Opd.same_eq h.2]
    | rw [nSame_eq h.1, Opd.same_eq h.2]
    | rw [h.1, Opd.same_eq h.2]
    | rw [Opd.same_eq h.1, osSame_eq h.2]
    | rw [Opd.same_eq h.1, nSame_eq h.2]
    | rw [Opd.same_eq h.1, Opd.same_eq h.2]
    | rw [Opd.same_eq h.1, Opd.same_eq h.2.1, Opd.same_eq h.2.2]
    | rw [Opd.same_eq h.1, opSame_eq h.2.1, opSame_eq h.2.2]
    | rw [nSame_eq h.1, Opd.same_eq h.2.1, Opd.same_eq h.2.2]
    | rw [nSame_eq h.1, Opd.same_eq h.2.1, osSame_eq h.2.2]
    | rw [nSame_eq h.1, osSame_eq h.2.1, osSame_eq h.2.2]
    | rw [gSame_eq h.1, Opd.same_eq h.2.1, Opd.same_eq h.2.2]
    | rw [nSame_eq h.1, gSame_eq h.2.1, Opd.same_eq h.2.2]
    | rw [h.1, Opd.same_eq h.2.1, Opd.same_eq h.2.2]
    | rw [h.1, h.2.1, Opd.same_eq h.2.2.1, Opd.same_eq h.2.2.2]
    | rw [nSame_eq h.1, nSame_eq h.2.1, Opd.same_eq h.2.2.1, Opd.same_eq h.2.2.2]
    | rw [nSame_eq h.1, nSame_eq h.2.1, dSame_eq h.2.2.1, Opd.same_eq h.2.2.2]
    | rw [nSame_eq h.1, Opd.same_eq h.2.1, opSame_eq h.2.2.1, opSame_eq h.2.2.2]
    | rw [nSame_eq h.1, nSame_eq h.2.1, gSame_eq h.2.2.1, Opd.same_eq h.2.2.2.1, Opd.same_eq h.2.2.2.2]
    | rw [nSame_eq h.1, nSame_eq h.2.1, Opd.same_eq h.2.2.1, opSame_eq h.2.2.2.1, opSame_eq h.2.2.2.2]
    | rw [nSame_eq h.1, Opd.same_eq h.2.1, Opd.same_eq h.2.2.1, Opd.same_eq h.2.2.2.1, Opd.same_eq h.2.2.2.2]
abbrev nsSame := same2 nSame
theorem nsSame_eq {a b : List Nat} (h : nsSame a b = true) : a = b := same2_eq (fun _ _ h => nSame_eq h) h
def RO.same (a b : RO) : Bool := gSame a.dst b.dst && (nSame a.nm b.nm && (a.op.same b.op && (decide (a.guard = b.guard) && (nsSame a.forb b.forb && oSame nsSame a.tgt b.tgt))))
theorem RO.same_eq {a b : RO} (h : RO.same a b = true) : a = b := by
  obtain ⟨a1, a2, a3, a4, a5, a6⟩ := a; obtain ⟨b1, b2, b3, b4, b5, b6⟩ := b
  simp only [RO.same, Bool.and_eq_true, decide_eq_true_eq] at h
  obtain ⟨h1, h2, h3, h4, h5, h6⟩ := h
  rw [gSame_eq h1, nSame_eq h2, XOp.same_eq h3, h4, nsSame_eq h5, oSame_eq (fun _ _ h => nsSame_eq h) h6]
def IR.same : IR → IR → Bool
  | .skip, .skip => true
  | .reg d A r, .reg d' A' r' => decide (d = d') && (nsSame A A' && same2 RO.same r r')
  | .seq x y, .seq x' y' => x.same x' && y.same y'
  | .cond c x y, .cond c' x' y' => c.same c' && (x.same x' && y.same y')
  | .block i x, .block i' x' => nSame i i' && x.same x'
  | .loop x, .loop x' => x.same x'
  | .exit i, .exit i' => nSame i i'
  | .ret, .ret => true
  | _, _ => false
theorem IR.same_eq : ∀ {x y : IR}, IR.same x y = true → x = y := by
  intro x
  induction x with
  | skip => intro y h; cases y <;> first | rfl | cases h
  | ret => intro y h; cases y <;> first | rfl | cases h
  | exit i => intro y h; cases y <;> first | cases h; done | (rw [nSame_eq h])
  | loop x ih => intro y h; cases y <;> first | cases h; done | (rw [ih h])
  | reg d A r =>
    intro y h
    cases y <;> first | cases h; done | skip
    simp only [IR.same, Bool.and_eq_true, decide_eq_true_eq] at h
    rw [h.1, nsSame_eq h.2.1, same2_eq (fun _ _ h => RO.same_eq h) h.2.2]
  | seq x z ih1 ih2 =>
    intro y h
    cases y <;> first | cases h; done | skip
    simp only [IR.same, Bool.and_eq_true] at h
    rw [ih1 h.1, ih2 h.2]
  | cond c x z ih1 ih2 =>
    intro y h
    cases y <;> first | cases h; done | skip
    simp only [IR.same, Bool.and_eq_true] at h
    rw [Opd.same_eq h.1, ih1 h.2.1, ih2 h.2.2]
  | block i x ih =>
    intro y h
    cases y <;> first | cases h; done | skip
    simp only [IR.same, Bool.and_eq_true] at h
    rw [nSame_eq h.1, ih h.2]
  | gh g x ih => intro y h; cases y <;> cases h
  | ga g x ih => intro y h; cases y <;> cases h
  | cut x ih => intro y h; cases y <;> cases h
  | drawM A rosC ros => intro y h; cases y <;> cases h
def RX.same : RX → RX → Bool
  | .tmp n, .tmp m => nSame n m
  | .cell n g, .cell m g' => nSame n m && gSame g g'
  | _, _ => false
theorem RX.same_eq {x y : RX} (h : RX.same x y = true) : x = y := by
  cases x <;> cases y <;> simp only [RX.same, Bool.false_eq_true, Bool.and_eq_true] at h
  · rw [nSame_eq h]
  · rw [nSame_eq h.1, gSame_eq h.2]
def CF.same (a b : CF) : Bool := nSame a.np b.np && (nSame a.nt b.nt && (same2 RX.same a.res b.res && a.body.same b.body))
theorem CF.same_eq {a b : CF} (h : CF.same a b = true) : a = b := by
  obtain ⟨a1, a2, a3, a4⟩ := a; obtain ⟨b1, b2, b3, b4⟩ := b
  simp only [CF.same, Bool.and_eq_true] at h
  rw [nSame_eq h.1, nSame_eq h.2.1, same2_eq (fun _ _ h => RX.same_eq h) h.2.2.1, IR.same_eq h.2.2.2]
def drawOKb (P : Program) : IR → Code → Bool
  | .gh _ x, c => drawOKb P x c
  | .ga _ x, c => drawOKb P x c
  | .cut x, c => drawOKb P x c
  | .drawM _ rosC ros, c => match c with
    | .region _ ops _ => P.follows .mixedOrders && (lexX .any ops (ancs .any ops.toList []) ros 0 ros (Array.replicate ops.size false) && same2 RO.same (ros.map RO.bare) (rosC.map RO.bare))
    | _ => true
  | .seq X Y, c => match c with
    | .seq x y => drawOKb P X x && drawOKb P Y y
    | _ => true
  | .cond _ X Y, c => match c with
    | .cond _ x y => drawOKb P X x && drawOKb P Y y
    | _ => true
  | .block _ X, c => match c with
    | .block _ x => drawOKb P X x
    | _ => true
  | .loop X, c => match c with
    | .loop x => drawOKb P X x
    | _ => true
  | _, _ => true
theorem drawOKb_spec {P : Program} : ∀ (ir : IR) (c : Code), drawOKb P ir c = true → DrawOK P ir c := by
  intro ir
  induction ir with
  | gh g x ih => exact fun c h => ih c h
  | ga g x ih => exact fun c h => ih c h
  | cut x ih => exact fun c h => ih c h
  | drawM A rosC ros =>
    intro c h
    cases c
    case region id ops dr =>
      have h' : (P.follows .mixedOrders && (lexX .any ops (ancs .any ops.toList []) ros 0 ros (Array.replicate ops.size false) && same2 RO.same (ros.map RO.bare) (rosC.map RO.bare))) = true := h
      simp only [Bool.and_eq_true] at h'
      exact ⟨h'.1, h'.2.1, same2_eq (fun _ _ h => RO.same_eq h) h'.2.2⟩
    all_goals exact True.intro
  | seq X Y ihx ihy =>
    intro c h
    cases c
    case seq x y =>
      have h' : (drawOKb P X x && drawOKb P Y y) = true := h
      simp only [Bool.and_eq_true] at h'
      exact ⟨ihx x h'.1, ihy y h'.2⟩
    all_goals exact True.intro
  | cond o X Y ihx ihy =>
    intro c h
    cases c
    case cond o' x y =>
      have h' : (drawOKb P X x && drawOKb P Y y) = true := h
      simp only [Bool.and_eq_true] at h'
      exact ⟨ihx x h'.1, ihy y h'.2⟩
    all_goals exact True.intro
  | block id X ih =>
    intro c h
    cases c
    case block id' x => exact ih x h
    all_goals exact True.intro
  | loop X ih =>
    intro c h
    cases c
    case loop x => exact ih x h
    all_goals exact True.intro
  | _ => exact fun c h => True.intro
def isFn (P : Program) (f : FuncId) (c : CF) : Bool :=
  match P.funcs[f]? with
  | some fn => match cFunc P fn with
    | some c' => c'.same c.erase && (match fn.body with | some code => drawOKb P c.body code | none => true)
    | none => false
  | none => false
theorem isFn_eq {P : Program} {f : FuncId} {c : CF} (h : isFn P f c = true) : ∃ fn, P.funcs[f]? = some fn ∧ cFunc P fn = some c.erase ∧ ∀ code, fn.body = some code → DrawOK P c.body code := by
  unfold isFn at h
  split at h
  · rename_i fn hf
    split at h
    · rename_i c' hc
      rw [Bool.and_eq_true] at h
      refine ⟨fn, hf, by rw [hc, CF.same_eq h.1], fun code hb => ?_⟩
      have h2 := h.2
      rw [hb] at h2
      exact drawOKb_spec _ _ h2
    · cases h
  · cases h
theorem can_of {P : Program} {f : FuncId} {c : CF} (hf : isFn P f c = true) {args : List D} {r : Res} (hl : args.length = c.np) (hr : r.isPost = false) (hex : c.ex (Can P) args r) : Can P f args r := by
  obtain ⟨fn, h1, h2, h3⟩ := isFn_eq hf
  exact can_intro h1 h2 h3 hl hr hex
theorem can_ofM {P : Program} {f : FuncId} {c : CF} (hf : isFn P f c = true) {sz : Nat} {l : List (List D)} {args : List D} {p : Option (List (List D))} {r : Res} (hl : args.length + 1 = c.np) (hnf : c.body.noFrz = true)
    (hex : c.exM (Can P) sz l args p r) : Can P f (.ownA sz l :: args) (.post p r) := by
  obtain ⟨fn, h1, h2, h3⟩ := isFn_eq hf
  exact can_introM h1 h2 h3 hl hnf hex
theorem can_ofB {P : Program} {f : FuncId} {c : CF} (hf : isFn P f c = true) {sz : Nat} {l : List (List D)} {args : List D} {l' : List (List D)} {r : Res} (hl : args.length + 1 = c.np) (hnf : c.body.noFrz = true) (hll : l'.length = l.length) (hvt : r.isVT = true)
    (hex : c.exB (Can P) sz l args l' r) : Can P f args (.postB sz l l' r) := by
  obtain ⟨fn, h1, h2, h3⟩ := isFn_eq hf
  exact can_introB h1 h2 h3 hl hnf hll hvt hex
end Go.X
namespace Go.X
open Go Go.RowKit Go.ChangeShapes Go.WideShapes
inductive Ty where
  | int (k : IntKind)
  | bool
  | str
  | arr (n : Nat) (e : Ty)
  | st (fs : List Ty)
  | sl (e : Ty)
mutual
def Ty.cells : Ty → Nat
  | .arr n e => n * e.cells
  | .st fs => cellsL fs
  | _ => 1
def cellsL : List Ty → Nat
  | [] => 0
  | t :: ts => t.cells + cellsL ts
end
mutual
def Ty.Has : Ty → List D → Prop
  | .int k, xs => ∃ n, xs = [.int k n] ∧ (Lit.int k n).wf = true
  | .bool, xs => ∃ b, xs = [.bool b]
  | .str, xs => ∃ s : ByteArray, xs = [.str s] ∧ s.size ≤ maxLen
  | .arr n e, xs => ∃ yss : List (List D), xs = yss.flatten ∧ yss.length = n ∧ ∀ ys ∈ yss, e.Has ys
  | .st fs, xs => hasL fs xs
  | .sl e, xs => ∃ l : List (List D), xs = [.lst e.cells l] ∧ l.length ≤ maxLen ∧ ∀ r ∈ l, e.Has r
def hasL : List Ty → List D → Prop
  | [], xs => xs = []
  | t :: ts, xs => ∃ ys zs, xs = ys ++ zs ∧ t.Has ys ∧ hasL ts zs
end
theorem flat_len {c : Nat} : ∀ {yss : List (List D)}, (∀ ys ∈ yss, ys.length = c) → yss.flatten.length = yss.length * c
  | [], _ => by simp
  | y :: r, h => by
    rw [List.flatten_cons, List.length_append, h y (List.mem_cons_self ..), flat_len fun ys hy => h ys (List.mem_cons_of_mem _ hy), List.length_cons, Nat.succ_mul]; omega
mutual
theorem Ty.len : ∀ {t : Ty} {xs : List D}, t.Has xs → xs.length = t.cells
  | .int _, _, h => by obtain ⟨n, rfl, _⟩ := h; rfl
  | .bool, _, h => by obtain ⟨b, rfl⟩ := h; rfl
  | .str, _, h => by obtain ⟨s, rfl, _⟩ := h; rfl
  | .arr n e, xs, h => by
    obtain ⟨yss, rfl, rfl, h⟩ := h
    exact flat_len fun ys hy => Ty.len (h ys hy)
  | .st fs, xs, h => lenL h
  | .sl e, _, h => by obtain ⟨l, rfl, _⟩ := h; rfl
theorem lenL : ∀ {ts : List Ty} {xs : List D}, hasL ts xs → xs.length = cellsL ts
  | [], _, h => by rw [h]; rfl
  | t :: ts, _, h => by
    obtain ⟨ys, zs, rfl, h1, h2⟩ := h
    rw [List.length_append, Ty.len h1, lenL h2]; rfl
end
def fieldsTy (g : TypeId → Option Ty) (P : Program) : Nat → List Field → Option (List Ty)
  | _, [] => some []
  | o, f :: fs => (g f.type).bind fun x => if f.offset = o ∧ P.cellsOf f.type = x.cells then (fieldsTy g P (o + x.cells) fs).map (x :: ·) else none
def tyOf (P : Program) : Nat → TypeId → Option Ty
  | 0, _ => none
  | n + 1, t => match P.underlying t with
    | some .bool => some .bool
    | some (.int k) => some (.int k)
    | some .string => some .str
    | some (.slice e) => (tyOf P n e).bind fun x => if P.cellsOf e = x.cells ∧ 0 < x.cells then some (.sl x) else none
    | some (.array m e) => (tyOf P n e).bind fun x => if P.cellsOf e = x.cells ∧ P.cellsOf t = m * x.cells then some (.arr m x) else none
    | some (.struct fs) => (fieldsTy (tyOf P n) P 0 fs.toList).bind fun xs => if P.cellsOf t = cellsL xs then some (.st xs) else none
    | _ => none
structure SeeL (w : World) (xs : List D) (cs : List Value) : Prop where
  len : xs.length = cs.length
  one : ∀ (i : Nat) (v : Value), cs[i]? = some v → v.oneCell' = true
  see : ∀ (i : Nat) (x : D) (v : Value), xs[i]? = some x → cs[i]? = some v → Sees w (fun k => k < w.heap.size) x v
theorem SeeL.nil (w : World) : SeeL w [] [] := ⟨rfl, fun i v h => by simp at h, fun i x v h => by simp at h⟩
theorem SeeL.single {w : World} {x : D} {v : Value} (h1 : v.oneCell' = true) (h : Sees w (fun k => k < w.heap.size) x v) : SeeL w [x] [v] :=
  ⟨rfl, fun i u hu => by
    cases i with
    | zero => simp at hu; subst hu; exact h1
    | succ i => simp at hu, fun i y u hy hu => by
    cases i with
    | zero => simp at hu hy; subst hu hy; exact h
    | succ i => simp at hu⟩
theorem SeeL.append {w : World} {xs ys : List D} {cs ds : List Value} (h : SeeL w xs cs) (g : SeeL w ys ds) : SeeL w (xs ++ ys) (cs ++ ds) :=
  ⟨by rw [List.length_append, List.length_append, h.len, g.len], fun i v hv => by
    rcases Nat.lt_or_ge i cs.length with hi | hi
    · rw [List.getElem?_append_left hi] at hv; exact h.one i v hv
    · rw [List.getElem?_append_right hi] at hv; exact g.one _ v hv, fun i x v hx hv => by
    rcases Nat.lt_or_ge i cs.length with hi | hi
    · rw [List.getElem?_append_left hi] at hv
      rw [List.getElem?_append_left (by rw [h.len]; exact hi)] at hx
      exact h.see i x v hx hv
    · rw [List.getElem?_append_right hi] at hv
      rw [List.getElem?_append_right (by rw [h.len]; exact hi), h.len] at hx
      exact g.see _ x v hx hv⟩
theorem parts {w : World} {c : Nat} {Q : List D → Prop} : ∀ {n : Nat} {cs : List Value}, cs.length = n * c → (∀ i, i < n → ∃ ys, Q ys ∧ SeeL w ys ((cs.drop (i * c)).take c)) →
    ∃ yss : List (List D), yss.length = n ∧ (∀ ys ∈ yss, Q ys) ∧ SeeL w yss.flatten cs
  | 0, cs, hl, _ => by
    have : cs = [] := List.length_eq_zero_iff.1 (by omega)
    subst this
    exact ⟨[], rfl, fun _ h => (List.not_mem_nil h).elim, SeeL.nil w⟩
  | n + 1, cs, hl, h => by
    obtain ⟨ys, hq, hs⟩ := h 0 (by omega)
    rw [Nat.zero_mul, List.drop_zero] at hs
    obtain ⟨yss, h1, h2, h3⟩ := parts (w := w) (c := c) (Q := Q) (n := n) (cs := cs.drop c) (by rw [List.length_drop, hl, Nat.succ_mul]; omega) fun i hi => by
      obtain ⟨ys, hq, hs⟩ := h (i + 1) (by omega)
      refine ⟨ys, hq, ?_⟩
      rw [List.drop_drop]
      rwa [Nat.succ_mul, Nat.add_comm] at hs
    refine ⟨ys :: yss, by rw [List.length_cons, h1], fun z hz => ?_, ?_⟩
    · rcases List.mem_cons.1 hz with rfl | hz
      · exact hq
      · exact h2 z hz
    · rw [List.flatten_cons]
      have := hs.append h3
      rwa [List.take_append_drop] at this
section
variable {H : Type} {enc : TypeId × Value → H} {P : Program} {w : World} {spare : Nat → Bool} {held : Bool}
theorem fields_see {n fuel : Nat} (ih : ∀ {t : TypeId} {ty : Ty} {cs : List Value} {x : DataW H × List MemPlace}, tyOf P n t = some ty → DataW.trod enc P w 0 spare held fuel t cs = some x → ∃ xs : List D, ty.Has xs ∧ SeeL w xs cs)
    {cs : List Value} : ∀ {fs : List Field} {o : Nat} {tys : List Ty}, fieldsTy (tyOf P n) P o fs = some tys → cs.length = o + cellsL tys →
    (∀ f ∈ fs, ∃ x, DataW.trod enc P w 0 spare held fuel f.type ((cs.drop f.offset).take (P.cellsOf f.type)) = some x) → ∃ xs : List D, hasL tys xs ∧ SeeL w xs (cs.drop o)
  | [], o, tys, h, hl, _ => by
    simp only [fieldsTy, Option.some.injEq] at h; subst h
    refine ⟨[], rfl, ?_⟩
    rw [List.drop_of_length_le (by simp [cellsL] at hl; omega)]
    exact SeeL.nil w
  | f :: fs, o, tys, h, hl, ht => by
    simp only [fieldsTy, Option.bind_eq_some_iff] at h
    obtain ⟨ty, hty, h⟩ := h
    split at h
    · rename_i hc
      obtain ⟨ho, hc⟩ := hc
      simp only [Option.map_eq_some_iff] at h
      obtain ⟨r, hr, rfl⟩ := h
      obtain ⟨x, hx⟩ := ht f (List.mem_cons_self ..)
      obtain ⟨ys, h1, h2⟩ := ih hty hx
      obtain ⟨zs, h3, h4⟩ := fields_see ih hr (by simp only [cellsL] at hl; omega) fun g hg => ht g (List.mem_cons_of_mem _ hg)
      refine ⟨ys ++ zs, ⟨ys, zs, rfl, h1, h3⟩, ?_⟩
      have := h2.append h4
      rw [ho, hc, ← List.drop_drop] at this
      rwa [List.take_append_drop] at this
    · cases h
theorem sees_of_trod : ∀ {n : Nat} {t : TypeId} {ty : Ty} {fuel : Nat} {cs : List Value} {x : DataW H × List MemPlace}, tyOf P n t = some ty → DataW.trod enc P w 0 spare held fuel t cs = some x →
    ∃ xs : List D, ty.Has xs ∧ SeeL w xs cs
  | 0, t, ty, _, _, _, h, _ => by cases h
  | n + 1, t, ty, fuel, cs, x, h, hx => by
    unfold tyOf at h
    split at h
    · rename_i ht
      simp only [Option.some.injEq] at h; subst h
      obtain ⟨b, rfl, _⟩ := DataW.trod_bool ht hx
      exact ⟨_, ⟨b, rfl⟩, SeeL.single rfl (.bool b)⟩
    · rename_i k ht
      simp only [Option.some.injEq] at h; subst h
      obtain ⟨m, rfl, _, hw⟩ := DataW.trod_int ht hx
      exact ⟨_, ⟨m, rfl, hw⟩, SeeL.single rfl (.int k m)⟩
    · rename_i ht
      simp only [Option.some.injEq] at h; subst h
      obtain ⟨s, rfl, _, hw⟩ := DataW.trod_string ht hx
      exact ⟨_, ⟨s, rfl, hw⟩, SeeL.single rfl (.str s)⟩
    · rename_i e ht
      simp only [Option.bind_eq_some_iff] at h
      obtain ⟨te, hte, h⟩ := h
      split at h
      · rename_i hc
        obtain ⟨hc, hpos⟩ := hc
        simp only [Option.some.injEq] at h; subst h
        rcases DataW.trod_slice ht hx with ⟨rfl, _⟩ | ⟨a, len, cap, elems, rest, m, _, rfl, _, _, hle, hcap, hel, hi, _⟩
        · exact ⟨_, ⟨[], rfl, Nat.zero_le _, fun _ h => (List.not_mem_nil h).elim⟩, SeeL.single rfl (.lnil _ _ _)⟩
        · have key : ∀ i, i < len → ∃ (xs : List D) (ys : List Value), te.Has xs ∧ SeeL w xs ys ∧ w.cells? 0 (a.add (i * P.cellsOf e)) (P.cellsOf e) = some ys := fun i hilt => by
            have := hi i hilt
            obtain ⟨y, hy⟩ : ∃ y, elems[i]? = some y := ⟨_, List.getElem?_eq_getElem (by omega)⟩
            rw [hy, Option.bind_eq_some_iff] at this
            obtain ⟨ys, h1, h2⟩ := this
            obtain ⟨xs, h3, h4⟩ := sees_of_trod hte h2
            exact ⟨xs, ys, h3, h4, h1⟩
          rcases Nat.eq_zero_or_pos len with h0 | h0
          · subst h0
            exact ⟨_, ⟨[], rfl, Nat.zero_le _, fun _ h => (List.not_mem_nil h).elim⟩, SeeL.single rfl (.lnil _ _ _)⟩
          · have hex : ∀ i : Nat, ∃ (xs : List D) (ys : List Value), i < len → te.Has xs ∧ SeeL w xs ys ∧ w.cells? 0 (a.add (i * P.cellsOf e)) (P.cellsOf e) = some ys := fun i => by
              by_cases hi : i < len
              · obtain ⟨xs, ys, h⟩ := key i hi; exact ⟨xs, ys, fun _ => h⟩
              · exact ⟨[], [], fun h => absurd h hi⟩
            let X : Nat → List D := fun i => (hex i).choose
            let Y : Nat → List Value := fun i => (hex i).choose_spec.choose
            have hXY : ∀ i, i < len → te.Has (X i) ∧ SeeL w (X i) (Y i) ∧ w.cells? 0 (a.add (i * P.cellsOf e)) (P.cellsOf e) = some (Y i) := fun i => (hex i).choose_spec.choose_spec
            have cell : ∀ i j, i < len → j < te.cells → w.cell? ((a.add (i * te.cells)).add j) = (Y i)[j]? := fun i j hi hj => by
              have := (World.cells?_some (hXY i hi).2.2).2.2 j (by omega)
              rwa [hc] at this
            have ylen : ∀ i, i < len → (Y i).length = te.cells := fun i hi => by rw [(World.cells?_some (hXY i hi).2.2).2.1, hc]
            obtain ⟨v0, hv0⟩ : ∃ v, (Y 0)[0]? = some v := ⟨_, List.getElem?_eq_getElem (by rw [ylen 0 h0]; exact hpos)⟩
            have hcell0 := cell 0 0 h0 hpos
            rw [hv0] at hcell0
            obtain ⟨b, off, spot⟩ := a
            have hspot : spot = none := by simpa [Addr.add] using World.cell?_spot hcell0
            subst hspot
            obtain ⟨c, T, fz, hb⟩ : ∃ c T fz, w.heap[b]? = some (.cells c T fz) := by
              simp only [Addr.add, Nat.zero_mul, if_true, World.cell?] at hcell0
              split at hcell0
              · rename_i c T fz hb; exact ⟨c, T, fz, hb⟩
              · cases hcell0
            have cell' : ∀ i j, i < len → j < te.cells → c[off + i * te.cells + j]? = (Y i)[j]? := fun i j hi hj => by
              rw [← cell i j hi hj]
              have e : ((⟨b, off, none⟩ : Addr).add (i * te.cells)).add j = ⟨b, off + i * te.cells + j, none⟩ := by
                rw [add_plain, add_plain]
              rw [e]
              simp [World.cell?, hb]
            have hbs : b < w.heap.size := (Array.getElem?_eq_some_iff.1 hb).1
            refine ⟨[.lst te.cells ((List.range len).map X)], ⟨_, rfl, by simp; omega, fun r hr => ?_⟩, SeeL.single rfl ?_⟩
            · obtain ⟨i, hi, rfl⟩ := List.mem_map.1 hr
              exact (hXY i (by simpa using hi)).1
            · have hsl : (.slice (some ⟨b, off, none⟩) len cap : Value) = .slice (some ⟨b, off, none⟩) ((List.range len).map X).length cap := by simp
              rw [hsl]
              refine .lst (fun i j => ((Y i)[j]?).getD Go.undef) hbs hb (by simp; exact hle) (fun i els hel => ?_) fun i els j x hel hx => ?_
              · have hi : i < len := by
                  have := (List.getElem?_eq_some_iff.1 hel).1; simpa using this
                have hX : els = X i := by
                  rw [List.getElem?_map, List.getElem?_range hi] at hel
                  simpa using hel.symm
                subst hX
                have hlen := (hXY i hi).2.1.len
                rw [ylen i hi] at hlen
                refine ⟨hlen, fun j hj => ?_⟩
                have hy : (Y i)[j]? = some ((Y i)[j]'(by rw [ylen i hi]; exact hj)) := List.getElem?_eq_getElem _
                rw [cell' i j hi hj, hy]
                exact ⟨rfl, (hXY i hi).2.1.one j _ hy⟩
              · have hi : i < len := by
                  have := (List.getElem?_eq_some_iff.1 hel).1; simpa using this
                have hX : els = X i := by
                  rw [List.getElem?_map, List.getElem?_range hi] at hel
                  simpa using hel.symm
                subst hX
                have hj : j < te.cells := by
                  have := (List.getElem?_eq_some_iff.1 hx).1
                  rw [(hXY i hi).2.1.len, ylen i hi] at this; exact this
                have hy : (Y i)[j]? = some ((Y i)[j]'(by rw [ylen i hi]; exact hj)) := List.getElem?_eq_getElem _
                show Sees w _ x (((Y i)[j]?).getD Go.undef)
                rw [hy]
                exact (hXY i hi).2.1.see j x _ hx hy
      · cases h
    · rename_i m e ht
      simp only [Option.bind_eq_some_iff] at h
      obtain ⟨te, hte, h⟩ := h
      split at h
      · rename_i hc
        obtain ⟨hc, hc2⟩ := hc
        simp only [Option.some.injEq] at h; subst h
        obtain ⟨xs, f', rfl, _, hl, hxl, hi⟩ := DataW.trod_array ht hx
        obtain ⟨yss, h1, h2, h3⟩ := parts (w := w) (c := te.cells) (Q := te.Has) (n := m) (cs := cs) (by rw [hl, hc2]) fun i hilt => by
          have := hi i hilt
          rw [List.getElem?_eq_getElem (by omega), hc] at this
          exact sees_of_trod hte this
        exact ⟨_, ⟨yss, rfl, h1, h2⟩, h3⟩
      · cases h
    · rename_i fs ht
      simp only [Option.bind_eq_some_iff] at h
      obtain ⟨tys, htys, h⟩ := h
      split at h
      · rename_i hc
        simp only [Option.some.injEq] at h; subst h
        obtain ⟨xs, f', rfl, _, hl, hxl, hi⟩ := DataW.trod_struct ht hx
        obtain ⟨ys, h1, h2⟩ := fields_see (fuel := f') (fun {t ty cs x} h1 h2 => sees_of_trod h1 h2) htys (by rw [hl, hc]; omega) fun f hf => by
          obtain ⟨i, hi', he⟩ := List.getElem_of_mem hf
          have hfi : fs[i]? = some f := by
            rw [Array.getElem?_eq_getElem (by simpa using hi')]
            simpa using he
          have := hi i f hfi
          rw [List.getElem?_eq_getElem (by have := (Array.getElem?_eq_some_iff.1 hfi).1; omega)] at this
          exact ⟨_, this⟩
        exact ⟨ys, h1, by simpa using h2⟩
      · cases h
    · cases h
end
def Ty.arg : Ty → D → Prop
  | .arr n e, x => ∃ xs, x = .agg xs ∧ (Ty.arr n e).Has xs
  | .st fs, x => ∃ xs, x = .agg xs ∧ (Ty.st fs).Has xs
  | t, x => t.Has [x]
def argsHave : List Ty → List D → Prop
  | [], [] => True
  | t :: ts, x :: xs => t.arg x ∧ argsHave ts xs
  | _, _ => False
section
variable {H : Type} {enc : TypeId × Value → H} {P : Program} {w : World}
theorem see_arg {n : Nat} {t : TypeId} {ty : Ty} {base : Nat} {v : Value} {d : DataW H} {ps : List MemPlace} (h : tyOf P n t = some ty) (hv : Value.okWide P w .any base t v)
    (hd : DataW.Trod enc P w 0 (fun _ => true) true t v d ps) : ∃ x : D, ty.arg x ∧ Sees w (fun k => k < w.heap.size) x v := by
  obtain ⟨fuel, hd⟩ := hd
  obtain ⟨xs, h1, h2⟩ := sees_of_trod h hd
  have one : ∀ {x : D}, xs = [x] → v.cells = #[v] → Sees w (fun k => k < w.heap.size) x v := fun e hc => by
    subst e
    exact h2.see 0 _ _ rfl (by rw [hc]; rfl)
  have agg : ∀ {cs : Array Value}, v = .agg cs → Sees w (fun k => k < w.heap.size) (.agg xs) v := fun e => by
    subst e
    refine .agg (by rw [h2.len]; rfl) (fun i u hu => h2.one i u (by simpa [Value.cells] using hu)) fun i x u hx hu => h2.see i x u hx (by simpa [Value.cells] using hu)
  cases n with
  | zero => cases h
  | succ n =>
    unfold tyOf at h
    split at h
    · rename_i ht
      simp only [Option.some.injEq] at h; subst h
      obtain ⟨b, rfl⟩ := okWide_bool ht hv
      obtain ⟨c, rfl⟩ := h1
      exact ⟨_, ⟨c, rfl⟩, one rfl rfl⟩
    · rename_i k ht
      simp only [Option.some.injEq] at h; subst h
      obtain ⟨b, rfl⟩ := okWide_int ht hv
      obtain ⟨c, rfl, hw⟩ := h1
      exact ⟨_, ⟨c, rfl, hw⟩, one rfl rfl⟩
    · rename_i ht
      simp only [Option.some.injEq] at h; subst h
      obtain ⟨b, rfl⟩ := okWide_string ht hv
      obtain ⟨c, rfl, hw⟩ := h1
      exact ⟨_, ⟨c, rfl, hw⟩, one rfl rfl⟩
    · rename_i e ht
      simp only [Option.bind_eq_some_iff] at h
      obtain ⟨te, hte, h⟩ := h
      split at h
      · simp only [Option.some.injEq] at h; subst h
        obtain ⟨a, b, c, rfl⟩ := okWide_slice ht hv
        obtain ⟨l, rfl, hw⟩ := h1
        exact ⟨_, ⟨l, rfl, hw⟩, one rfl rfl⟩
      · cases h
    · rename_i m e ht
      simp only [Option.bind_eq_some_iff] at h
      obtain ⟨te, hte, h⟩ := h
      split at h
      · simp only [Option.some.injEq] at h; subst h
        simp only [Value.okWide, ht] at hv
        obtain ⟨cs, rfl, _⟩ := hv
        exact ⟨_, ⟨xs, rfl, h1⟩, agg rfl⟩
      · cases h
    · rename_i fs ht
      simp only [Option.bind_eq_some_iff] at h
      obtain ⟨te, hte, h⟩ := h
      split at h
      · simp only [Option.some.injEq] at h; subst h
        simp only [Value.okWide, ht] at hv
        obtain ⟨cs, rfl, _⟩ := hv
        exact ⟨_, ⟨xs, rfl, h1⟩, agg rfl⟩
      · cases h
    · cases h
theorem see_args {n base : Nat} : ∀ {ts : List TypeId} {tys : List Ty} {vs : List Value} {ds : List (DataW H)} {ps : List MemPlace}, ts.map (tyOf P n) = tys.map some →
    (∀ (j : Nat) t v, ts[j]? = some t → vs[j]? = some v → Value.okWide P w .any base t v) → DataW.TrodAll enc P w 0 (fun _ => true) true ts vs ds ps →
    ∃ xs : List D, argsHave tys xs ∧ xs.length = vs.length ∧ ∀ (i : Nat) (x : D) (v : Value), xs[i]? = some x → vs[i]? = some v → Sees w (fun k => k < w.heap.size) x v
  | [], tys, vs, ds, ps, ht, hv, hd => by
    obtain ⟨rfl, rfl, rfl⟩ := trodAll_nil hd
    cases tys with
    | nil => exact ⟨[], trivial, rfl, fun i x v h => by simp at h⟩
    | cons => simp at ht
  | t :: ts, tys, vs, ds, ps, ht, hv, hd => by
    obtain ⟨v, vs', d, ds', a, b, rfl, rfl, rfl, h1, h2⟩ := trodAll_cons hd
    cases tys with
    | nil => simp at ht
    | cons ty tys =>
      simp only [List.map_cons, List.cons.injEq] at ht
      obtain ⟨x, hx, hs⟩ := see_arg ht.1 (hv 0 t v rfl rfl) h1
      obtain ⟨xs, h3, h4, h5⟩ := see_args ht.2 (fun j t v h1 h2 => hv (j + 1) t v h1 h2) h2
      refine ⟨x :: xs, ⟨hx, h3⟩, by simp [h4], fun i y u hy hu => ?_⟩
      cases i with
      | zero => simp at hy hu; subst hy hu; exact hs
      | succ i => exact h5 i y u (by simpa using hy) (by simpa using hu)
theorem below_all (hl : laidOutB P = true) {W W' : World} (hb : Below W.heap.size W W') : ∀ {ts : List TypeId} {vs : List Value} {ds : List (DataW H)} {ps : List MemPlace}, ts.all (fun t => P.readableRec t && decide (t < P.types.size)) = true →
    DataW.TrodAll enc P W 0 (fun _ => true) true ts vs ds ps → (∀ x ∈ ps, x.block < W.heap.size) → DataW.TrodAll enc P W' 0 (fun b => decide (b < W.heap.size)) true ts vs ds ps
  | [], vs, ds, ps, _, hd, _ => by
    obtain ⟨rfl, rfl, rfl⟩ := trodAll_nil hd
    rfl
  | t :: ts, vs, ds, ps, hr, hd, hlt => by
    obtain ⟨v, vs', d, ds', a, b, rfl, rfl, rfl, h1, h2⟩ := trodAll_cons hd
    simp only [List.all_cons, Bool.and_eq_true, decide_eq_true_eq] at hr
    exact ⟨a, b, Below.trod hl hr.1.1 hr.1.2 h1 hb fun x hx => hlt x (List.mem_append_left _ hx), below_all hl hb hr.2 h2 fun x hx => hlt x (List.mem_append_right _ hx), rfl⟩
theorem law_contract {C : Checked} {f : FuncId} {fn : Func} {s : ChangeSpec} {tys : List Ty} {tb : TypeId} {apart handsOn : Bool} (hP : C.prog = P) (hl : laidOutB P = true)
    (hty : fn.params.toList.map (tyOf P 10) = tys.map some) (hread : fn.params.toList.all (fun t => P.readableRec t && decide (t < P.types.size)) = true)
    (hres : fn.resultTypes = #[tb]) (hb : P.underlying tb = some .bool) (hv : s.vars = [])
    (hs : ∀ ds : List (DataW H), ds.length = tys.length → s.fn H ds = { results := [.lit (.bool true)], args := ds })
    (can : ∀ args, argsHave tys args → Can P f args (.val (.bool true))) (hpl : Plain P f)
    (W : World) (base : Nat) (args : Array Value) (ds gs : List (DataW H)) (before : List MemPlace)
    (hval : ∀ (j : Nat) t v, fn.params[j]? = some t → args[j]? = some v → Value.okWide C.prog W .any base t v)
    (hW : DataW.Whole enc C.prog fn.params.toList s.vars apart W args.toList ds gs before) :
    Calls C.prog f args W fun e W' => ∃ v, e = .returned v ∧ s.post enc C.prog fn apart true handsOn false W args v W' := by
  subst hP
  have hW' := hW
  obtain ⟨p, q, hA, hV, rfl, _, _⟩ := hW
  rw [hv] at hV
  obtain ⟨rfl, rfl⟩ := trodVars_none hV
  obtain ⟨xs, h1, h2, h3⟩ := see_args (base := base) hty (fun j t v h1 h2 => hval j t v (by simpa using h1) (by simpa using h2)) hA
  obtain ⟨_, hc⟩ := (can xs h1).toD rfl
  have hlt : ∀ x ∈ p, x.block < W.heap.size := fun x hx => hW'.lt x (by simpa using hx)
  have hdl : ds.length = tys.length := by
    have h4 : ∀ {ts : List TypeId} {vs : List Value} {ds : List (DataW H)} {ps : List MemPlace}, DataW.TrodAll enc C.prog W 0 (fun _ => true) true ts vs ds ps → ds.length = ts.length := by
      intro ts
      induction ts with
      | nil =>
        intro vs ds ps h
        obtain ⟨rfl, rfl, rfl⟩ := trodAll_nil h
        rfl
      | cons t ts ih =>
        intro vs ds ps h
        obtain ⟨v, vs', d, ds', a, b, rfl, rfl, rfl, _, h2⟩ := trodAll_cons h
        simp [ih h2]
    have := h4 hA
    have e := congrArg List.length hty
    simp only [List.length_map] at e
    omega
  refine (hpl.calls (hc W (fun k => k < W.heap.size) args (fun _ h => h) (by rw [← Array.length_toList, h2]) fun i x v hx hv => h3 i x v hx (by simpa using hv))).mono fun e W' ⟨v, he, hbl, G, _, hG⟩ => ?_
  have hG' : Sees W' G (.bool true) v := hG
  cases hG'
  refine ⟨_, he, ds, [], _, [], p ++ [], [], hW', ?_, ?_, ?_, hbl.frame _, fun h => by cases h⟩
  · rw [List.append_nil, hs ds hdl, hres]
    exact trodAll_mk1 (shut_bool hb true)
  · rw [List.append_nil, List.append_nil, hs ds hdl]
    exact below_all hl hbl hread hA hlt
  · rw [List.append_nil, hs ds hdl, hv]; rfl
end
end Go.X
