import Derived.Test.YtphelkciklpakaaX2
import Derived.Laws.StructEq
set_option linter.all false
namespace Go.X
open Go Go.RowKit
section
variable {P : Program} {w0 : World} {wr : Wr} {F0 F : Nat → Prop} {E : Env} {t : List AV} {h hm : List Chunk} {a : Act} {w w' : World} {o : Oper} {nm : Nat}
def Fc (F : Nat → Prop) (E : Env) (h : List Chunk) (k : Nat) : Prop := F k ∨ (∃ (b : Nat) (c : Chunk) (q : Nat), h[b]? = some c ∧ c.live ∧ E.loc b = some (k, q)) ∨ ∃ b i, InnAt h E b i k
theorem fc_fin (hs : SimAt w0 wr F0 F E ⟨t, h⟩ a w) {k : Nat} (hk : Fc F E h k) : k < w.heap.size := by
  rcases hk with hk | ⟨b, c, q, h1, h2, h3⟩ | ⟨b, i, hi⟩
  · exact hs.fin k hk
  · exact (hs.heap b c h1).lt h2 h3
  · exact (inn_lt hs hi).1
theorem inrow_sees {F' : Nat → Prop} {ob : Option Nat} {isz : Nat} {r : List (List D)} {v : Value} (h : InRow w F ob isz r v) (hF : ∀ k, F k → F' k) (hk : ∀ k, ob = some k → F' k) : Sees w F' (.lst isz r) v := by
  cases h with
  | nil a h h0 hv => subst h0; rw [hv]; exact .lnil _ _ _
  | row vals h hb hF1 hcap hroom hv hc hs =>
    rw [hv]
    exact .lst vals (hk _ h) hb hcap (by simpa using hc) fun i l j x h1 h2 => (hs i l j x h1 h2).mono hF (fun _ _ => rfl)
theorem laid_nest {F' : Nat → Prop} {b isz k q : Nat} {rs : List (List (List D))} (hch : ChunkAt w F E b (.nest isz rs none)) (hloc : E.loc b = some (k, q)) (hF : ∀ k, F k → F' k) (hk : ∀ i k, i < rs.length → E.il b i = some k → F' k) :
    ∃ vals, Laid w F' k q 1 (nestD isz rs) vals ∧ E.ln b = (nestD isz rs).length := by
  cases hch with
  | nestE _ _ h => rw [hloc] at h; cases h
  | nest vals h hn hb hF1 hc ho hi =>
    rw [hloc] at h; simp only [Option.some.injEq, Prod.mk.injEq] at h
    obtain ⟨rfl, rfl⟩ := h
    refine ⟨fun i _ => vals i, ⟨⟨_, _, _, hb, fun i l hl => ?_⟩, fun i l j x hl hx => ?_⟩, by simp [nestD, hn]⟩
    · simp only [nestD, List.getElem?_map, Option.map_eq_some_iff] at hl
      obtain ⟨r, hr, rfl⟩ := hl
      refine ⟨rfl, fun j hj => ?_⟩
      have hj0 : j = 0 := by omega
      subst hj0
      have := hc i (List.getElem?_eq_some_iff.1 hr).1
      rwa [Nat.mul_one, Nat.add_zero]
    · simp only [nestD, List.getElem?_map, Option.map_eq_some_iff] at hl
      obtain ⟨r, hr, rfl⟩ := hl
      have hj0 : j = 0 := by have := (List.getElem?_eq_some_iff.1 hx).1; simp at this; omega
      subst hj0
      simp only [List.getElem?_cons_zero, Option.some.injEq] at hx; subst hx
      exact inrow_sees (hi i r hr (by simp)) hF fun k ek => hk i k (List.getElem?_eq_some_iff.1 hr).1 ek
theorem laid_mono {F' : Nat → Prop} {k q sz : Nat} {l : List (List D)} {vals : Nat → Nat → Value} (hl : Laid w F k q sz l vals) (hF : ∀ k, F k → F' k) : Laid w F' k q sz l vals :=
  ⟨hl.c, fun i r j x h1 h2 => (hl.s i r j x h1 h2).mono hF (fun _ _ => rfl)⟩
theorem toD_sound (hs : SimAt w0 wr F0 F E ⟨t, h⟩ a w) (hsub : Sub hm h) {x : AV} {v : Value} (hv : SeesA w F E x v) {k : D → Prop} (hy : toDK hm x k) :
    ∃ y, k y ∧ Sees w (Fc F E h) y v ∧ (∀ z, x = .d z → y = z) := by
  have hF : ∀ k, F k → Fc F E h k := fun _ h => .inl h
  unfold toDK at hy
  split at hy
  · cases hv with | d hd => exact ⟨_, hy, hd.mono hF (fun _ _ => rfl), fun z e => by simpa using e⟩
  · rename_i b sz e off
    obtain ⟨p, q, rfl, hloc⟩ := seesA_ptr hv
    split at hy
    · rename_i sz' l hc
      obtain ⟨rfl, hy⟩ := hy
      have hb := sub_get hsub hc trivial
      obtain ⟨vals, hl, _⟩ := laid_chunk (hs.heap _ _ hb) hloc
      exact ⟨_, hy, pd_of_laid (.inr (.inl ⟨b, _, _, hb, trivial, hloc⟩)) (laid_mono hl hF) e off, by simp⟩
    · exact hy.elim
  · rename_i b sz
    split at hy
    · rename_i sz' l hc
      obtain ⟨rfl, hy⟩ := hy
      have hb := sub_get hsub hc trivial
      have hch := hs.heap _ _ hb
      refine ⟨_, hy, ?_, by simp⟩
      rcases seesA_row hv with ⟨k, cap, c, T', fz, rfl, hloc, hk, hlen, _⟩ | ⟨ad, rfl, hloc, h0⟩
      · obtain ⟨vals, hl, _, hln, _⟩ := laid_chunk hch hloc
        rw [hln] at hlen ⊢
        exact lst_of_laid (.inr (.inl ⟨b, _, _, hb, trivial, hloc⟩)) (laid_mono hl hF) hlen
      · cases hch with
        | empty => exact .lnil _ _ _
        | data _ h2 => rw [hloc] at h2; simp at h2
    · rename_i isz rs hc
      obtain ⟨rfl, hy⟩ := hy
      have hb := sub_get hsub hc trivial
      have hch := hs.heap _ _ hb
      refine ⟨_, hy, ?_, by simp⟩
      rcases seesA_row hv with ⟨k, cap, c, T', fz, rfl, hloc, hk, hlen, _⟩ | ⟨ad, rfl, hloc, h0⟩
      · obtain ⟨vals, hl, hln⟩ := laid_nest hch hloc hF (fun i k hi ek => .inr (.inr ⟨b, i, _, _, _, _, hb, List.getElem?_eq_getElem hi, by simp, ek⟩))
        rw [hln] at hlen ⊢
        exact lst_of_laid (.inr (.inl ⟨b, _, _, hb, trivial, hloc⟩)) hl hlen
      · cases hch with
        | nestE => exact .lnil _ _ _
        | nest _ h2 => rw [hloc] at h2; simp at h2
    · exact hy.elim
  · rename_i b sz off m
    split at hy
    · rename_i sz' l hc
      obtain ⟨⟨rfl, hfit⟩, hy⟩ := hy
      have hb := sub_get hsub hc trivial
      have hch := hs.heap _ _ hb
      obtain ⟨k, q, cap, rfl, hloc, hm1⟩ := seesA_sub hv
      obtain ⟨vals, hl, _, hln, _⟩ := laid_chunk hch hloc
      refine ⟨_, hy, ?_, by simp⟩
      have hlen : ((l.drop off).take m).length = m := by simp; omega
      have := lst_of_laid (cap := cap) (.inr (.inl ⟨b, _, _, hb, trivial, hloc⟩) : Fc F E h k) (laid_cut (laid_mono hl hF) off m) (by rw [hlen]; exact hm1)
      rwa [hlen] at this
    · exact hy.elim
  · exact hy.elim
theorem toDs_sound (hs : SimAt w0 wr F0 F E ⟨t, h⟩ a w) (hsub : Sub hm h) : ∀ {xs : List AV} {vs : Array Value} {k : List D → Prop}, vs.size = xs.length →
    (∀ (i : Nat) (x : AV) (v : Value), xs[i]? = some x → vs[i]? = some v → SeesA w F E x v) → toDsK hm xs k →
    ∃ ys, k ys ∧ ys.length = xs.length ∧ (∀ (i : Nat) (y : D) (v : Value), ys[i]? = some y → vs[i]? = some v → Sees w (Fc F E h) y v) ∧ (∀ (i : Nat) (z : D), xs[i]? = some (AV.d z) → ys[i]? = some z)
  | [], vs, k, hl, hv, hy => ⟨[], hy, rfl, by simp, by simp⟩
  | x :: xs, vs, k, hl, hv, hy => by
    simp only [toDsK] at hy
    have h0 : 0 < vs.size := by rw [hl]; simp
    obtain ⟨y, hy, h1, h2⟩ := toD_sound hs hsub (hv 0 x _ rfl (Array.getElem?_eq_getElem h0)) hy
    obtain ⟨ys, hk, h3, h4, h5⟩ := toDs_sound (vs := vs.extract 1 vs.size) hs hsub (by simp at hl ⊢; omega) (fun i x' v hx hv' => by
      rw [Array.getElem?_extract] at hv'
      split at hv'
      · exact hv (i + 1) x' v (by simpa using hx) (by rwa [Nat.add_comm] at hv')
      · simp at hv') hy
    refine ⟨y :: ys, hk, by simp [h3], fun i z v hz hv' => ?_, fun i z hz => ?_⟩
    · cases i with
      | zero =>
        simp only [List.getElem?_cons_zero, Option.some.injEq] at hz; subst hz
        rw [Array.getElem?_eq_getElem h0] at hv'; simp only [Option.some.injEq] at hv'; subst hv'
        exact h1
      | succ i =>
        simp only [List.getElem?_cons_succ] at hz
        have hlt := (Array.getElem?_eq_some_iff.1 hv').1
        refine h4 i z v hz ?_
        rw [Array.getElem?_extract, if_pos (by simp; omega), Nat.add_comm]; exact hv'
    · cases i with
      | zero => simp only [List.getElem?_cons_zero, Option.some.injEq] at hz; subst hz; simp [h2 z rfl]
      | succ i => simp only [List.getElem?_cons_succ] at hz ⊢; exact h5 i z hz
theorem toA_sound (hs : SimAt w0 wr F0 F E ⟨t, h⟩ a w) (hsub : Sub hm h) {x : AV} {v : Value} (hv : SeesA w F E x v) {k : D → Prop} (hy : toAK hm x k) :
    ∃ y, k y ∧ Sees w (Fc F E h) y v ∧ (∀ z, x = .d z → y = z) := by
  unfold toAK at hy
  split at hy
  · rename_i f c d
    obtain ⟨fv, cv, rfl, h1, h2, h3, h4⟩ := seesA_fn hv
    obtain ⟨c', hy, g1, g2, _⟩ := toDs_sound hs hsub h1 h3 hy
    obtain ⟨d', hy, g3, g4, _⟩ := toDs_sound hs hsub h2 h4 hy
    exact ⟨_, hy, .fn (by omega) (by omega) g2 g4, by simp⟩
  · exact toD_sound hs hsub hv hy
theorem toAs_sound (hs : SimAt w0 wr F0 F E ⟨t, h⟩ a w) (hsub : Sub hm h) : ∀ {xs : List AV} {vs : Array Value} {k : List D → Prop}, vs.size = xs.length →
    (∀ (i : Nat) (x : AV) (v : Value), xs[i]? = some x → vs[i]? = some v → SeesA w F E x v) → toAsK hm xs k →
    ∃ ys, k ys ∧ ys.length = xs.length ∧ (∀ (i : Nat) (y : D) (v : Value), ys[i]? = some y → vs[i]? = some v → Sees w (Fc F E h) y v) ∧ (∀ (i : Nat) (z : D), xs[i]? = some (AV.d z) → ys[i]? = some z)
  | [], vs, k, hl, hv, hy => ⟨[], hy, rfl, by simp, by simp⟩
  | x :: xs, vs, k, hl, hv, hy => by
    simp only [toAsK] at hy
    have h0 : 0 < vs.size := by rw [hl]; simp
    obtain ⟨y, hy, h1, h2⟩ := toA_sound hs hsub (hv 0 x _ rfl (Array.getElem?_eq_getElem h0)) hy
    obtain ⟨ys, hk, h3, h4, h5⟩ := toAs_sound (vs := vs.extract 1 vs.size) hs hsub (by simp at hl ⊢; omega) (fun i x' v hx hv' => by
      rw [Array.getElem?_extract] at hv'
      split at hv'
      · exact hv (i + 1) x' v (by simpa using hx) (by rwa [Nat.add_comm] at hv')
      · simp at hv') hy
    refine ⟨y :: ys, hk, by simp [h3], fun i z v hz hv' => ?_, fun i z hz => ?_⟩
    · cases i with
      | zero =>
        simp only [List.getElem?_cons_zero, Option.some.injEq] at hz; subst hz
        rw [Array.getElem?_eq_getElem h0] at hv'; simp only [Option.some.injEq] at hv'; subst hv'
        exact h1
      | succ i =>
        simp only [List.getElem?_cons_succ] at hz
        have hlt := (Array.getElem?_eq_some_iff.1 hv').1
        refine h4 i z v hz ?_
        rw [Array.getElem?_extract, if_pos (by simp; omega), Nat.add_comm]; exact hv'
    · cases i with
      | zero => simp only [List.getElem?_cons_zero, Option.some.injEq] at hz; subst hz; simp [h2 z rfl]
      | succ i => simp only [List.getElem?_cons_succ] at hz ⊢; exact h5 i z hz
theorem allD_spec : ∀ {xs : List AV}, allD xs = true → ∀ (i : Nat) (x : AV), xs[i]? = some x → ∃ z, x = .d z
  | [], _, i, x, hx => by simp at hx
  | y :: ys, h, i, x, hx => by
    unfold allD at h
    split at h
    · cases i with
      | zero => simp only [List.getElem?_cons_zero, Option.some.injEq] at hx; subst hx; exact ⟨_, rfl⟩
      | succ i => exact allD_spec h i x (by simpa using hx)
    · simp at h
theorem fl_own {G : Nat → Prop} {k sz : Nat} {l : List (List D)} {c : Array Value} {vals : Nat → Nat → Value} {T : TypeId} {nm : Nat} (hloc : E.loc nm = some (k, 0)) (hln : E.ln nm = l.length)
    (hk : w.heap[k]? = some (.cells c T (0, 0))) (hnF : ¬ F k) (hc : ∀ (i : Nat) (r : List D), l[i]? = some r → r.length = sz ∧ ∀ j, j < sz → c[i * sz + j]? = some (vals i j) ∧ (vals i j).oneCell' = true)
    (hs : ∀ (i : Nat) (r : List D) (j : Nat) (x : D), l[i]? = some r → r[j]? = some x → Sees w G x (vals i j)) (hG : (∀ k, G k → F k) ∨ ∀ e ∈ l, ∀ x ∈ e, Flat x) : ChunkAt w F E nm (.data sz l) := by
  refine .data vals hloc hln hk hnF (by simpa using hc) (fun i r j x hi hj => ?_)
  rcases hG with hG | hG
  · exact (hs i r j x hi hj).mono hG (fun _ _ => rfl)
  · exact (hs i r j x hi hj).flat (hG r (List.mem_of_getElem? hi) x (List.mem_of_getElem? hj))
theorem nest_name0 {h' : List Chunk} (hs : SimAt w0 wr F0 F E ⟨t, h'⟩ a w') (nr : NRs nm t h') (pl : Option (Nat × Nat)) {isz : Nat} {rs : List (List (List D))} (il : Nat → Option Nat)
    (hpl : ∀ kk q, pl = some (kk, q) → (w0.heap.size ≤ kk ∨ wr kk) ∧ (∀ b' c o, h'[b']? = some c → c.live → E.loc b' ≠ some (kk, o)) ∧ ∀ b' i, ¬ InnAt h' E b' i kk)
    (hck : ChunkAt w' F ((E.upd nm pl rs.length).updI nm il) nm (.nest isz rs none))
    (hil : ∀ j k', j < rs.length → il j = some k' → (w0.heap.size ≤ k' ∨ wr k') ∧ (∀ q, pl ≠ some (k', q)) ∧ (∀ b' c o, h'[b']? = some c → c.live → E.loc b' ≠ some (k', o)) ∧ (∀ b' i, ¬ InnAt h' E b' i k') ∧ ∀ j', j' < rs.length → il j' = some k' → j' = j) :
    SimAt w0 wr F0 F ((E.upd nm pl rs.length).updI nm il) ⟨t, h'.set nm (.nest isz rs none)⟩ a w' := by
  have s1 := hs.re nr pl rs.length
  have nn : ∀ isz rs hole, (h'.set nm .none)[nm]? ≠ some (.nest isz rs hole) := by
    intro isz rs hole e
    rw [List.getElem?_set] at e; simp only [if_true] at e; split at e
    · cases e
    · cases e
  have s2 := s1.updI il nn
  have locne : ∀ {b'}, b' ≠ nm → ((E.upd nm pl rs.length).updI nm il).loc b' = E.loc b' := fun hne => Env.upd_loc_ne E pl rs.length hne
  have lochere : ((E.upd nm pl rs.length).updI nm il).loc nm = pl := Env.upd_loc E nm pl rs.length
  have old : ∀ {b' i k'}, b' ≠ nm → InnAt (h'.set nm .none) ((E.upd nm pl rs.length).updI nm il) b' i k' → InnAt h' E b' i k' := by
    rintro b' i k' hne ⟨isz', rs', hole', r', e1, e2, e3, e4⟩
    exact ⟨isz', rs', hole', r', getElem?_set_none_ne e1 hne, e2, e3, by simpa [Env.updI, hne, Env.upd] using e4⟩
  have hilnm : ∀ j, ((E.upd nm pl rs.length).updI nm il).il nm j = il j := fun j => by simp [Env.updI]
  have nest : ∀ {j k'}, NestAt ((E.upd nm pl rs.length).updI nm il) nm (.nest isz rs none) j k' → j < rs.length ∧ il j = some k' := by
    rintro j k' ⟨isz', rs', hole', r', e1, e2, e3, e4⟩
    simp only [Chunk.nest.injEq] at e1
    obtain ⟨rfl, rfl, rfl⟩ := e1
    exact ⟨(List.getElem?_eq_some_iff.1 e2).1, by rw [← hilnm]; exact e4⟩
  have s3 := s2.chunkN nm hck (fun k q e => by
    rw [lochere] at e
    obtain ⟨p1, p2, p3⟩ := hpl k q e
    refine ⟨p1, fun b' c k' o' hne hc' hl e2 ek => ?_, fun b' i hne hi => p3 b' i (old hne hi)⟩
    subst ek
    rw [locne hne] at e2
    exact p2 b' c o' (getElem?_set_none_ne hc' hne) hl e2) (fun j k' hi => by
    obtain ⟨hj, hk'⟩ := nest hi
    obtain ⟨p1, p2, p3, p4, p5⟩ := hil j k' hj hk'
    refine ⟨p1, fun b' c o' hne hc' hl e => ?_, fun o e => ?_, fun b' i hne hi => p4 b' i (old hne hi), fun j' hi' => p5 j' (nest hi').1 (nest hi').2⟩
    · rw [locne hne] at e
      exact p3 b' c o' (getElem?_set_none_ne hc' hne) hl e
    · rw [lochere] at e; exact p2 o e)
  rwa [List.set_set] at s3
theorem inrow_turn {G : Nat → Prop} {ob : Option Nat} {isz : Nat} {r : List (List D)} {v : Value} (h : InRow w G ob isz r v) (hF : ∀ k, ob = some k → ¬ G k → ¬ F k) (hG : (∀ k, G k → F k) ∨ ∀ e ∈ r, ∀ x ∈ e, Flat x) : InRow w F ob isz r v := by
  cases h with
  | nil a h h0 hv => exact .nil a h h0 hv
  | row vals h hb hF1 hcap hroom hv hc hs =>
    refine .row vals h hb (hF _ h hF1) hcap hroom hv hc fun i l j x h1 h2 => ?_
    rcases hG with hG | hG
    · exact (hs i l j x h1 h2).mono hG (fun _ _ => rfl)
    · exact (hs i l j x h1 h2).flat (hG l (List.mem_of_getElem? h1) x (List.mem_of_getElem? h2))
theorem call_sound (hs : SimAt w0 wr F0 F E ⟨t, h⟩ a w) (hsub : Sub hm h) (nr : NRs nm t h) {f : FuncId} {xs : List AV} {vs : Array Value} (hl : vs.size = xs.length)
    (hv : ∀ (i : Nat) (x : AV) (v : Value), xs[i]? = some x → vs[i]? = some v → SeesA w F E x v) {y : AV} {u : List (Nat × Chunk)} (hy : callK (Can P) hm nm f xs fun y' u' => y' = y ∧ u' = u) (d : Option Nat) :
    Goes P f vs w fun e w'' => ∃ v, e = .returned v ∧ Sim w0 wr F0 ⟨setO t d y, updL u h⟩ (a.put d v) w'' := by
  unfold callK at hy
  obtain ⟨as, ⟨r, hcan, hres⟩, g1, g2, g3⟩ := toAs_sound hs hsub hl hv hy
  have hcan := hcan.toD (by cases r <;> first | rfl | exact hres.elim)
  obtain ⟨Fr, hfin, hsees, hcase⟩ : ∃ Fr : Nat → Prop, (∀ k, Fr k → k < w.heap.size) ∧ (∀ (i : Nat) (x : D) (v : Value), as[i]? = some x → vs[i]? = some v → Sees w Fr x v) ∧ (allD xs = true → ∀ k, Fr k → F k) := by
    by_cases ha : allD xs = true
    · refine ⟨F, hs.fin, fun i x v hx hv' => ?_, fun _ _ h => h⟩
      have hlt : i < xs.length := by rw [← g1]; exact (List.getElem?_eq_some_iff.1 hx).1
      obtain ⟨z, hz⟩ := allD_spec ha i _ (List.getElem?_eq_getElem hlt)
      have e1 : xs[i]? = some (.d z) := by rw [List.getElem?_eq_getElem hlt, hz]
      have := g3 i z e1
      rw [hx] at this; simp only [Option.some.injEq] at this; subst this
      have := hv i _ v e1 hv'
      cases this with | d hd => exact hd
    · exact ⟨Fc F E h, fun k hk => fc_fin hs hk, g2, fun hh => absurd hh ha⟩
  refine (hcan.2 w Fr vs hfin (by rw [hl, g1]) hsees).mono ?_
  rintro e w'' ⟨v, rfl, hb, G, hG, hres'⟩
  refine ⟨v, rfl, ?_⟩
  obtain ⟨F', hF, hF', hGF⟩ : ∃ F' : Nat → Prop, (∀ k, F k → F' k) ∧ (∀ k, F' k → F k ∨ (w.heap.size ≤ k ∧ k < w''.heap.size ∧ G k)) ∧ (allD xs = true → ∀ k, G k → F' k) := by
    by_cases ha : allD xs = true
    · refine ⟨fun k => F k ∨ (w.heap.size ≤ k ∧ k < w''.heap.size ∧ G k), fun _ h => .inl h, fun _ h => h, fun _ k hk => ?_⟩
      rcases hG k hk with h1 | h1
      · exact .inl (hcase ha k h1)
      · exact .inr ⟨h1.1, h1.2, hk⟩
    · exact ⟨F, fun _ h => h, fun _ h => .inl h, fun hh => absurd hh ha⟩
  have hF2 : ∀ k, F' k → F k ∨ (w.heap.size ≤ k ∧ k < w''.heap.size) := fun k hk => (hF' k hk).imp id fun h => ⟨h.1, h.2.1⟩
  have one : ∀ {x : D} {v : Value}, (allD xs = true ∨ Flat x) → Sees w'' G x v → Sees w'' F' x v := by
    intro x v hx hsee
    rcases hx with ha | hfl
    · exact hsee.mono (hGF ha) (fun _ _ => rfl)
    · exact hsee.flat hfl
  have own : ∀ {sz : Nat} {l : List (List D)} {v : Value}, (allD xs = true ∨ ∀ e ∈ l, ∀ x ∈ e, Flat x) → OwnAt w w'' G sz l v →
      ∃ pl n, SimAt w0 wr F0 F' (E.upd nm pl n) ⟨t, h.set nm (.data sz l)⟩ a w'' ∧ SeesA w'' F' (E.upd nm pl n) (.row nm sz) v := by
    intro sz l v hx ho
    rcases ho with ⟨ad, rfl, rfl⟩ | ⟨k, cap, c, T, vals, rfl, hge, hnG, hk, hlc, hroom, hc, hss⟩
    · exact ⟨none, 0, hs.name_new hb F' hF hF2 nr none 0 (by simp) (.empty _ (Env.upd_loc ..) (Env.upd_ln ..)) (by simp), .rowE (Env.upd_loc ..) (Env.upd_ln ..)⟩
    · have hnF' : ¬ F' k := fun hk' => by
        rcases hF' k hk' with h1 | h1
        · have := hs.fin k h1; omega
        · exact hnG h1.2.2
      refine ⟨some (k, 0), l.length, hs.name_new hb F' hF hF2 nr (some (k, 0)) l.length (fun k' q' e => by simp at e; omega) ?_ (by simp), row0 (Env.upd_loc ..) (Env.upd_ln ..) hk hlc hroom⟩
      exact fl_own (Env.upd_loc ..) (Env.upd_ln ..) hk hnF' hc hss (hx.imp (fun ha => hGF ha) id)
  cases r with
  | val x =>
    obtain ⟨hx, rfl, rfl⟩ := hres
    exact ⟨F', E, (hs.ext hb F' hF hF2).put d (.d (one hx hres'))⟩
  | ownB sz l =>
    obtain ⟨hx, rfl, rfl⟩ := hres
    obtain ⟨k, q, c, T, vals, rfl, hge, hnG, hk, hc, hss⟩ := hres'
    have hnF' : ¬ F' k := fun hk' => by
      rcases hF' k hk' with h1 | h1
      · have := hs.fin k h1; omega
      · exact hnG h1.2.2
    have hck : ChunkAt w'' F' (E.upd nm (some (k, q)) l.length) nm (.data sz l) := by
      refine .data vals (Env.upd_loc ..) (Env.upd_ln ..) hk hnF' hc fun i r j x hi hj => ?_
      exact one (hx.imp id fun hh => hh r (List.mem_of_getElem? hi) x (List.mem_of_getElem? hj)) (hss i r j x hi hj)
    have hp := SeesA.ptr (W := w'') (F := F') (E := E.upd nm (some (k, q)) l.length) (b := nm) (sz := sz) (e := 0) (off := 0) (k := k) (o := q) (Env.upd_loc ..)
    simp only [Nat.zero_mul, Nat.add_zero] at hp
    exact ⟨F', _, (hs.name_new hb F' hF hF2 nr (some (k, q)) l.length (fun k' q' e => by simp at e; omega) hck (by simp)).put d hp⟩
  | own sz l =>
    obtain ⟨hx, rfl, rfl⟩ := hres
    obtain ⟨pl, n, k1, k2⟩ := own hx hres'
    exact ⟨F', _, k1.put d k2⟩
  | ownN isz rs =>
    obtain ⟨hx, rfl, rfl⟩ := hres
    have hse := hs.ext hb F' hF hF2
    have fresh : ∀ {k}, w.heap.size ≤ k → (w0.heap.size ≤ k ∨ wr k) ∧ (∀ b' c o, h[b']? = some c → c.live → E.loc b' ≠ some (k, o)) ∧ ∀ b' i, ¬ InnAt h E b' i k := fun hk =>
      ⟨.inl (Nat.le_trans hs.frame.size hk), fun b' c o hc hl e => by have := (hs.heap b' c hc).lt hl e; omega, fun b' i hi => by have := (inn_lt hs hi).1; omega⟩
    rcases hres' with ⟨ad, rfl, rfl⟩ | ⟨k, cap, c, T, vals, il, rfl, hge, hnG, hk, hlc, hroom, hcc, hin, hil⟩
    · refine ⟨F', _, (nest_name0 hse nr none (fun _ => none) (by simp) (.nestE isz none (Env.upd_loc E nm none 0) (Env.upd_ln E nm none 0)) (by simp)).put d ?_⟩
      exact .rowE (Env.upd_loc E nm none 0) (Env.upd_ln E nm none 0)
    · have hnF' : ∀ k, w.heap.size ≤ k → ¬ G k → ¬ F' k := fun k hk hn hk' => by
        rcases hF' k hk' with h1 | h1
        · have := hs.fin k h1; omega
        · exact hn h1.2.2
      have hln : ((E.upd nm (some (k, 0)) rs.length).updI nm il).ln nm = rs.length := Env.upd_ln E nm (some (k, 0)) rs.length
      have hck : ChunkAt w'' F' ((E.upd nm (some (k, 0)) rs.length).updI nm il) nm (.nest isz rs none) := by
        refine .nest vals (Env.upd_loc E nm (some (k, 0)) rs.length) hln hk (hnF' k hge hnG) (fun j hj => by rw [Nat.zero_add]; exact hcc j hj) (by simp) (fun j r hr _ => ?_)
        rw [show ((E.upd nm (some (k, 0)) rs.length).updI nm il).il nm j = il j from by simp [Env.updI]]
        refine inrow_turn (hin j r hr) (fun k' ek hn => hnF' k' (hil j k' (List.getElem?_eq_some_iff.1 hr).1 ek).1 hn) (hx.imp (fun ha => hGF ha) fun hh => hh r (List.mem_of_getElem? hr))
      refine ⟨F', _, (nest_name0 hse nr (some (k, 0)) il (fun kk q e => by simp only [Option.some.injEq, Prod.mk.injEq] at e; obtain ⟨rfl, rfl⟩ := e; exact fresh hge) hck (fun j k' hj ek => ?_)).put d ?_⟩
      · obtain ⟨p1, p2, p3⟩ := hil j k' hj ek
        obtain ⟨q1, q2, q3⟩ := fresh p1
        exact ⟨q1, fun q e => by simp only [Option.some.injEq, Prod.mk.injEq] at e; exact p2 e.1.symm, q2, q3, p3⟩
      · exact row0 (Env.upd_loc E nm (some (k, 0)) rs.length) hln hk hlc hroom
  | post p r => exact hres.elim
  | tup zs =>
    obtain ⟨hx, rfl, rfl⟩ := hres
    obtain ⟨us, rfl, hus, hsee⟩ := hres'
    refine ⟨F', E, (hs.ext hb F' hF hF2).put d (.tup (by simp [hus]) fun i x v hx' hv' => ?_)⟩
    obtain ⟨z, hz, rfl⟩ := getElem?_map_d hx'
    exact .d (one (hx.imp id fun hh => hh z (List.mem_of_getElem? hz)) (hsee i z v hz hv'))
  | postB => exact hres.elim
  | postN => exact hres.elim
  | tupO sz l b c =>
    obtain ⟨hx, rfl, rfl⟩ := hres
    obtain ⟨us, rfl, hus, ho, hsb, hsa⟩ := hres'
    have hlt : b.length < us.size := by omega
    obtain ⟨pl, n, k1, k2⟩ := own (hx.imp id fun hh => hh.1) (ho _ (Array.getElem?_eq_getElem hlt))
    refine ⟨F', _, k1.put d (.tup (by simp [hus]; omega) fun i x v hx' hv' => ?_)⟩
    rw [List.getElem?_append] at hx'
    simp only [List.length_map] at hx'
    split at hx'
    · obtain ⟨z, hz, rfl⟩ := getElem?_map_d hx'
      exact .d (one (hx.imp id fun hh => hh.2 z (List.mem_append_left _ (List.mem_of_getElem? hz))) (hsb i z v hz hv'))
    · rename_i hnl
      cases hj : i - b.length with
      | zero =>
        rw [hj] at hx'
        simp only [List.getElem?_cons_zero, Option.some.injEq] at hx'; subst hx'
        have : i = b.length := by omega
        subst this
        rw [Array.getElem?_eq_getElem hlt] at hv'; simp only [Option.some.injEq] at hv'; subst hv'
        exact k2
      | succ j =>
        rw [hj, List.getElem?_cons_succ] at hx'
        obtain ⟨z, hz, rfl⟩ := getElem?_map_d hx'
        exact .d (one (hx.imp id fun hh => hh.2 z (List.mem_append_right _ (List.mem_of_getElem? hz))) (hsa j z v hz (by rw [show b.length + 1 + j = i from by omega]; exact hv')))
theorem SimAt.extK (hs : SimAt w0 wr F0 F E ⟨t, h⟩ a w) {ob : Option Nat} (hw : BelowBut ob w w') (hob : ∀ k, ob = some k → ¬ F k ∧ (w0.heap.size ≤ k ∨ wr k) ∧ (∀ b c o, h[b]? = some c → c.live → E.loc b ≠ some (k, o)) ∧ ∀ b i, ¬ InnAt h E b i k)
    (F' : Nat → Prop) (hF : ∀ k, F k → F' k) (hF' : ∀ k, F' k → F k ∨ (w.heap.size ≤ k ∧ k < w'.heap.size)) : SimAt w0 wr F0 F' E ⟨t, h⟩ a w' := by
  have hsame : SameOn F w w' := fun k hk => hw.block k (hs.fin k hk) fun e => (hob k e).1 hk
  refine ⟨hs.len, fun i x v hx hv => (hs.tmps i x v hx hv).mono hF hsame hw.sizes, ?_, hs.excl, hs.own, hs.inn, ?_, ?_, ?_, hs.defers, hs.pin⟩
  · intro b c hc
    have key : ∀ k, ob ≠ some k → ¬ F k → k < w.heap.size → ¬ F' k ∧ w'.heap[k]? = w.heap[k]? := fun k hk hnF hlt => ⟨fun hF'k => by
      rcases hF' k hF'k with h1 | h1
      · exact hnF h1
      · omega, hw.block k hlt hk⟩
    exact (hs.heap b c hc).mono hF hsame hw.sizes (fun k o hl e => key k fun ek => (hob k ek).2.2.1 b c o hc hl e) (fun isz rs hole i r k ec hi hh e => key k fun ek => (hob k ek).2.2.2 b i ⟨isz, rs, hole, r, by rw [hc, ec], hi, hh, e⟩)
  · intro k hk
    rcases hF' k hk with h1 | h1
    · exact Nat.lt_of_lt_of_le (hs.fin k h1) hw.size
    · exact h1.2
  · intro k hk
    rcases hF' k hk with h1 | h1
    · exact hs.orig k h1
    · exact .inr (Nat.le_trans hs.frame.size h1.1)
  · refine ⟨hw.os.trans hs.frame.os, hw.tape.trans hs.frame.tape, hw.output.trans hs.frame.output, Nat.le_trans hs.frame.size hw.size, fun k hk hn => ?_, hs.frame.sizes.trans hw.sizes⟩
    refine (hw.block k (Nat.lt_of_lt_of_le hk hs.frame.size) fun e => ?_).trans (hs.frame.block k hk hn)
    rcases (hob k e).2.1 with h1 | h1
    · omega
    · exact hn h1
theorem SimAt.name_at (hs : SimAt w0 wr F0 F E ⟨t, h⟩ a w) (nr : NRs nm t h) (pl : Option (Nat × Nat)) (n : Nat)
    (hpl : ∀ k q, pl = some (k, q) → (w0.heap.size ≤ k ∨ wr k) ∧ (∀ b c o, b ≠ nm → h[b]? = some c → c.live → E.loc b ≠ some (k, o)) ∧ ∀ b i, b ≠ nm → ¬ InnAt h E b i k) {ck : Chunk} (hck : ChunkAt w F (E.upd nm pl n) nm ck) (hnn : ∀ isz rs hole, ck ≠ .nest isz rs hole) :
    SimAt w0 wr F0 F (E.upd nm pl n) ⟨t, h.set nm ck⟩ a w := by
  have s2 := (hs.re nr pl n).chunk nm hck hnn (fun k q e => by
    rw [Env.upd_loc] at e
    obtain ⟨p1, p2, p3⟩ := hpl k q e
    refine ⟨p1, fun b' c' k' o' hne hc hl el ek => ?_, fun b' i hne hi => p3 b' i hne (innAt_drop hi)⟩
    subst ek
    rw [Env.upd_loc_ne _ _ _ hne] at el
    exact p2 b' c' o' hne (getElem?_set_none_ne hc hne) hl el)
  rwa [List.set_set] at s2
theorem callM_sound (hs : SimAt w0 wr F0 F E ⟨t, h⟩ a w) (hsub : Sub hm h) (nr : NRs nm t h) {f : FuncId} {b sz : Nat} {l : List (List D)} (hbn : b ≠ nm) (hc : getC hm b = .data sz l) {v0 : Value} (hv0 : SeesA w F E (.row b sz) v0) {xs : List AV} {vs : Array Value}
    (hl : vs.size = xs.length) (hv : ∀ (i : Nat) (x : AV) (v : Value), xs[i]? = some x → vs[i]? = some v → SeesA w F E x v) {y : AV} {u : List (Nat × Chunk)} (hy : callMK (Can P) hm nm b sz l f xs fun y' u' => y' = y ∧ u' = u) (d : Option Nat) :
    Plain P f ∧ Calls P f (#[v0] ++ vs) w fun e w'' => ∃ v, e = .returned v ∧ Sim w0 wr F0 ⟨setO t d y, updL u h⟩ (a.put d v) w'' := by
  obtain ⟨hall, hy⟩ := hy
  have hb := sub_get hsub hc trivial
  obtain ⟨as, ⟨p, r, hcan, hres⟩, g1, g2, g3⟩ := toAs_sound hs hsub hl hv hy
  have hsees : ∀ (i : Nat) (x : D) (v : Value), as[i]? = some x → vs[i]? = some v → Sees w F x v := fun i x v hx hv' => by
    have hlt : i < xs.length := by rw [← g1]; exact (List.getElem?_eq_some_iff.1 hx).1
    obtain ⟨z, hz⟩ := allD_spec hall i _ (List.getElem?_eq_getElem hlt)
    have e1 : xs[i]? = some (.d z) := by rw [List.getElem?_eq_getElem hlt, hz]
    have := g3 i z e1
    rw [hx] at this; simp only [Option.some.injEq] at this; subst this
    have := hv i _ v e1 hv'
    cases this with | d hd => exact hd
  have hch := hs.heap b _ hb
  obtain ⟨ob, hob, hrow⟩ : ∃ ob : Option Nat, (E.loc b = ob.map fun k => (k, 0)) ∧ InRow w F ob sz l v0 := by
    rcases seesA_row hv0 with ⟨k, cap, c, T', fz, rfl, hloc, hk, hlen, hroom⟩ | ⟨ad, rfl, hloc, h0⟩
    · cases hch with
      | empty _ h1 => rw [hloc] at h1; cases h1
      | data vals h1 hn hb' hF hcc hss =>
        rw [hloc] at h1; simp only [Option.some.injEq, Prod.mk.injEq] at h1
        obtain ⟨rfl, rfl⟩ := h1
        rw [hk] at hb'; simp only [Option.some.injEq, Obj.cells.injEq] at hb'
        obtain ⟨rfl, rfl, rfl⟩ := hb'
        rw [hn] at hlen ⊢
        exact ⟨some k, hloc, .row vals rfl hk hF hlen hroom rfl (by simpa using hcc) hss⟩
    · cases hch with
      | empty => exact ⟨none, hloc, .nil ad rfl rfl rfl⟩
      | data _ h1 => rw [hloc] at h1; cases h1
  obtain ⟨hpl, hcalls⟩ := hcan
  refine ⟨hpl, (hcalls w F ob v0 vs hs.fin (by rw [hl, g1]) hsees hrow).mono ?_⟩
  rintro e w'' ⟨v, rfl, hb', G, hG, hpost, hresM⟩
  refine ⟨v, rfl, ?_⟩
  let F' : Nat → Prop := fun k => F k ∨ (w.heap.size ≤ k ∧ k < w''.heap.size ∧ G k)
  have hF : ∀ k, F k → F' k := fun _ h => .inl h
  have hF2 : ∀ k, F' k → F k ∨ (w.heap.size ≤ k ∧ k < w''.heap.size) := fun k hk => hk.imp id fun h => ⟨h.1, h.2.1⟩
  have hGF : ∀ k, G k → F' k := fun k hk => (hG k hk).imp id fun h => ⟨h.1, h.2, hk⟩
  have hobk : ∀ k, ob = some k → E.loc b = some (k, 0) := fun k e => by rw [hob, e]; rfl
  have hobF : ∀ k, ob = some k → ¬ F k ∧ k < w.heap.size := fun k e => by
    cases hrow with
    | nil _ h0 => rw [h0] at e; cases e
    | row _ h0 h1 h2 => rw [h0] at e; cases e; exact ⟨h2, (Array.getElem?_eq_some_iff.1 h1).1⟩
  have hobF' : ∀ k, ob = some k → ¬ F' k := fun k e hk => by
    obtain ⟨p1, p2⟩ := hobF k e
    rcases hk with h1 | h1
    · exact p1 h1
    · omega
  have dlive : ∀ {b' : Nat} {c' : Chunk}, (h.set b .none)[b']? = some c' → c'.live → b' ≠ b ∧ h[b']? = some c' := by
    intro b' c' hc' hl'
    have hne : b' ≠ b := by
      rintro rfl
      rw [List.getElem?_set] at hc'; simp only [if_true] at hc'; split at hc'
      · simp only [Option.some.injEq] at hc'; subst hc'; exact hl'
      · simp at hc'
    exact ⟨hne, getElem?_set_none_ne hc' hne⟩
  have ofree : ∀ k, ob = some k → (w0.heap.size ≤ k ∨ wr k) ∧ (∀ b' c o, (h.set b .none)[b']? = some c → c.live → E.loc b' ≠ some (k, o)) ∧ ∀ b' i, ¬ InnAt (h.set b .none) E b' i k := fun k e => by
    refine ⟨hs.own b _ k 0 hb trivial (hobk k e), fun b' c' o hc' hl' el => ?_, fun b' i hi => (hs.inn b' i k (innAt_drop hi)).2.1 b _ 0 hb trivial (hobk k e)⟩
    obtain ⟨n1, h1⟩ := dlive hc' hl'
    exact n1 (hs.excl b' b c' _ k o 0 h1 hb hl' trivial el (hobk k e))
  have s1 := (hs.drop b).extK hb' (fun k e => ⟨(hobF k e).1, ofree k e⟩) F' hF hF2
  have s2 : SimAt w0 wr F0 F' E ⟨t, h.set b (postC sz p)⟩ a w'' := by
    cases p with
    | none => exact s1
    | some l' =>
      have hin := hpost l' rfl
      have hck : ChunkAt w'' F' E b (.data sz l') := by
        cases hin with
        | nil ad h0 h1 h2 =>
          subst h1
          cases hch with
          | empty _ e1 e2 => exact .empty _ e1 e2
          | data _ e1 => rw [hob, h0] at e1; cases e1
        | row vals h0 h1 h2 h3 h4 h5 h6 h7 =>
          refine .data vals (hobk _ h0) ?_ h1 (hobF' _ h0) (by simpa using h6) fun i r j x e1 e2 => (h7 i r j x e1 e2).mono hGF (fun _ _ => rfl)
          have hln : E.ln b = l.length := by cases hch with | empty _ _ e => rw [e]; rfl | data _ _ e => exact e
          rw [hln]
          cases hrow with
          | nil _ e0 => rw [e0] at h0; cases h0
          | row _ _ _ _ _ _ e5 => rw [e5] at h5; simp only [Value.slice.injEq] at h5; exact h5.2.1
      have := s1.chunk b hck (by simp) (fun k q e => by
        have e' : ob = some k := by
          rw [hob] at e
          cases ob with
          | none => cases e
          | some k' => simp only [Option.map_some, Option.some.injEq, Prod.mk.injEq] at e; rw [e.1]
        obtain ⟨p1, p2, p3⟩ := ofree k e'
        exact ⟨p1, fun b' c' k' o' hne hc' hl' el ek => by subst ek; exact p2 b' c' o' hc' hl' el, fun b' i hne hi => p3 b' i hi⟩)
      rwa [List.set_set] at this
  have nr2 : NRs nm t (h.set b (postC sz p)) := ⟨nr.t, fun x hx => (mem_set_of hx).elim (fun e => by subst e; cases p <;> exact trivial) (nr.h x), nr.ne⟩
  have fresh : ∀ {k}, w.heap.size ≤ k → (w0.heap.size ≤ k ∨ wr k) ∧ (∀ b' c o, b' ≠ nm → (h.set b (postC sz p))[b']? = some c → c.live → E.loc b' ≠ some (k, o)) ∧ ∀ b' i, b' ≠ nm → ¬ InnAt (h.set b (postC sz p)) E b' i k := fun {k} hk => by
    refine ⟨.inl (Nat.le_trans hs.frame.size hk), fun b' c o _ hc' hl' el => ?_, fun b' i _ hi => ?_⟩
    · by_cases eb : b' = b
      · subst eb
        have := (hs.heap b' _ hb).lt trivial el; omega
      · have := (hs.heap b' c (getElem?_set_none_ne hc' eb)).lt hl' el; omega
    · rcases innAt_set hi with ⟨_, _, _, _, _, e1, _⟩ | ⟨_, hi'⟩
      · cases p <;> cases e1
      · have := (inn_lt hs hi').1; omega
  cases r with
  | val x =>
    obtain ⟨rfl, rfl⟩ := hres
    exact ⟨F', E, s2.put d (.d (Sees.mono hGF (fun _ _ => rfl) hresM))⟩
  | tup zs =>
    obtain ⟨rfl, rfl⟩ := hres
    obtain ⟨us, rfl, hus, hsee⟩ := hresM
    refine ⟨F', E, s2.put d (.tup (by simp [hus]) fun i x v hx' hv' => ?_)⟩
    obtain ⟨z, hz, rfl⟩ := getElem?_map_d hx'
    exact .d ((hsee i z v hz hv').mono hGF (fun _ _ => rfl))
  | own sz2 l2 =>
    obtain ⟨rfl, rfl⟩ := hres
    have empty1 : ∀ ad, Sim w0 wr F0 ⟨setO t d (.row nm sz2), updL [(b, postC sz p), (nm, .data sz2 [])] h⟩ (a.put d (.slice ad 0 0)) w'' := fun ad =>
      ⟨F', _, (s2.name_at nr2 none 0 (by simp) (ck := .data sz2 []) (.empty _ (Env.upd_loc E nm none 0) (Env.upd_ln E nm none 0)) (by simp)).put d (.rowE (Env.upd_loc E nm none 0) (Env.upd_ln E nm none 0))⟩
    rcases hresM with (⟨ad, rfl, rfl⟩ | ⟨k, cap, c, T, vals, rfl, hge, hnG, hk, hlc, hroom, hcc, hss⟩) | ⟨rfl, hin⟩
    · exact empty1 ad
    · have hnF' : ¬ F' k := fun hk' => by
        rcases hk' with h1 | h1
        · have := hs.fin k h1; omega
        · exact hnG h1.2.2
      have hck : ChunkAt w'' F' (E.upd nm (some (k, 0)) l2.length) nm (.data sz2 l2) :=
        .data vals (Env.upd_loc E nm (some (k, 0)) l2.length) (Env.upd_ln E nm (some (k, 0)) l2.length) hk hnF' (by simpa using hcc) fun i r j x e1 e2 => (hss i r j x e1 e2).mono hGF (fun _ _ => rfl)
      exact ⟨F', _, (s2.name_at nr2 (some (k, 0)) l2.length (fun k' q e => by simp only [Option.some.injEq, Prod.mk.injEq] at e; obtain ⟨rfl, rfl⟩ := e; exact fresh hge) hck (by simp)).put d
        (row0 (Env.upd_loc E nm (some (k, 0)) l2.length) (Env.upd_ln E nm (some (k, 0)) l2.length) hk hlc hroom)⟩
    · cases hin with
      | nil ad h0 h1 h2 => subst h1; rw [h2]; exact empty1 ad
      | row vals h0 h1 h2 h3 h4 h5 h6 h7 =>
        rename_i k cap c T
        rw [h5]
        have hck : ChunkAt w'' F' (E.upd nm (some (k, 0)) l2.length) nm (.data sz2 l2) :=
          .data vals (Env.upd_loc E nm (some (k, 0)) l2.length) (Env.upd_ln E nm (some (k, 0)) l2.length) h1 (hobF' k h0) (by simpa using h6) fun i r j x e1 e2 => (h7 i r j x e1 e2).mono hGF (fun _ _ => rfl)
        exact ⟨F', _, (s2.name_at nr2 (some (k, 0)) l2.length (fun k' q e => by
          simp only [Option.some.injEq, Prod.mk.injEq] at e; obtain ⟨rfl, rfl⟩ := e
          obtain ⟨p1, p2, p3⟩ := ofree k h0
          exact ⟨p1, fun b' c' o _ hc' hl' => p2 b' c' o hc' hl', fun b' i _ => p3 b' i⟩) hck (by simp)).put d
          (row0 (Env.upd_loc E nm (some (k, 0)) l2.length) (Env.upd_ln E nm (some (k, 0)) l2.length) h1 h3 h4)⟩
  | ownN => exact hres.elim
  | ownB => exact hres.elim
  | tupO => exact hres.elim
  | post => exact hres.elim
  | postB => exact hres.elim
  | postN => exact hres.elim
theorem SimAt.extS (hs : SimAt w0 wr F0 F E ⟨t, h⟩ a w) {S : Nat → Prop} (hw : BelowS S w w') (hob : ∀ k, S k → ¬ F k ∧ (w0.heap.size ≤ k ∨ wr k) ∧ (∀ b c o, h[b]? = some c → c.live → E.loc b ≠ some (k, o)) ∧ ∀ b i, ¬ InnAt h E b i k)
    (F' : Nat → Prop) (hF : ∀ k, F k → F' k) (hF' : ∀ k, F' k → F k ∨ (w.heap.size ≤ k ∧ k < w'.heap.size)) : SimAt w0 wr F0 F' E ⟨t, h⟩ a w' := by
  have hsame : SameOn F w w' := fun k hk => hw.block k (hs.fin k hk) fun e => (hob k e).1 hk
  refine ⟨hs.len, fun i x v hx hv => (hs.tmps i x v hx hv).mono hF hsame hw.sizes, ?_, hs.excl, hs.own, hs.inn, ?_, ?_, ?_, hs.defers, hs.pin⟩
  · intro b c hc
    have key : ∀ k, ¬ S k → ¬ F k → k < w.heap.size → ¬ F' k ∧ w'.heap[k]? = w.heap[k]? := fun k hk hnF hlt => ⟨fun hF'k => by
      rcases hF' k hF'k with h1 | h1
      · exact hnF h1
      · omega, hw.block k hlt hk⟩
    exact (hs.heap b c hc).mono hF hsame hw.sizes (fun k o hl e => key k fun ek => (hob k ek).2.2.1 b c o hc hl e) (fun isz rs hole i r k ec hi hh e => key k fun ek => (hob k ek).2.2.2 b i ⟨isz, rs, hole, r, by rw [hc, ec], hi, hh, e⟩)
  · intro k hk
    rcases hF' k hk with h1 | h1
    · exact Nat.lt_of_lt_of_le (hs.fin k h1) hw.size
    · exact h1.2
  · intro k hk
    rcases hF' k hk with h1 | h1
    · exact hs.orig k h1
    · exact .inr (Nat.le_trans hs.frame.size h1.1)
  · refine ⟨hw.os.trans hs.frame.os, hw.tape.trans hs.frame.tape, hw.output.trans hs.frame.output, Nat.le_trans hs.frame.size hw.size, fun k hk hn => ?_, hs.frame.sizes.trans hw.sizes⟩
    refine (hw.block k (Nat.lt_of_lt_of_le hk hs.frame.size) fun e => ?_).trans (hs.frame.block k hk hn)
    rcases (hob k e).2.1 with h1 | h1
    · omega
    · exact hn h1
theorem callB_sound (hs : SimAt w0 wr F0 F E ⟨t, h⟩ a w) (hsub : Sub hm h) {f : FuncId} {b sz : Nat} {l : List (List D)} (hc : getC hm b = .data sz l) {v0 : Value} (hv0 : SeesA w F E (.ptr b sz 0 0) v0) {xs : List AV} {vs : Array Value}
    (hl : vs.size = xs.length) (hv : ∀ (i : Nat) (x : AV) (v : Value), xs[i]? = some x → vs[i]? = some v → SeesA w F E x v) {y : AV} {u : List (Nat × Chunk)} (hy : callBK (Can P) hm nm b sz l f xs fun y' u' => y' = y ∧ u' = u) (d : Option Nat) :
    Plain P f ∧ Calls P f (#[v0] ++ vs) w fun e w'' => ∃ v, e = .returned v ∧ Sim w0 wr F0 ⟨setO t d y, updL u h⟩ (a.put d v) w'' := by
  obtain ⟨hall, hy⟩ := hy
  have hb := sub_get hsub hc trivial
  obtain ⟨as, ⟨l', r, hcan, hres⟩, g1, g2, g3⟩ := toAs_sound hs hsub hl hv hy
  have hsees : ∀ (i : Nat) (x : D) (v : Value), as[i]? = some x → vs[i]? = some v → Sees w F x v := fun i x v hx hv' => by
    have hlt : i < xs.length := by rw [← g1]; exact (List.getElem?_eq_some_iff.1 hx).1
    obtain ⟨z, hz⟩ := allD_spec hall i _ (List.getElem?_eq_getElem hlt)
    have e1 : xs[i]? = some (.d z) := by rw [List.getElem?_eq_getElem hlt, hz]
    have := g3 i z e1
    rw [hx] at this; simp only [Option.some.injEq] at this; subst this
    have := hv i _ v e1 hv'
    cases this with | d hd => exact hd
  have hch := hs.heap b _ hb
  obtain ⟨k, q, hv0', hloc⟩ : ∃ k q, v0 = .pointer (some ⟨k, q, none⟩) ∧ E.loc b = some (k, q) := by
    cases hv0 with
    | ptr h => exact ⟨_, _, by simp, h⟩
  have hln : E.ln b = l.length := by cases hch with | empty _ _ e => rw [e]; rfl | data _ _ e => exact e
  have hbox : InBox w F k q sz l v0 := by
    cases hch with
    | empty _ h1 => rw [hloc] at h1; cases h1
    | data vals h1 hn hb' hF hcc hss =>
      rw [hloc] at h1; simp only [Option.some.injEq, Prod.mk.injEq] at h1
      obtain ⟨rfl, rfl⟩ := h1
      exact .mk vals hb' hF hv0' hcc hss
  have hkF : ¬ F k ∧ k < w.heap.size := by cases hbox with | mk vals h1 h2 => exact ⟨h2, (Array.getElem?_eq_some_iff.1 h1).1⟩
  obtain ⟨hll, hpl, hcalls⟩ := hcan
  refine ⟨hpl, (hcalls w F k q v0 vs hs.fin (by rw [hl, g1]) hsees hbox).mono ?_⟩
  rintro e w'' ⟨v, rfl, hb', G, hG, hpost, hresG⟩
  refine ⟨v, rfl, ?_⟩
  let F' : Nat → Prop := fun k => F k ∨ (w.heap.size ≤ k ∧ k < w''.heap.size ∧ G k)
  have hF : ∀ k, F k → F' k := fun _ h => .inl h
  have hF2 : ∀ k, F' k → F k ∨ (w.heap.size ≤ k ∧ k < w''.heap.size) := fun k hk => hk.imp id fun h => ⟨h.1, h.2.1⟩
  have hGF : ∀ k, G k → F' k := fun k hk => (hG k hk).imp id fun h => ⟨h.1, h.2, hk⟩
  have hkF' : ¬ F' k := fun hk => by
    rcases hk with h1 | h1
    · exact hkF.1 h1
    · omega
  have dlive : ∀ {b' : Nat} {c' : Chunk}, (h.set b .none)[b']? = some c' → c'.live → b' ≠ b ∧ h[b']? = some c' := by
    intro b' c' hc' hl'
    have hne : b' ≠ b := by
      rintro rfl
      rw [List.getElem?_set] at hc'; simp only [if_true] at hc'; split at hc'
      · simp only [Option.some.injEq] at hc'; subst hc'; exact hl'
      · simp at hc'
    exact ⟨hne, getElem?_set_none_ne hc' hne⟩
  have ofree : (w0.heap.size ≤ k ∨ wr k) ∧ (∀ b' c o, (h.set b .none)[b']? = some c → c.live → E.loc b' ≠ some (k, o)) ∧ ∀ b' i, ¬ InnAt (h.set b .none) E b' i k :=
    ⟨hs.own b _ k q hb trivial hloc, fun b' c' o hc' hl' el => by
      obtain ⟨n1, h1⟩ := dlive hc' hl'
      exact n1 (hs.excl b' b c' _ k o q h1 hb hl' trivial el hloc), fun b' i hi => (hs.inn b' i k (innAt_drop hi)).2.1 b _ q hb trivial hloc⟩
  have s1 := (hs.drop b).extK hb' (fun k' e => by simp only [Option.some.injEq] at e; subst e; exact ⟨hkF.1, ofree⟩) F' hF hF2
  have hck : ChunkAt w'' F' E b (.data sz l') := by
    cases hpost with
    | mk vals p1 p2 p3 p4 p5 => exact .data vals hloc (by rw [hln, hll]) p1 hkF' p4 fun i r j x e1 e2 => (p5 i r j x e1 e2).mono hGF (fun _ _ => rfl)
  have s2 : SimAt w0 wr F0 F' E ⟨t, h.set b (.data sz l')⟩ a w'' := by
    have := s1.chunk b hck (by simp) (fun k' q' e => by
      rw [hloc] at e; simp only [Option.some.injEq, Prod.mk.injEq] at e
      obtain ⟨rfl, rfl⟩ := e
      obtain ⟨p1, p2, p3⟩ := ofree
      exact ⟨p1, fun b' c' k' o' hne hc' hl' el ek => by subst ek; exact p2 b' c' o' hc' hl' el, fun b' i hne hi => p3 b' i hi⟩)
    rwa [List.set_set] at this
  cases r with
  | val x =>
    obtain ⟨rfl, rfl⟩ := hres
    exact ⟨F', E, s2.put d (.d (Sees.mono hGF (fun _ _ => rfl) hresG))⟩
  | tup zs =>
    obtain ⟨rfl, rfl⟩ := hres
    obtain ⟨us, rfl, hus, hsee⟩ := hresG
    refine ⟨F', E, s2.put d (.tup (by simp [hus]) fun i x v hx' hv' => ?_)⟩
    obtain ⟨z, hz, rfl⟩ := getElem?_map_d hx'
    exact .d ((hsee i z v hz hv').mono hGF (fun _ _ => rfl))
  | own => exact hres.elim
  | ownN => exact hres.elim
  | ownB => exact hres.elim
  | tupO => exact hres.elim
  | post => exact hres.elim
  | postB => exact hres.elim
  | postN => exact hres.elim
theorem callN_sound (hs : SimAt w0 wr F0 F E ⟨t, h⟩ a w) (hsub : Sub hm h) {f : FuncId} {b isz : Nat} {rs : List (List (List D))} (hc : getC hm b = .nest isz rs none) {v0 : Value} (hv0 : SeesA w F E (.row b 1) v0) {xs : List AV} {vs : Array Value}
    (hl : vs.size = xs.length) (hv : ∀ (i : Nat) (x : AV) (v : Value), xs[i]? = some x → vs[i]? = some v → SeesA w F E x v) {y : AV} {u : List (Nat × Chunk)} (hy : callNK (Can P) hm b isz rs f xs fun y' u' => y' = y ∧ u' = u) (d : Option Nat) :
    Plain P f ∧ Calls P f (#[v0] ++ vs) w fun e w'' => ∃ v, e = .returned v ∧ Sim w0 wr F0 ⟨setO t d y, updL u h⟩ (a.put d v) w'' := by
  obtain ⟨hall, hy⟩ := hy
  have hb := sub_get hsub hc trivial
  obtain ⟨as, ⟨x, hcan, rfl, rfl⟩, g1, g2, g3⟩ := toAs_sound hs hsub hl hv hy
  have hsees : ∀ (i : Nat) (x : D) (v : Value), as[i]? = some x → vs[i]? = some v → Sees w F x v := fun i x v hx hv' => by
    have hlt : i < xs.length := by rw [← g1]; exact (List.getElem?_eq_some_iff.1 hx).1
    obtain ⟨z, hz⟩ := allD_spec hall i _ (List.getElem?_eq_getElem hlt)
    have e1 : xs[i]? = some (.d z) := by rw [List.getElem?_eq_getElem hlt, hz]
    have := g3 i z e1
    rw [hx] at this; simp only [Option.some.injEq] at this; subst this
    have := hv i _ v e1 hv'
    cases this with | d hd => exact hd
  have hch := hs.heap b _ hb
  have inn : ∀ j k', j < rs.length → E.il b j = some k' → InnAt h E b j k' := fun j k' hj e =>
    ⟨isz, rs, none, rs[j], hb, List.getElem?_eq_getElem hj, by simp, e⟩
  obtain ⟨ob, hob, hnest⟩ : ∃ ob : Option Nat, (E.loc b = ob.map fun k => (k, 0)) ∧ InNest w F ob (E.il b) isz rs v0 := by
    rcases seesA_row hv0 with ⟨k, cap, c, T', fz, rfl, hloc, hk, hlen, hroom⟩ | ⟨ad, rfl, hloc, h0⟩
    · cases hch with
      | nestE _ _ h1 => rw [hloc] at h1; cases h1
      | nest vals h1 hn hb' hF hcc ho hi =>
        rw [hloc] at h1; simp only [Option.some.injEq, Prod.mk.injEq] at h1
        obtain ⟨rfl, rfl⟩ := h1
        rw [hk] at hb'; simp only [Option.some.injEq, Obj.cells.injEq] at hb'
        obtain ⟨rfl, rfl, rfl⟩ := hb'
        rw [hn] at hlen ⊢
        refine ⟨some k, hloc, .row vals rfl hk hF hlen hroom rfl (by simpa using hcc) (fun j r hj => hi j r hj (by simp)) fun j k' hj e => ⟨fun e' => ?_, fun j' hj' e' => ?_⟩⟩
        · subst e'
          exact (hs.inn b j k' (inn j k' hj e)).2.1 b _ 0 hb trivial hloc
        · exact ((hs.inn b j k' (inn j k' hj e)).2.2 b j' (inn j' k' hj' e')).2
    · cases hch with
      | nestE => exact ⟨none, hloc, .nil ad rfl rfl rfl⟩
      | nest _ h1 => rw [hloc] at h1; cases h1
  obtain ⟨hpl, hcalls⟩ := hcan
  refine ⟨hpl, (hcalls w F ob (E.il b) v0 vs hs.fin (by rw [hl, g1]) hsees hnest).mono ?_⟩
  rintro e w'' ⟨v, rfl, hb', G, hG, hresG⟩
  refine ⟨v, rfl, ?_⟩
  let F' : Nat → Prop := fun k => F k ∨ (w.heap.size ≤ k ∧ k < w''.heap.size ∧ G k)
  have hF : ∀ k, F k → F' k := fun _ h => .inl h
  have hF2 : ∀ k, F' k → F k ∨ (w.heap.size ≤ k ∧ k < w''.heap.size) := fun k hk => hk.imp id fun h => ⟨h.1, h.2.1⟩
  have hGF : ∀ k, G k → F' k := fun k hk => (hG k hk).imp id fun h => ⟨h.1, h.2, hk⟩
  have dlive : ∀ {b' : Nat} {c' : Chunk}, (h.set b .none)[b']? = some c' → c'.live → b' ≠ b ∧ h[b']? = some c' := by
    intro b' c' hc' hl'
    have hne : b' ≠ b := by
      rintro rfl
      rw [List.getElem?_set] at hc'; simp only [if_true] at hc'; split at hc'
      · simp only [Option.some.injEq] at hc'; subst hc'; exact hl'
      · simp at hc'
    exact ⟨hne, getElem?_set_none_ne hc' hne⟩
  have inn2 : ∀ {b' i k : Nat}, InnAt (h.set b .none) E b' i k → b' ≠ b ∧ InnAt h E b' i k := fun hi => by
    rcases innAt_set hi with ⟨_, _, _, _, _, h1, _⟩ | h1
    · cases h1
    · exact h1
  have s1 := (hs.drop b).extS hb' (fun k hk => by
    rcases hk with e | ⟨j, hj, e⟩
    · have hloc : E.loc b = some (k, 0) := by rw [hob, e]; rfl
      refine ⟨?_, hs.own b _ k 0 hb trivial hloc, fun b' c' o hc' hl' el => ?_, fun b' i hi => (hs.inn b' i k (innAt_drop hi)).2.1 b _ 0 hb trivial hloc⟩
      · cases hnest with
        | nil _ h0 => rw [h0] at e; cases e
        | row _ h0 h1 h2 => rw [h0] at e; cases e; exact h2
      · obtain ⟨n1, h1⟩ := dlive hc' hl'
        exact n1 (hs.excl b' b c' _ k o 0 h1 hb hl' trivial el hloc)
    · obtain ⟨p1, p2, p3⟩ := hs.inn b j k (inn j k hj e)
      refine ⟨?_, p1, fun b' c' o hc' hl' el => ?_, fun b' i hi => ?_⟩
      · cases hnest with
        | nil _ _ h0 => subst h0; cases hj
        | row _ h0 h1 h2 h3 h4 h5 h6 h7 h8 =>
          have := h7 j _ (List.getElem?_eq_getElem hj)
          cases this with
          | nil _ h0' => rw [h0'] at e; cases e
          | row _ h0' h1' h2' => rw [h0'] at e; cases e; exact h2'
      · exact p2 b' c' o (dlive hc' hl').2 hl' el
      · obtain ⟨n1, h1⟩ := inn2 hi
        exact n1 (p3 b' i h1).1) F' hF hF2
  exact ⟨F', E, s1.put d (.d (Sees.mono hGF (fun _ _ => rfl) hresG))⟩
theorem s_call (hs : SimAt w0 wr F0 F E ⟨t, h⟩ a w) (hsub : Sub hm h) (nr : NRs nm t h) {f : FuncId} {xs : Array Operand} {Xs : List Opd} (hxs : cOpds xs.toList = some Xs) {ts : Array TypeId}
    (ho : o.op = .call { callee := .value (.func f), args := xs, argTypes := ts })
    {y : AV} {u : List (Nat × Chunk)} (hy : Y P (.call f Xs) nm t hm y u) : Step P w0 wr F0 o a w t h y u := by
  simp only [Y, XOp.eff] at hy
  obtain ⟨h1, h2, h3⟩ := evs_sound hs hxs
  have hl : (xs.map a.eval).size = (mapEv t Xs).length := by simp [h2]
  have hv : ∀ (i : Nat) (x : AV) (v : Value), (mapEv t Xs)[i]? = some x → (xs.map a.eval)[i]? = some v → SeesA w F E x v := by
    intro i x v hx hv
    rw [Array.getElem?_map, Option.map_eq_some_iff] at hv
    obtain ⟨p, hp, rfl⟩ := hv
    exact h3 i x p hx (by simpa using hp)
  refine Step.goes ?_ (call_sound hs hsub nr hl hv hy o.dst)
  simp only [execOp, ho, resolve, Act.eval, Deferred.ofValue, pure_bind, invoke]
  simp
theorem s_callM (hs : SimAt w0 wr F0 F E ⟨t, h⟩ a w) (hsub : Sub hm h) (nr : NRs nm t h) {f : FuncId} {xs : Array Operand} {X : Opd} {Xs : List Opd} (hxs : cOpds xs.toList = some (X :: Xs)) {ts : Array TypeId}
    (ho : o.op = .call { callee := .value (.func f), args := xs, argTypes := ts })
    {y : AV} {u : List (Nat × Chunk)} (hy : Y P (.callM f X Xs) nm t hm y u) : Step P w0 wr F0 o a w t h y u := by
  simp only [Y, XOp.eff] at hy
  obtain ⟨x, r, hx, hX, hXs⟩ : ∃ x r, xs.toList = x :: r ∧ cOpd x = some X ∧ cOpds r = some Xs := by
    generalize xs.toList = l at hxs
    cases l with
    | nil => simp [cOpds] at hxs
    | cons x r =>
      simp only [cOpds, Option.pure_def, Option.bind_eq_bind, Option.bind_eq_some_iff, Option.some.injEq] at hxs
      obtain ⟨Y, h1, Ys, h2, h3⟩ := hxs
      simp only [List.cons.injEq] at h3
      exact ⟨x, r, rfl, by rw [h1, h3.1], by rw [h2, h3.2]⟩
  have hnx := ev_nr nr X
  have hxs' := ev_sound hs hX
  obtain ⟨h1, h2, h3⟩ := evs_sound hs hXs
  have hl : (r.map a.eval).toArray.size = (mapEv t Xs).length := by simp [h2]
  have hv : ∀ (i : Nat) (x : AV) (v : Value), (mapEv t Xs)[i]? = some x → (r.map a.eval).toArray[i]? = some v → SeesA w F E x v := by
    intro i x v hx hv
    rw [List.getElem?_toArray, List.getElem?_map, Option.map_eq_some_iff] at hv
    obtain ⟨p, hp, rfl⟩ := hv
    exact h3 i x p hx hp
  have fin : (Plain P f ∧ Calls P f (#[a.eval x] ++ (r.map a.eval).toArray) w fun e w'' => ∃ v, e = .returned v ∧ Sim w0 wr F0 ⟨setO t o.dst y, updL u h⟩ (a.put o.dst v) w'') → Step P w0 wr F0 o a w t h y u := fun ⟨hpl, hcc⟩ => by
    have hargs : xs.map a.eval = #[a.eval x] ++ (r.map a.eval).toArray := by
      rw [← Array.toArray_toList (xs := xs), hx]; simp
    unfold Step
    have hrun : (execOp a.eval o).run P w = .ok (.enter f (xs.map a.eval)) w := by
      simp only [execOp, ho, resolve, Act.eval, Deferred.ofValue, pure_bind, invoke]
      rw [hpl.run]
      simp
    rw [hrun, hargs]
    exact hcc
  split at hy
  · rename_i b sz e
    rw [e] at hnx hxs'
    have hbn : b ≠ nm := by cases hnx with | row hh => exact hh
    split at hy
    · rename_i sz' l hc
      obtain ⟨rfl, hy⟩ := hy
      exact fin (callM_sound hs hsub nr hbn hc hxs' hl hv hy o.dst)
    · rename_i isz rs hole hc
      obtain ⟨⟨rfl, rfl⟩, hy⟩ := hy
      exact fin (callN_sound hs hsub hc hxs' hl hv hy o.dst)
    · exact hy.elim
  · rename_i b sz e0 off e
    rw [e] at hxs'
    split at hy
    · rename_i sz' l hc
      obtain ⟨⟨rfl, rfl, rfl⟩, hy⟩ := hy
      exact fin (callB_sound hs hsub hc hxs' hl hv hy o.dst)
    · exact hy.elim
  · exact hy.elim
theorem s_callV (hs : SimAt w0 wr F0 F E ⟨t, h⟩ a w) (hsub : Sub hm h) (nr : NRs nm t h) {g : Operand} {G : Opd} (hg : cOpd g = some G) {xs : Array Operand} {Xs : List Opd} (hxs : cOpds xs.toList = some Xs) {ts : Array TypeId}
    (ho : o.op = .call { callee := .value g, args := xs, argTypes := ts })
    {y : AV} {u : List (Nat × Chunk)} (hy : Y P (.callV G Xs) nm t hm y u) : Step P w0 wr F0 o a w t h y u := by
  simp only [Y, XOp.eff] at hy
  obtain ⟨h1, h2, h3⟩ := evs_sound hs hxs
  have hgs := ev_sound hs hg
  have h2' : (mapEv t Xs).length = xs.size := by simpa using h2
  have key : ∀ (f : FuncId) (c d : List AV) (fv cv : Array Value), a.eval g = .func (.func f) fv cv → fv.size = c.length → cv.size = d.length →
      (∀ (i : Nat) (x : AV) (v : Value), c[i]? = some x → fv[i]? = some v → SeesA w F E x v) → (∀ (i : Nat) (x : AV) (v : Value), d[i]? = some x → cv[i]? = some v → SeesA w F E x v) →
      callK (Can P) hm nm f (c ++ (mapEv t Xs ++ d)) (fun y' u' => y' = y ∧ u' = u) → Step P w0 wr F0 o a w t h y u := by
    intro f c d fv cv hv e1 e2 hc hd hy
    have hl : ((fv ++ xs.map a.eval) ++ cv).size = (c ++ (mapEv t Xs ++ d)).length := by simp [e1, e2, h2']
    have hcc := call_sound hs hsub nr hl (fun i x v hx hv => by
      rw [Array.getElem?_append] at hv
      rw [List.getElem?_append] at hx
      by_cases c1 : i < c.length
      · rw [if_pos c1] at hx
        rw [if_pos (by simp; omega), Array.getElem?_append_left (by omega)] at hv
        exact hc i x v hx hv
      · rw [if_neg c1, List.getElem?_append] at hx
        by_cases c2 : i - c.length < (mapEv t Xs).length
        · rw [if_pos c2] at hx
          rw [if_pos (by simp; omega), Array.getElem?_append_right (by omega), Array.getElem?_map, Option.map_eq_some_iff] at hv
          obtain ⟨p, hp, rfl⟩ := hv
          exact h3 _ x p hx (by rw [e1] at hp; simpa using hp)
        · rw [if_neg c2] at hx
          rw [if_neg (by simp; omega)] at hv
          refine hd _ x v hx ?_
          rw [← hv]; congr 1; simp; omega) hy o.dst
    refine Step.goes ?_ hcc
    simp only [execOp, ho, resolve, hv, Deferred.ofValue, pure_bind, invoke]
  split at hy
  · rename_i f c d e
    rw [e] at hgs
    obtain ⟨fv, cv, hv, g1, g2, g3, g4⟩ := seesA_fnd hgs
    refine key f (c.map .d) (d.map .d) fv cv hv (by simp [g1]) (by simp [g2]) (fun i x v hx hv' => ?_) (fun i x v hx hv' => ?_) hy
    · obtain ⟨z, hz, rfl⟩ := getElem?_map_d hx; exact .d (g3 i z v hz hv')
    · obtain ⟨z, hz, rfl⟩ := getElem?_map_d hx; exact .d (g4 i z v hz hv')
  · rename_i f c d e
    rw [e] at hgs
    obtain ⟨fv, cv, hv, g1, g2, g3, g4⟩ := seesA_fn hgs
    exact key f c d fv cv hv g1 g2 g3 g4 hy
  · exact hy.elim
theorem toDs_all : ∀ {xs : List AV} {k : List D → Prop}, allD xs = true → toDsK hm xs k → ∃ ys, k ys ∧ xs = ys.map .d
  | [], k, _, hy => ⟨[], hy, rfl⟩
  | x :: xs, k, h, hy => by
    unfold allD at h
    split at h
    · simp only [toDsK, toDK] at hy
      obtain ⟨ys, hk, rfl⟩ := toDs_all h hy
      exact ⟨_ :: ys, hk, rfl⟩
    · simp at h
theorem s_mkfn (hs : SimAt w0 wr F0 F E ⟨t, h⟩ a w) {f : FuncId} {fi ca : Array Operand} {Fi Ca : List Opd} (hfi : cOpds fi.toList = some Fi) (hca : cOpds ca.toList = some Ca) (ho : o.op = .makeFunc (.func f) fi ca)
    {y : AV} {u : List (Nat × Chunk)} (hy : Y P (.mkfn f Fi Ca) nm t hm y u) : Step P w0 wr F0 o a w t h y u := by
  simp only [Y, XOp.eff] at hy
  obtain ⟨_, h2, h3⟩ := evs_sound hs hfi
  obtain ⟨_, g2, g3⟩ := evs_sound hs hca
  have hrun : (execOp a.eval o).run P w = .ok (.value (.func (.func f) (fi.map a.eval) (ca.map a.eval))) w := by simp [execOp, ho, Instr.makeFunc]
  have e3 : ∀ (i : Nat) (x : AV) (v : Value), (mapEv t Fi)[i]? = some x → (fi.map a.eval)[i]? = some v → SeesA w F E x v := by
    intro i x v hx hv
    rw [Array.getElem?_map, Option.map_eq_some_iff] at hv
    obtain ⟨p, hp, rfl⟩ := hv
    exact h3 i x p hx (by simpa using hp)
  have e4 : ∀ (i : Nat) (x : AV) (v : Value), (mapEv t Ca)[i]? = some x → (ca.map a.eval)[i]? = some v → SeesA w F E x v := by
    intro i x v hx hv
    rw [Array.getElem?_map, Option.map_eq_some_iff] at hv
    obtain ⟨p, hp, rfl⟩ := hv
    exact g3 i x p hx (by simpa using hp)
  split at hy
  · rename_i hall
    simp only [Bool.and_eq_true] at hall
    obtain ⟨ys, hy, q1⟩ := toDs_all hall.1 hy
    obtain ⟨zs, ⟨rfl, rfl⟩, q2⟩ := toDs_all hall.2 hy
    have q3 : fi.size = ys.length := by rw [q1] at h2; simpa using h2.symm
    have q4 : ca.size = zs.length := by rw [q2] at g2; simpa using g2.symm
    refine Step.value hs hrun (.d (.fn (by simpa using q3) (by simpa using q4) (fun i x v hx hv => ?_) (fun i x v hx hv => ?_)))
    · have := e3 i (.d x) v (by rw [q1, List.getElem?_map, hx]; rfl) hv
      cases this with | d hd => exact hd
    · have := e4 i (.d x) v (by rw [q2, List.getElem?_map, hx]; rfl) hv
      cases this with | d hd => exact hd
  · obtain ⟨rfl, rfl⟩ := hy
    exact Step.value hs hrun (.fn (by simp [h2]) (by simp [g2]) e3 e4)
end
end Go.X
namespace Go.X
open Go Go.RowKit
section
variable {P : Program} {w0 : World} {wr : Wr} {F0 F : Nat → Prop} {E : Env} {t : List AV} {h hm : List Chunk} {a : Act} {w w' : World} {o : Oper} {nm : Nat}
def fieldKs (ks : TypeId → Option (List SK)) : Nat → List Field → Option (List SK)
  | _, [] => some []
  | off, f :: r => if f.offset = off ∧ f.name ≠ "_" then do
      let a ← ks f.type
      let b ← fieldKs ks (off + a.length) r
      pure (a ++ b) else none
def flatKs (P : Program) : Nat → TypeId → Option (List SK)
  | 0, _ => none
  | n + 1, T =>
    match grp P T with
    | some none => match P.underlying T with
      | some (.int k) => some [.int k]
      | some .bool => some [.bool]
      | some .string => some [.str]
      | _ => none
    | some (some m) => match P.underlying T with
      | some (.array len el) => match flatKs P n el with
        | some ks => if ks.length * len = m ∧ tSize P el = some ks.length then some ((List.replicate len ks).flatten) else none
        | none => none
      | some (.struct fs) => if P.stoodInHeld T = false then match fieldKs (flatKs P n) 0 fs.toList with
        | some ks => if ks.length = m then some ks else none
        | none => none else none
      | _ => none
    | none => none
inductive Val (W : World) (F : Nat → Prop) (P : Program) (T : TypeId) : List D → Value → Prop
  | one {x : D} {v : Value} (hg : grp P T = some none) (h : Sees W F x v) : Val W F P T [x] v
  | agg {m : Nat} {cs : List D} {vs : Array Value} (hg : grp P T = some (some m)) (h : Reads W F cs vs) : Val W F P T cs (.agg vs)
theorem part_val {T : TypeId} {g : Option Nat} (hg : grp P T = some g) {cs : List D} {vs : Array Value} (hr : Reads w F cs vs) {off m : Nat} (hm : tSize P T = some m) {c : List D} (hc : cut cs off m = some c) :
    ∃ v, (part T vs off).run P w = .ok v w ∧ Val w F P T c v := by
  rw [run_part hg]
  obtain ⟨c1, c2, c3⟩ := cut_some hc
  have hl := hr.len
  cases g with
  | none =>
    have hm1 : m = 1 := by have := (grp_none hg).2; rw [hm] at this; simpa using this
    subst hm1
    have hlt : off < vs.size := by omega
    have e := Array.getElem?_eq_getElem hlt
    simp only [e]
    obtain ⟨x, rfl⟩ : ∃ x, c = [x] := List.length_eq_one_iff.1 c1
    have := c3 0 (by omega)
    simp only [List.getElem?_cons_zero, Nat.add_zero] at this
    exact ⟨_, rfl, .one hg (hr.sees off x _ this.symm e)⟩
  | some n =>
    have hmn : m = n := by have := (grp_some hg).2; rw [hm] at this; simpa using this
    subst hmn
    refine ⟨_, rfl, .agg hg ⟨by simp; omega, fun i v hv => ?_, fun i x v hx hv => ?_⟩⟩
    · rw [Array.getElem?_extract] at hv
      split at hv
      · exact hr.one _ v hv
      · simp at hv
    · have hi : i < m := by rw [← c1]; exact (List.getElem?_eq_some_iff.1 hx).1
      rw [c3 i hi] at hx
      rw [Array.getElem?_extract] at hv
      split at hv
      · exact hr.sees _ _ _ hx hv
      · simp at hv
theorem cut_get {cs : List D} {off m : Nat} (hfit : off + m ≤ cs.length) : cut cs off m = some ((cs.drop off).take m) := by unfold cut; rw [if_pos hfit]
theorem conf_part {ks1 ks2 ks3 : List SK} {cs : List D} (h : Conf (ks1 ++ (ks2 ++ ks3)) cs) : Conf ks2 ((cs.drop ks1.length).take ks2.length) := by
  obtain ⟨h1, h2⟩ := h
  simp at h1
  refine ⟨by simp; omega, fun i k x hk hx => ?_⟩
  have hi := (List.getElem?_eq_some_iff.1 hk).1
  rw [List.getElem?_take, if_pos hi, List.getElem?_drop] at hx
  refine h2 (ks1.length + i) k x ?_ hx
  rw [List.getElem?_append_right (by omega), Nat.add_sub_cancel_left, List.getElem?_append_left hi]
  exact hk
theorem drop_eq_iff {α : Type} {a b : List α} {off m : Nat} :
    a.drop off = b.drop off ↔ (a.drop off).take m = (b.drop off).take m ∧ a.drop (off + m) = b.drop (off + m) := by
  constructor
  · intro h
    refine ⟨by rw [h], ?_⟩
    rw [← List.drop_drop, ← List.drop_drop, h]
  · rintro ⟨h1, h2⟩
    rw [← List.take_append_drop m (a.drop off), ← List.take_append_drop m (b.drop off), List.drop_drop, List.drop_drop, h1, h2]
def eqRange (d : Nat) (el : TypeId) (n : Nat) (xs ys : Array Value) : List Nat → Sem Bool
  | [] => pure true
  | i :: r => do
    let a ← part el xs (i * n)
    let b ← part el ys (i * n)
    let q ← Op.equalIn d el a b
    if (!q) = true then pure false else eqRange d el n xs ys r
theorem run_equalIn_array (d : Nat) (T el : TypeId) (len n : Nat) (xs ys : Array Value) (hT : P.underlying T = some (.array len el)) (hn : tSize P el = some n) :
    (Op.equalIn (d + 1) T (.agg xs) (.agg ys)).run P w = (eqRange d el n xs ys (List.range len)).run P w := by
  simp only [Op.equalIn, Sem.run_bind, run_underlying hT, Result.andThen_ok, run_sizeOf hn]
  rw [Std.Legacy.Range.forIn_eq_forIn_range', show List.range' 0 (Std.Legacy.Range.size [0:len]) 1 = List.range len from by simp [Std.Legacy.Range.size, List.range_eq_range']]
  generalize List.range len = l
  induction l generalizing w with
  | nil => simp [eqRange]
  | cons i r ih =>
    simp only [List.forIn_cons, eqRange, Sem.run_bind]
    generalize (part el xs (i * n)).run P w = r1
    cases r1 with
    | halt _ _ => rfl
    | ok a w1 =>
      simp only [Result.andThen_ok]
      generalize (part el ys (i * n)).run P w1 = r2
      cases r2 with
      | halt _ _ => rfl
      | ok b w2 =>
        simp only [Result.andThen_ok]
        generalize (Op.equalIn d el a b).run P w2 = r3
        cases r3 with
        | halt _ _ => rfl
        | ok q w3 =>
          simp only [Result.andThen_ok]
          cases q
          · simp
          · simp only [Bool.not_true, Bool.false_eq_true, if_false, Sem.run_pure, Result.andThen_ok] at ih ⊢
            simpa using ih (w := w3)
theorem bytes_beq (p q : ByteArray) : (p == q) = true ↔ p = q := by
  obtain ⟨⟨x⟩⟩ := p
  obtain ⟨⟨y⟩⟩ := q
  show ((⟨x⟩ : Array UInt8) == ⟨y⟩) = true ↔ _
  simp
theorem run_equal (n : Nat) : ∀ (T : TypeId) (ks : List SK) (d : Nat) (x y : List D) (u v : Value), flatKs P n T = some ks → n ≤ d → Conf ks x → Conf ks y → Val w F P T x u → Val w F P T y v →
    tSize P T = some ks.length ∧ ∃ r, (Op.equalIn d T u v).run P w = .ok r w ∧ (r = true ↔ x = y) := by
  induction n with
  | zero => intro T ks d x y u v hk; simp [flatKs] at hk
  | succ n ih =>
    intro T ks d x y u v hk hd hx hy hu hv
    obtain ⟨d, rfl⟩ : ∃ m, d = m + 1 := ⟨d - 1, by omega⟩
    unfold flatKs at hk
    split at hk
    · rename_i hg
      cases hu with
      | agg hg' _ => rw [hg] at hg'; simp at hg'
      | one _ hu =>
        rename_i p
        cases hv with
        | agg hg' _ => rw [hg] at hg'; simp at hg'
        | one _ hv =>
          rename_i q
          have hsz := (grp_none hg).2
          split at hk
          · rename_i k hT
            simp only [Option.some.injEq] at hk; subst hk
            have k1 := hx.2 0 _ _ rfl rfl
            have k2 := hy.2 0 _ _ rfl rfl
            cases k1 with | int _ p =>
            cases k2 with | int _ q =>
            cases hu; cases hv
            exact ⟨hsz, p == q, run_equalIn_int w d T k k p q hT, by simp⟩
          · rename_i hT
            simp only [Option.some.injEq] at hk; subst hk
            have k1 := hx.2 0 _ _ rfl rfl
            have k2 := hy.2 0 _ _ rfl rfl
            cases k1 with | bool p =>
            cases k2 with | bool q =>
            cases hu; cases hv
            exact ⟨hsz, p == q, run_equalIn_bool' w d T p q hT, by simp⟩
          · rename_i hT
            simp only [Option.some.injEq] at hk; subst hk
            have k1 := hx.2 0 _ _ rfl rfl
            have k2 := hy.2 0 _ _ rfl rfl
            cases k1 with | str p =>
            cases k2 with | str q =>
            cases hu; cases hv
            exact ⟨hsz, p.toList == q.toList, run_equalIn_string w d T p q hT, by rw [← beq_toListBytes, bytes_beq]; simp⟩
          · simp at hk
    · rename_i m hg
      have hsz := (grp_some hg).2
      cases hu with
      | one hg' _ => rw [hg] at hg'; simp at hg'
      | @agg _ _ us _ hu =>
        cases hv with
        | one hg' _ => rw [hg] at hg'; simp at hg'
        | @agg _ _ vs _ hv =>
          split at hk
          ·
            rename_i len el hT
            split at hk
            case h_2 => simp at hk
            rename_i ke hke
            split at hk
            case isFalse => simp at hk
            rename_i hsizes
            simp only [Option.some.injEq] at hk
            have hlen : ks.length = m := by rw [← hk]; simp [← hsizes.1, Nat.mul_comm]
            refine ⟨by rw [hsz, hlen], ?_⟩
            rw [run_equalIn_array d T el len ke.length us vs hT hsizes.2]
            have hxl : x.length = ke.length * len := by rw [hx.1, hlen, hsizes.1]
            have hyl : y.length = ke.length * len := by rw [hy.1, hlen, hsizes.1]
            have hge : ∃ g, grp P el = some g := by
              cases n with
              | zero => simp [flatKs] at hke
              | succ n => unfold flatKs at hke; split at hke <;> first | exact ⟨_, by assumption⟩ | simp at hke
            obtain ⟨g, hge⟩ := hge
            have key : ∀ k s, s + k = len → ∃ r, (eqRange d el ke.length us vs (List.range' s k)).run P w = .ok r w ∧ (r = true ↔ x.drop (s * ke.length) = y.drop (s * ke.length)) := by
              intro k
              induction k with
              | zero =>
                intro s hs
                refine ⟨true, rfl, ?_⟩
                have hs' : s = len := by omega
                subst hs'
                rw [List.drop_eq_nil_of_le (by rw [hxl, Nat.mul_comm]; exact Nat.le_refl _), List.drop_eq_nil_of_le (by rw [hyl, Nat.mul_comm]; exact Nat.le_refl _)]
                simp
              | succ k ihk =>
                intro s hs
                have hfit : s * ke.length + ke.length ≤ ke.length * len := by
                  have : (s + 1) * ke.length ≤ len * ke.length := Nat.mul_le_mul_right _ (by omega)
                  rw [Nat.add_mul, Nat.one_mul] at this
                  rw [Nat.mul_comm ke.length]; exact this
                obtain ⟨u1, r1, v1⟩ := part_val (P := P) hge hu hsizes.2 (cut_get (cs := x) (off := s * ke.length) (m := ke.length) (by omega))
                obtain ⟨u2, r2, v2⟩ := part_val (P := P) hge hv hsizes.2 (cut_get (cs := y) (off := s * ke.length) (m := ke.length) (by omega))
                have hsplit : ks = (List.replicate s ke).flatten ++ (ke ++ (List.replicate k ke).flatten) := by
                  rw [← hk, ← hs, ← List.replicate_append_replicate, List.flatten_append, List.replicate_succ, List.flatten_cons]
                have hsl : ((List.replicate s ke).flatten).length = s * ke.length := by simp
                have cx := hx; have cy := hy
                rw [hsplit] at cx cy
                have cx' := conf_part cx
                have cy' := conf_part cy
                rw [hsl] at cx' cy'
                obtain ⟨_, q, hq1, hq2⟩ := ih el ke d _ _ _ _ hke (by omega) cx' cy' v1 v2
                obtain ⟨r, hr1, hr2⟩ := ihk (s + 1) (by omega)
                rw [List.range'_succ]
                simp only [eqRange, Sem.run_bind, r1, r2, hq1, Result.andThen_ok, Sem.run_ite]
                have hde := drop_eq_iff (a := x) (b := y) (off := s * ke.length) (m := ke.length)
                have e1 : s * ke.length + ke.length = (s + 1) * ke.length := by rw [Nat.add_mul, Nat.one_mul]
                rw [e1] at hde
                cases q with
                | false =>
                  refine ⟨false, by simp, ?_⟩
                  rw [hde]
                  constructor
                  · intro hf; simp at hf
                  · rintro ⟨h1, _⟩; exact absurd (hq2.2 h1) (by simp)
                | true =>
                  refine ⟨r, by simpa using hr1, ?_⟩
                  rw [hr2, hde]
                  exact ⟨fun hh => ⟨hq2.1 rfl, hh⟩, fun hh => hh.2⟩
            obtain ⟨r, h1, h2⟩ := key len 0 (by omega)
            rw [← List.range_eq_range'] at h1
            exact ⟨r, h1, by simpa using h2⟩
          ·
            rename_i fs hT
            split at hk
            case isFalse => simp at hk
            rename_i hst
            split at hk
            case h_2 => simp at hk
            rename_i kf hkf
            split at hk
            case isFalse => simp at hk
            rename_i hlen
            simp only [Option.some.injEq] at hk; subst hk
            refine ⟨by rw [hsz, hlen], ?_⟩
            have hfo : P.fieldsOf T = fs := by simp [Program.fieldsOf, hT]
            rw [run_equalIn_struct w d T us vs (by rw [hfo]; exact hT) hst, hfo]
            have key : ∀ (l : List Field) (off : Nat) (kp kl : List SK), kp.length = off → fieldKs (flatKs P n) off l = some kl → Conf (kp ++ kl) x → Conf (kp ++ kl) y →
                ∃ r, (Op.eqFields d us vs l).run P w = .ok r w ∧ (r = true ↔ x.drop off = y.drop off) := by
              intro l
              induction l with
              | nil =>
                intro off kp kl hkp hfk cx cy
                simp only [fieldKs, Option.some.injEq] at hfk; subst hfk
                refine ⟨true, rfl, ?_⟩
                have h1 := cx.1; have h2 := cy.1
                simp at h1 h2
                rw [List.drop_eq_nil_of_le (by omega), List.drop_eq_nil_of_le (by omega)]
                simp
              | cons f l ihl =>
                intro off kp kl hkp hfk cx cy
                simp only [fieldKs] at hfk
                split at hfk
                case isFalse => simp at hfk
                rename_i hoff
                simp only [Option.pure_def, Option.bind_eq_bind, Option.bind_eq_some_iff, Option.some.injEq] at hfk
                obtain ⟨k1, hk1, k2, hk2, rfl⟩ := hfk
                have h1 := cx.1; have h2 := cy.1
                simp at h1 h2
                have hge : ∃ g, grp P f.type = some g := by
                  cases n with
                  | zero => simp [flatKs] at hk1
                  | succ n => unfold flatKs at hk1; split at hk1 <;> first | exact ⟨_, by assumption⟩ | simp at hk1
                obtain ⟨g, hge⟩ := hge
                have cx' := conf_part cx
                have cy' := conf_part cy
                rw [hkp] at cx' cy'
                have hts : tSize P f.type = some k1.length := by
                  cases n with
                  | zero => simp [flatKs] at hk1
                  | succ n =>
                    unfold flatKs at hk1
                    split at hk1
                    · rename_i hg1
                      rw [(grp_none hg1).2]
                      split at hk1 <;> simp at hk1 <;> subst hk1 <;> rfl
                    · rename_i m1 hg1
                      rw [(grp_some hg1).2]
                      split at hk1
                      · split at hk1
                        · split at hk1
                          · rename_i hh
                            simp only [Option.some.injEq] at hk1
                            rw [← hk1]; simp [← hh.1, Nat.mul_comm]
                          · simp at hk1
                        · simp at hk1
                      · split at hk1
                        · split at hk1
                          · split at hk1
                            · rename_i hh
                              simp only [Option.some.injEq] at hk1
                              rw [← hk1, hh]
                            · simp at hk1
                          · simp at hk1
                        · simp at hk1
                      · simp at hk1
                    · simp at hk1
                obtain ⟨u1, r1, v1⟩ := part_val (P := P) hge hu hts (cut_get (cs := x) (off := off) (m := k1.length) (by omega))
                obtain ⟨u2, r2, v2⟩ := part_val (P := P) hge hv hts (cut_get (cs := y) (off := off) (m := k1.length) (by omega))
                obtain ⟨_, q, hq1, hq2⟩ := ih f.type k1 d _ _ _ _ hk1 (by omega) cx' cy' v1 v2
                obtain ⟨r, hr1, hr2⟩ := ihl (off + k1.length) (kp ++ k1) k2 (by simp [hkp]) hk2 (by rw [List.append_assoc]; exact cx) (by rw [List.append_assoc]; exact cy)
                simp only [Op.eqFields]
                rw [if_pos hoff.2]
                rw [← hoff.1] at r1 r2
                simp only [Sem.run_bind, r1, r2, hq1, Result.andThen_ok, Sem.run_ite]
                have hde := drop_eq_iff (a := x) (b := y) (off := off) (m := k1.length)
                cases q with
                | false =>
                  refine ⟨false, by simp, ?_⟩
                  rw [hde]
                  constructor
                  · intro hf; simp at hf
                  · rintro ⟨h1, _⟩; exact absurd (hq2.2 h1) (by simp)
                | true =>
                  refine ⟨r, by simpa using hr1, ?_⟩
                  rw [hr2, hde]
                  exact ⟨fun hh => ⟨hq2.1 rfl, hh⟩, fun hh => hh.2⟩
            obtain ⟨r, h1, h2⟩ := key fs.toList 0 [] kf rfl hkf hx hy
            exact ⟨r, h1, by simpa using h2⟩
          · simp at hk
    · simp at hk
theorem s_eqa (hs : SimAt w0 wr F0 F E ⟨t, h⟩ a w) {op : BinOp} {ng : Bool} (hop : op = if ng then .neq else .eql) {x z : Operand} {X Z : Opd} (hx : cOpd x = some X) (hz : cOpd z = some Z) {T T' : TypeId} (ho : o.op = .binOp op T x z T')
    {n : Nat} {ks : List SK} (hk : flatKs P n T = some ks) (hn : n ≤ 10000) {m : Nat} (hgr : grp P T = some (some m)) (hgt : P.eqGuardType P.depth T = false)
    {y : AV} {u : List (Nat × Chunk)} (hy : Y P (.eqa ng ks X Z) nm t hm y u) : Step P w0 wr F0 o a w t h y u := by
  simp only [Y, XOp.eff] at hy
  have hxs := ev_sound hs hx
  have hzs := ev_sound hs hz
  split at hy
  · rename_i p q e1 e2
    rw [e1] at hxs; rw [e2] at hzs
    obtain ⟨⟨c1, c2⟩, r, hr, rfl, rfl⟩ := hy
    obtain ⟨us, hv, g1, g2, g3⟩ := seesA_agg hxs
    obtain ⟨vs, hv2, k1, k2, k3⟩ := seesA_agg hzs
    obtain ⟨_, r', hr1, hr2⟩ := run_equal (P := P) (w := w) (F := F) n T ks 10000 p q (.agg us) (.agg vs) hk hn c1 c2 (.agg hgr ⟨g1, g2, g3⟩) (.agg hgr ⟨k1, k2, k3⟩)
    have : r' = r := by
      cases r <;> cases r' <;> simp_all
    subst this
    refine Step.value hs (v := .bool (if ng then !r' else r')) ?_ (.d (.bool _))
    have hgd := run_eqGuard_agg (P := P) w op T x z us vs hgt
    cases ng
    · simp only [Bool.false_eq_true, if_false] at hop
      subst hop
      simp [execOp, ho, hv, hv2, hgd, run_eql_struct, hr1]
    · simp only [if_true] at hop
      subst hop
      simp [execOp, ho, hv, hv2, hgd, run_neq_struct, hr1]
  · exact hy.elim
end
end Go.X
namespace Go.X
open Go Go.RowKit
def cBuild (P : Program) (T : TypeId) (ps : Array (Nat × Operand)) : Option XOp :=
  match P.underlying T, tZero P T with
  | some (.struct fs), some z => match fieldPls P fs.toList with
    | some pls => (cParts (fun (i : Nat) => pls[i]?) ps.toList).map (.build z)
    | none => none
  | some (.array _ el), some z => match tSize P el with
    | some n => (cParts (fun i => some (i * n, n)) ps.toList).map (.build z)
    | none => none
  | _, _ => none
def cBSlice (P : Program) (T : TypeId) (n : Nat) (ps : Array (Nat × Operand)) : Option XOp :=
  match P.underlying T with
  | some (.slice el) => match tZero P el with
    | some z => if 0 < z.length ∧ n = ps.size ∧ n * z.length ≤ 2 ^ 24 then (cElems 0 ps.toList).map (.bslice z.length) else none
    | none => none
  | _ => none
def flatDepth : Nat := 8
def cBin (P : Program) (op : BinOp) (T : TypeId) (x y : Operand) : Option XOp :=
  match cOpd x, cOpd y with
  | some X, some Z => match arOf op with
    | some r => some (.arith r X Z)
    | none => match cmOf op with
      | none => none
      | some r => match P.underlying T with
        | some (.int _) => some (.cmp r X Z)
        | some .string => some (.cmp r X Z)
        | some .bool => match op with
          | .eql => some (.cmpB false X Z)
          | .neq => some (.cmpB true X Z)
          | _ => none
        | some (.slice _) => match op, y with
          | .eql, .const (.slice none 0 0) => some (.isNil false X)
          | .neq, .const (.slice none 0 0) => some (.isNil true X)
          | _, _ => none
        | _ => match grp P T, flatKs P flatDepth T with
          | some (some _), some ks => if P.eqGuardType P.depth T = false then match op with
            | .eql => some (.eqa false ks X Z)
            | .neq => some (.eqa true ks X Z)
            | _ => none else none
          | _, _ => none
  | _, _ => none
def cConv (P : Program) (S T : TypeId) (x : Operand) : Option XOp :=
  match P.underlying T, (P.underlying S).isSome with
  | some (.int k), true => (cOpd x).map (.conv k)
  | some .string, true => match P.underlying S with
    | some (.slice e) => match P.underlying e with
      | some (.int .u8) => (cOpd x).map .b2s
      | _ => none
    | _ => none
  | _, _ => none
def cFaddr (P : Program) (T : TypeId) (x : Operand) (i : Nat) : Option XOp :=
  match P.underlying T with
  | some (.struct fs) => match fs[i]? with
    | some f => match tSize P f.type with
      | some (_ + 1) => (cOpd x).map (.faddr f.offset)
      | _ => none
    | none => none
  | _ => none
def cField (P : Program) (T : TypeId) (x : Operand) (i : Nat) : Option XOp :=
  match P.underlying T with
  | some (.struct fs) => match fs[i]? with
    | some f => match grp P f.type with
      | some g => (cOpd x).map (.field f.offset g)
      | none => none
    | none => none
  | _ => none
def cIaddr (P : Program) (T : TypeId) (x i : Operand) : Option XOp :=
  match cOpd x, cOpd i with
  | some X, some I => match P.underlying T with
    | some (.array len el) => (tSize P el).map fun n => .iaddrA len n X I
    | some (.slice el) => (tSize P el).map fun n => .iaddrS n X I
    | _ => none
  | _, _ => none
def cIdx (P : Program) (T : TypeId) (x i : Operand) : Option XOp :=
  match cOpd x, cOpd i with
  | some X, some I => match P.underlying T with
    | some (.array len el) => match tSize P el, grp P el with
      | some n, some g => some (.idx len n g X I)
      | _, _ => none
    | some .string => some (.idxS X I)
    | _ => none
  | _, _ => none
def cSlice (P : Program) (T : TypeId) (x : Operand) (lo hi : Option Operand) : Option XOp :=
  match cOpd x, optO lo, optO hi with
  | some X, some L, some H => match P.underlying T with
    | some (.slice el) => (tSize P el).map fun n => .slc n X L H
    | some .string => some (.slcS X L H)
    | some (.array len el) => (tSize P el).map fun n => .slcA len n X L H
    | some (.pointer T') => match P.underlying T' with
      | some (.array len el) => (tSize P el).map fun n => .slcA len n X L H
      | _ => none
    | _ => none
  | _, _, _ => none
def cSlice3 (P : Program) (T : TypeId) (x lo hi mx : Operand) : Option XOp :=
  match cOpd x, cOpd lo, cOpd hi, cOpd mx with
  | some X, some L, some H, some M => match P.underlying T with
    | some (.slice el) => (tSize P el).map fun n => .slc3 n X L H M
    | _ => none
  | _, _, _, _ => none
def cClr (P : Program) (T : TypeId) (x : Operand) : Option XOp :=
  match P.underlying T with
  | some (.slice el) => match tZero P el, cOpd x with
    | some z, some X => some (.clr z X)
    | _, _ => none
  | _ => none
def cMake (P : Program) (T : TypeId) (x : Operand) : Option XOp :=
  match P.underlying T with
  | some (.slice el) => match tZero P el, P.info? el, cOpd x with
    | some z, some i, some X => some (.mkrow z.length i.bytes z X)
    | _, _, _ => none
  | _ => none
def cLen (P : Program) (T : TypeId) (x : Operand) : Option XOp :=
  match P.underlying T with
  | some (.slice _) => (cOpd x).map .len
  | some .string => (cOpd x).map .lenS
  | some (.array n _) => some (.lenA n)
  | some (.pointer T') => match P.underlying T' with
    | some (.array n _) => some (.lenA n)
    | _ => none
  | _ => none
def cApp (P : Program) (T : TypeId) (x z : Operand) : Option XOp :=
  match P.underlying T with
  | some (.slice el) => match tZero P el, P.info? el, cOpd x, cOpd z with
    | some _, some i, some X, some Z => some (.app i.size i.bytes X Z)
    | _, _, _, _ => none
  | _ => none
def sameOpd : Opd → Opd → Bool
  | .t n, .t m => n == m
  | .c (.int k n), .c (.int k' m) => k == k' && n == m
  | _, _ => false
theorem sameOpd_eq {x y : Opd} (h : sameOpd x y = true) : x = y := by
  unfold sameOpd at h
  split at h
  · simp at h; rw [h]
  · simp at h; rw [h.1, h.2]
  · simp at h
def cCall (P : Program) (c : Call) : Option XOp :=
  match c with
  | { callee := .value (.func f), args := xs, argTypes := _ } => (cOpds xs.toList).map (.call f)
  | { callee := .value g, args := xs, argTypes := _ } => match cOpd g, cOpds xs.toList with
    | some G, some Xs => some (.callV G Xs)
    | _, _ => none
  | { callee := .builtin .len, args := xs, argTypes := ts } => match xs.toList, ts.toList with
    | [x], [T] => cLen P T x
    | _, _ => none
  | { callee := .builtin .append, args := xs, argTypes := ts } => match xs.toList, ts.toList with
    | [x, z], [T, T'] => if T = T' then cApp P T x z else none
    | _, _ => none
  | { callee := .builtin .clear, args := xs, argTypes := ts } => match xs.toList, ts.toList with
    | [x], [T] => cClr P T x
    | _, _ => none
  | { callee := .builtin .min, args := xs, argTypes := _ } => match xs.toList with
    | [x, z] => match cOpd x, cOpd z with
      | some X, some Z => some (.mm false X Z)
      | _, _ => none
    | _ => none
  | { callee := .builtin .max, args := xs, argTypes := _ } => match xs.toList with
    | [x, z] => match cOpd x, cOpd z with
      | some X, some Z => some (.mm true X Z)
      | _, _ => none
    | _ => none
  | _ => none
def isSlice (P : Program) (T : TypeId) : Bool := match P.underlying T with
  | some (.slice _) => true
  | _ => false
def cOp (P : Program) (slc : Bool) (o : Op) : Option XOp :=
  match o with
  | .move x => (cOpd x).map .mov
  | .assign x => (cOpd x).map .mov
  | .pick c x y => match cOpd c, cOpd x, cOpd y with
    | some C, some X, some Z => some (.pick C X Z)
    | _, _, _ => none
  | .alloc T => (tZero P T).map .alloc
  | .box _ x => (cOpd x).map .box
  | .build T ps => cBuild P T ps
  | .buildSlice T n ps => cBSlice P T n ps
  | .load T p => match grp P T, cOpd p with
    | some g, some X => some (if slc && isSlice P T && g.isNone then .loadS X else .load g X)
    | _, _ => none
  | .store T p v => match grp P T, cOpd p, cOpd v with
    | some g, some X, some Z => some (.store g X Z)
    | _, _, _ => none
  | .nilCheck x => (cOpd x).map .nilchk
  | .binOp op T x y _ => cBin P op T x y
  | .unOp .not _ x => (cOpd x).map .not
  | .unOp .neg _ x => (cOpd x).map .neg
  | .convert S T x => cConv P S T x
  | .fieldAddr T x i => cFaddr P T x i
  | .field T x i => cField P T x i
  | .indexAddr T x i => cIaddr P T x i
  | .index T x i => cIdx P T x i
  | .slice T x lo hi none => cSlice P T x lo hi
  | .slice T x (some lo) (some hi) (some mx) => cSlice3 P T x lo hi mx
  | .makeSlice T x y => match cOpd x, cOpd y with
    | some X, some Z => if sameOpd X Z = true then cMake P T x else none
    | _, _ => none
  | .makeFunc (.func f) fi ca => match cOpds fi.toList, cOpds ca.toList with
    | some X, some Z => some (.mkfn f X Z)
    | _, _ => none
  | .extract x i => (cOpd x).map fun X => .extract X i
  | .call c => cCall P c
  | _ => none
section
variable {P : Program} {w0 : World} {wr : Wr} {F0 F : Nat → Prop} {E : Env} {t : List AV} {h hm : List Chunk} {a : Act} {w w' : World} {o : Oper} {nm : Nat} {y : AV} {u : List (Nat × Chunk)} {X : XOp}
theorem d_build (hs : SimAt w0 wr F0 F E ⟨t, h⟩ a w) {T : TypeId} {ps : Array (Nat × Operand)} (ho : o.op = .build T ps) (hx : cBuild P T ps = some X) (hy : Y P X nm t hm y u) : Step P w0 wr F0 o a w t h y u := by
  unfold cBuild at hx
  split at hx
  · rename_i fs z hT hz
    split at hx
    · rename_i pls hp
      simp only [Option.map_eq_some_iff] at hx
      obtain ⟨qs, hq, rfl⟩ := hx
      exact s_buildS hs hz hT hp hq ho hy
    · simp at hx
  · rename_i len el z hT hz
    split at hx
    · rename_i n hn
      simp only [Option.map_eq_some_iff] at hx
      obtain ⟨qs, hq, rfl⟩ := hx
      exact s_buildA hs hz hT hn hq ho hy
    · simp at hx
  · simp at hx
theorem d_bslice (hs : SimAt w0 wr F0 F E ⟨t, h⟩ a w) (nr : X.mk = true → NRs nm t h) {T : TypeId} {n : Nat} {ps : Array (Nat × Operand)} (ho : o.op = .buildSlice T n ps) (hx : cBSlice P T n ps = some X) (hy : Y P X nm t hm y u) : Step P w0 wr F0 o a w t h y u := by
  unfold cBSlice at hx
  split at hx
  · rename_i el hT
    split at hx
    · rename_i z hz
      split at hx
      · rename_i hc
        simp only [Option.map_eq_some_iff] at hx
        obtain ⟨qs, hq, rfl⟩ := hx
        exact s_bslice hs (nr rfl) hT hz rfl hc.1 hc.2.1 hc.2.2 hq ho hy
      · simp at hx
    · simp at hx
  · simp at hx
theorem d_bin (hs : SimAt w0 wr F0 F E ⟨t, h⟩ a w) (hsub : Sub hm h) {op : BinOp} {T T' : TypeId} {x z : Operand} (ho : o.op = .binOp op T x z T') (hx : cBin P op T x z = some X) (hy : Y P X nm t hm y u) : Step P w0 wr F0 o a w t h y u := by
  unfold cBin at hx
  split at hx
  case h_2 => simp at hx
  rename_i X' Z' hX hZ
  split at hx
  · rename_i r hr
    simp only [Option.some.injEq] at hx; subst hx
    exact s_arith hs hr hX hZ ho hy
  · split at hx
    · simp at hx
    · rename_i r hr
      split at hx
      · simp only [Option.some.injEq] at hx; subst hx; exact s_cmp hs hr hX hZ ho hy
      · simp only [Option.some.injEq] at hx; subst hx; exact s_cmp hs hr hX hZ ho hy
      · rename_i hT
        split at hx
        · simp only [Option.some.injEq] at hx; subst hx; exact s_cmpB hs (ng := false) rfl hX hZ ho hT hy
        · simp only [Option.some.injEq] at hx; subst hx; exact s_cmpB hs (ng := true) rfl hX hZ ho hT hy
        · simp at hx
      · rename_i hT
        split at hx
        · simp only [Option.some.injEq] at hx; subst hx; exact s_isNil hs hsub (ng := false) rfl hX ho hT hy
        · simp only [Option.some.injEq] at hx; subst hx; exact s_isNil hs hsub (ng := true) rfl hX ho hT hy
        · simp at hx
      · split at hx
        · rename_i m ks hg hk
          split at hx
          · rename_i hgt
            split at hx
            · simp only [Option.some.injEq] at hx; subst hx; exact s_eqa hs (ng := false) rfl hX hZ ho hk (by unfold flatDepth; omega) hg hgt hy
            · simp only [Option.some.injEq] at hx; subst hx; exact s_eqa hs (ng := true) rfl hX hZ ho hk (by unfold flatDepth; omega) hg hgt hy
            · simp at hx
          · simp at hx
        · simp at hx
theorem d_call (hs : SimAt w0 wr F0 F E ⟨t, h⟩ a w) (hsub : Sub hm h) (nr : X.mk = true → NRs nm t h) {c : Call} (ho : o.op = .call c) (hx : cCall P c = some X) (hy : Y P X nm t hm y u) : Step P w0 wr F0 o a w t h y u := by
  unfold cCall at hx
  split at hx
  · simp only [Option.map_eq_some_iff] at hx
    obtain ⟨Xs, hXs, rfl⟩ := hx
    exact s_call hs hsub (nr rfl) hXs ho hy
  · split at hx
    · rename_i G Xs hG hXs
      simp only [Option.some.injEq] at hx; subst hx
      exact s_callV hs hsub (nr rfl) hG hXs ho hy
    · simp at hx
  · rename_i xs ts
    split at hx
    · rename_i x T e1 e2
      have e1' : xs = #[x] := by rw [← Array.toArray_toList (xs := xs), e1]
      have e2' : ts = #[T] := by rw [← Array.toArray_toList (xs := ts), e2]
      rw [e1', e2'] at ho
      unfold cLen at hx
      split at hx
      · rename_i hT
        simp only [Option.map_eq_some_iff] at hx; obtain ⟨Z, hZ, rfl⟩ := hx
        exact s_len hs hsub hZ hT ho hy
      · rename_i hT
        simp only [Option.map_eq_some_iff] at hx; obtain ⟨Z, hZ, rfl⟩ := hx
        exact s_lenS hs hZ hT ho hy
      · rename_i hT
        simp only [Option.some.injEq] at hx; subst hx
        exact s_lenA hs (.inl hT) ho hy
      · rename_i hT
        split at hx
        · rename_i hT'
          simp only [Option.some.injEq] at hx; subst hx
          exact s_lenA hs (.inr ⟨_, hT, hT'⟩) ho hy
        · simp at hx
      · simp at hx
    · simp at hx
  · rename_i xs ts
    split at hx
    · rename_i x z T T' e1 e2
      have e1' : xs = #[x, z] := by rw [← Array.toArray_toList (xs := xs), e1]
      have e2' : ts = #[T, T'] := by rw [← Array.toArray_toList (xs := ts), e2]
      split at hx
      · rename_i hTT
        subst hTT
        rw [e1', e2'] at ho
        unfold cApp at hx
        split at hx
        · rename_i el hT
          split at hx
          · rename_i zr i X' Z' hzr hi hX hZ
            simp only [Option.some.injEq] at hx; subst hx
            exact s_app hs hsub (nr rfl) hX hZ hT hi hzr ho hy
          · simp at hx
        · simp at hx
      · simp at hx
    · simp at hx
  · rename_i xs ts
    split at hx
    · rename_i x T e1 e2
      have e1' : xs = #[x] := by rw [← Array.toArray_toList (xs := xs), e1]
      have e2' : ts = #[T] := by rw [← Array.toArray_toList (xs := ts), e2]
      rw [e1', e2'] at ho
      unfold cClr at hx
      split at hx
      · rename_i el hT
        split at hx
        · rename_i zr X' hzr hX
          simp only [Option.some.injEq] at hx; subst hx
          exact s_clr hs hsub hX hT hzr ho hy
        · simp at hx
      · simp at hx
    · simp at hx
  · rename_i xs ts
    split at hx
    · rename_i x z e1
      have e1' : xs = #[x, z] := by rw [← Array.toArray_toList (xs := xs), e1]
      rw [e1'] at ho
      split at hx
      · rename_i X' Z' hX hZ
        simp only [Option.some.injEq] at hx; subst hx
        exact s_mm hs hX hZ (mx := false) ho hy
      · simp at hx
    · simp at hx
  · rename_i xs ts
    split at hx
    · rename_i x z e1
      have e1' : xs = #[x, z] := by rw [← Array.toArray_toList (xs := xs), e1]
      rw [e1'] at ho
      split at hx
      · rename_i X' Z' hX hZ
        simp only [Option.some.injEq] at hx; subst hx
        exact s_mm hs hX hZ (mx := true) ho hy
      · simp at hx
    · simp at hx
  · simp at hx
theorem op_sound (hs : SimAt w0 wr F0 F E ⟨t, h⟩ a w) (hsub : Sub hm h) (nr : X.mk = true → NRs nm t h) {slc : Bool} (hx : cOp P slc o.op = some X) (hy : Y P X nm t hm y u) : Step P w0 wr F0 o a w t h y u := by
  generalize hop : o.op = p at hx
  unfold cOp at hx
  split at hx
  · simp only [Option.map_eq_some_iff] at hx; obtain ⟨Z, hZ, rfl⟩ := hx; exact s_mov hs hZ (.inl hop) hy
  · simp only [Option.map_eq_some_iff] at hx; obtain ⟨Z, hZ, rfl⟩ := hx; exact s_mov hs hZ (.inr hop) hy
  · split at hx
    · rename_i e1 e2 e3
      simp only [Option.some.injEq] at hx; subst hx; exact s_pick hs e1 e2 e3 hop hy
    · simp at hx
  · simp only [Option.map_eq_some_iff] at hx; obtain ⟨Z, hZ, rfl⟩ := hx; exact s_alloc hs (nr rfl) hZ hop hy
  · simp only [Option.map_eq_some_iff] at hx; obtain ⟨Z, hZ, rfl⟩ := hx; exact s_box hs (nr rfl) hZ hop hy
  · exact d_build hs hop hx hy
  · exact d_bslice hs nr hop hx hy
  · split at hx
    · rename_i g X' e1 e2
      simp only [Option.some.injEq] at hx; subst hx
      split at hy
      · rename_i hg
        simp only [Bool.and_eq_true, Option.isNone_iff_eq_none] at hg
        obtain ⟨⟨_, _⟩, rfl⟩ := hg
        exact s_loadS hs hsub (nr (by simp [XOp.mk, *])) e2 e1 hop hy
      · exact s_load hs hsub e2 e1 hop hy
    · simp at hx
  · split at hx
    · rename_i e1 e2 e3
      simp only [Option.some.injEq] at hx; subst hx; exact s_store hs hsub e2 e3 e1 hop hy
    · simp at hx
  · simp only [Option.map_eq_some_iff] at hx; obtain ⟨Z, hZ, rfl⟩ := hx; exact s_nilchk hs hZ hop hy
  · exact d_bin hs hsub hop hx hy
  · simp only [Option.map_eq_some_iff] at hx; obtain ⟨Z, hZ, rfl⟩ := hx; exact s_not hs hZ hop hy
  · simp only [Option.map_eq_some_iff] at hx; obtain ⟨Z, hZ, rfl⟩ := hx; exact s_neg hs hZ hop hy
  · unfold cConv at hx
    split at hx
    · rename_i e1 e2
      simp only [Option.map_eq_some_iff] at hx; obtain ⟨Z, hZ, rfl⟩ := hx; exact s_conv hs hZ e1 e2 hop hy
    · rename_i e1 e2
      split at hx
      · rename_i e3
        split at hx
        · rename_i e4
          simp only [Option.map_eq_some_iff] at hx; obtain ⟨Z, hZ, rfl⟩ := hx; exact s_b2s hs hsub hZ e3 e4 e1 hop hy
        · simp at hx
      · simp at hx
    · simp at hx
  · unfold cFaddr at hx
    split at hx
    · rename_i e1
      split at hx
      · rename_i e2
        split at hx
        · rename_i e3
          simp only [Option.map_eq_some_iff] at hx; obtain ⟨Z, hZ, rfl⟩ := hx; exact s_faddr hs hZ e1 e2 e3 (by omega) hop hy
        · simp at hx
      · simp at hx
    · simp at hx
  · unfold cField at hx
    split at hx
    · rename_i e1
      split at hx
      · rename_i e2
        split at hx
        · rename_i e3
          simp only [Option.map_eq_some_iff] at hx; obtain ⟨Z, hZ, rfl⟩ := hx; exact s_field hs hZ e1 e2 e3 hop hy
        · simp at hx
      · simp at hx
    · simp at hx
  · unfold cIaddr at hx
    split at hx
    · rename_i e1 e2
      split at hx
      · rename_i e3
        simp only [Option.map_eq_some_iff] at hx; obtain ⟨n, hn, rfl⟩ := hx; exact s_iaddrA hs e1 e2 e3 hn hop hy
      · rename_i e3
        simp only [Option.map_eq_some_iff] at hx; obtain ⟨n, hn, rfl⟩ := hx; exact s_iaddrS hs hsub e1 e2 e3 hn hop hy
      · simp at hx
    · simp at hx
  · unfold cIdx at hx
    split at hx
    · rename_i e1 e2
      split at hx
      · rename_i e3
        split at hx
        · rename_i e4 e5
          simp only [Option.some.injEq] at hx; subst hx; exact s_idx hs e1 e2 e3 e4 e5 hop hy
        · simp at hx
      · rename_i e3
        simp only [Option.some.injEq] at hx; subst hx; exact s_idxS hs e1 e2 e3 hop hy
      · simp at hx
    · simp at hx
  · unfold cSlice at hx
    split at hx
    · rename_i e1 e2 e3
      split at hx
      · rename_i e4
        simp only [Option.map_eq_some_iff] at hx; obtain ⟨n, hn, rfl⟩ := hx; exact s_slc hs hsub e1 e2 e3 e4 hn hop hy
      · rename_i e4
        simp only [Option.some.injEq] at hx; subst hx; exact s_slcS hs e1 e2 e3 e4 hop hy
      · rename_i e4
        simp only [Option.map_eq_some_iff] at hx; obtain ⟨n, hn, rfl⟩ := hx; exact s_slcA hs e1 e2 e3 (.inl e4) hn hop hy
      · rename_i e4
        split at hx
        · rename_i e5
          simp only [Option.map_eq_some_iff] at hx; obtain ⟨n, hn, rfl⟩ := hx; exact s_slcA hs e1 e2 e3 (.inr ⟨_, e4, e5⟩) hn hop hy
        · simp at hx
      · simp at hx
    · simp at hx
  · unfold cSlice3 at hx
    split at hx
    · rename_i e1 e2 e3 e4
      split at hx
      · rename_i e5
        simp only [Option.map_eq_some_iff] at hx; obtain ⟨n, hn, rfl⟩ := hx; exact s_slc3 hs hsub e1 e2 e3 e4 e5 hn hop hy
      · simp at hx
    · simp at hx
  · split at hx
    · rename_i e1 e2
      split at hx
      · rename_i e3
        have e4 := sameOpd_eq e3
        subst e4
        unfold cMake at hx
        split at hx
        · rename_i e5
          split at hx
          · rename_i e6 e7 e8
            rw [e1] at e8
            simp only [Option.some.injEq] at hx e8; subst hx; subst e8; exact s_mkrow hs (nr rfl) e5 e6 e7 e1 e2 hop hy
          · simp at hx
        · simp at hx
      · simp at hx
    · simp at hx
  · split at hx
    · rename_i e1 e2
      simp only [Option.some.injEq] at hx; subst hx; exact s_mkfn hs e1 e2 hop hy
    · simp at hx
  · simp only [Option.map_eq_some_iff] at hx; obtain ⟨Z, hZ, rfl⟩ := hx; exact s_extract hs hZ hop hy
  · exact d_call hs hsub nr hop hx hy
  · simp at hx
theorem cOp_call {slc : Bool} {op : Op} {f : FuncId} {as : List Opd} (hx : cOp P slc op = some (.call f as)) : ∃ xs ts, op = .call { callee := .value (.func f), args := xs, argTypes := ts } ∧ cOpds xs.toList = some as := by
  unfold cOp at hx
  split at hx
  case h_24 =>
    rename_i c
    unfold cCall at hx
    split at hx
    · rename_i g xs ts
      simp only [Option.map_eq_some_iff] at hx
      obtain ⟨Xs, h1, h2⟩ := hx
      cases h2
      exact ⟨_, _, rfl, h1⟩
    · split at hx <;> cases hx
    · split at hx
      · unfold cLen at hx; (repeat' split at hx) <;> first | cases hx | (simp only [Option.map_eq_some_iff] at hx; obtain ⟨_, _, h⟩ := hx; cases h)
      · cases hx
    · split at hx
      · split at hx
        · unfold cApp at hx; (repeat' split at hx) <;> first | cases hx | (simp only [Option.map_eq_some_iff] at hx; obtain ⟨_, _, h⟩ := hx; cases h)
        · cases hx
      · cases hx
    · split at hx
      · unfold cClr at hx; (repeat' split at hx) <;> first | cases hx | (simp only [Option.some.injEq] at hx; cases hx)
      · cases hx
    · (repeat' split at hx) <;> cases hx
    · (repeat' split at hx) <;> cases hx
    · cases hx
  all_goals (try simp only [cBuild, cBSlice, cBin, cConv, cFaddr, cField, cIaddr, cIdx, cSlice, cSlice3, cMake] at hx)
  all_goals ((repeat' split at hx) <;> first | (cases hx; done) | (simp only [Option.map_eq_some_iff] at hx; obtain ⟨_, _, h⟩ := hx; cases h; done) | (simp at hx; done) | skip)
theorem cOp_noM {slc : Bool} {op : Op} {f : FuncId} {x : Opd} {as : List Opd} (hx : cOp P slc op = some (.callM f x as)) : False := by
  unfold cOp at hx
  split at hx
  case h_24 =>
    rename_i c
    unfold cCall at hx
    split at hx
    · simp only [Option.map_eq_some_iff] at hx
      obtain ⟨Xs, h1, h2⟩ := hx
      cases h2
    · split at hx <;> cases hx
    · split at hx
      · unfold cLen at hx; (repeat' split at hx) <;> first | cases hx | (simp only [Option.map_eq_some_iff] at hx; obtain ⟨_, _, h⟩ := hx; cases h)
      · cases hx
    · split at hx
      · split at hx
        · unfold cApp at hx; (repeat' split at hx) <;> first | cases hx | (simp only [Option.map_eq_some_iff] at hx; obtain ⟨_, _, h⟩ := hx; cases h)
        · cases hx
      · cases hx
    · split at hx
      · unfold cClr at hx; (repeat' split at hx) <;> first | cases hx | (simp only [Option.some.injEq] at hx; cases hx)
      · cases hx
    · (repeat' split at hx) <;> cases hx
    · (repeat' split at hx) <;> cases hx
    · cases hx
  all_goals (try simp only [cBuild, cBSlice, cBin, cConv, cFaddr, cField, cIaddr, cIdx, cSlice, cSlice3, cMake] at hx)
  all_goals ((repeat' split at hx) <;> first | (cases hx; done) | (simp only [Option.map_eq_some_iff] at hx; obtain ⟨_, _, h⟩ := hx; cases h; done) | (simp at hx; done) | skip)
theorem cOp_noD {slc : Bool} {op : Op} {sz : Nat} {ps : List Opd} (hx : cOp P slc op = some (.bsliceD sz ps)) : False := by
  unfold cOp at hx
  split at hx
  case h_24 =>
    rename_i c
    unfold cCall at hx
    split at hx
    · simp only [Option.map_eq_some_iff] at hx
      obtain ⟨Xs, h1, h2⟩ := hx
      cases h2
    · split at hx <;> cases hx
    · split at hx
      · unfold cLen at hx; (repeat' split at hx) <;> first | cases hx | (simp only [Option.map_eq_some_iff] at hx; obtain ⟨_, _, h⟩ := hx; cases h)
      · cases hx
    · split at hx
      · split at hx
        · unfold cApp at hx; (repeat' split at hx) <;> first | cases hx | (simp only [Option.map_eq_some_iff] at hx; obtain ⟨_, _, h⟩ := hx; cases h)
        · cases hx
      · cases hx
    · split at hx
      · unfold cClr at hx; (repeat' split at hx) <;> first | cases hx | (simp only [Option.some.injEq] at hx; cases hx)
      · cases hx
    · (repeat' split at hx) <;> cases hx
    · (repeat' split at hx) <;> cases hx
    · cases hx
  all_goals (try simp only [cBuild, cBSlice, cBin, cConv, cFaddr, cField, cIaddr, cIdx, cSlice, cSlice3, cMake] at hx)
  all_goals ((repeat' split at hx) <;> first | (cases hx; done) | (simp only [Option.map_eq_some_iff] at hx; obtain ⟨_, _, h⟩ := hx; cases h; done) | (simp at hx; done) | skip)
theorem cOp_bslice {slc : Bool} {op : Op} {sz : Nat} {qs : List Opd} (hx : cOp P slc op = some (.bslice sz qs)) : ∃ T n ps, op = .buildSlice T n ps ∧ cBSlice P T n ps = some (.bslice sz qs) := by
  unfold cOp at hx
  split at hx
  case h_7 => exact ⟨_, _, _, rfl, hx⟩
  case h_24 =>
    rename_i c
    unfold cCall at hx
    split at hx
    · simp only [Option.map_eq_some_iff] at hx
      obtain ⟨Xs, h1, h2⟩ := hx
      cases h2
    · split at hx <;> cases hx
    · split at hx
      · unfold cLen at hx; (repeat' split at hx) <;> first | cases hx | (simp only [Option.map_eq_some_iff] at hx; obtain ⟨_, _, h⟩ := hx; cases h)
      · cases hx
    · split at hx
      · split at hx
        · unfold cApp at hx; (repeat' split at hx) <;> first | cases hx | (simp only [Option.map_eq_some_iff] at hx; obtain ⟨_, _, h⟩ := hx; cases h)
        · cases hx
      · cases hx
    · split at hx
      · unfold cClr at hx; (repeat' split at hx) <;> first | cases hx | (simp only [Option.some.injEq] at hx; cases hx)
      · cases hx
    · (repeat' split at hx) <;> cases hx
    · (repeat' split at hx) <;> cases hx
    · cases hx
  all_goals (try simp only [cBuild, cBSlice, cBin, cConv, cFaddr, cField, cIaddr, cIdx, cSlice, cSlice3, cMake] at hx)
  all_goals ((repeat' split at hx) <;> first | (cases hx; done) | (simp only [Option.map_eq_some_iff] at hx; obtain ⟨_, _, h⟩ := hx; cases h; done) | (simp at hx; done) | skip)
def XOp.erase : XOp → XOp
  | .callM f x args => .call f (x :: args)
  | .bsliceD sz ps => .bslice sz ps
  | o => o
theorem erase_mk (X : XOp) : X.erase.mk = X.mk := by cases X <;> rfl
theorem op_soundE (hs : SimAt w0 wr F0 F E ⟨t, h⟩ a w) (hsub : Sub hm h) (nr : X.mk = true → NRs nm t h) {slc : Bool} (hx : cOp P slc o.op = some X.erase) (hy : Y P X nm t hm y u) : Step P w0 wr F0 o a w t h y u := by
  cases X
  case callM f x args =>
    obtain ⟨xs, ts, h1, h2⟩ := cOp_call hx
    exact s_callM hs hsub (nr rfl) h2 h1 hy
  case bsliceD sz qs =>
    obtain ⟨T, n, ps, h1, h2⟩ := cOp_bslice hx
    unfold cBSlice at h2
    split at h2
    · rename_i el hT
      split at h2
      · rename_i z hz
        split at h2
        · rename_i hc
          simp only [Option.map_eq_some_iff, XOp.bslice.injEq] at h2
          obtain ⟨qs', hq, hq1, hq2⟩ := h2
          subst hq2
          exact s_bsliceD hs hT hz hq1 (by rw [← hq1]; exact hc.1) hc.2.1 (by rw [← hq1]; exact hc.2.2) hq h1 hy
        · simp at h2
      · simp at h2
    · simp at h2
  all_goals exact op_sound hs hsub nr hx hy
end
end Go.X
namespace Go.X
open Go Go.RowKit
def Lin (G : Eff → Prop) : Prop := ∀ K, G K ↔ ∃ y u, G (fun y' u' => y' = y ∧ u' = u) ∧ K y u
def Lin1 {α : Type} (f : (α → Prop) → Prop) : Prop := ∀ k, f k ↔ ∃ x, f (fun x' => x' = x) ∧ k x
theorem Lin.atom (y : AV) (u : List (Nat × Chunk)) : Lin fun K => K y u := fun K => ⟨fun h => ⟨y, u, ⟨rfl, rfl⟩, h⟩, fun ⟨_, _, ⟨e1, e2⟩, h⟩ => by subst e1; subst e2; exact h⟩
theorem lin_subK (b sz a m n : Nat) : Lin (subK b sz a m n) := by
  rw [show subK b sz a m n = fun K => K (if a < n then .sub b sz a m else .d (.lst sz [])) [] from funext fun K => subK_eq ..]
  exact Lin.atom _ _
theorem Lin.fls : Lin fun _ => False := fun _ => ⟨fun h => h.elim, fun ⟨_, _, h, _⟩ => h.elim⟩
theorem Lin.and {p : Prop} {G : Eff → Prop} (hG : Lin G) : Lin fun K => p ∧ G K := fun K => by
  constructor
  · rintro ⟨hp, h⟩
    obtain ⟨y, u, h1, h2⟩ := (hG K).1 h
    exact ⟨y, u, ⟨hp, h1⟩, h2⟩
  · rintro ⟨y, u, ⟨hp, h1⟩, h2⟩
    exact ⟨hp, (hG K).2 ⟨y, u, h1, h2⟩⟩
theorem Lin.ex {α : Type} {G : α → Eff → Prop} (hG : ∀ x, Lin (G x)) : Lin fun K => ∃ x, G x K := fun K => by
  constructor
  · rintro ⟨x, h⟩
    obtain ⟨y, u, h1, h2⟩ := (hG x K).1 h
    exact ⟨y, u, ⟨x, h1⟩, h2⟩
  · rintro ⟨y, u, ⟨x, h1⟩, h2⟩
    exact ⟨x, (hG x K).2 ⟨y, u, h1, h2⟩⟩
theorem Lin.via {α : Type} {f : (α → Prop) → Prop} (hf : Lin1 f) {G : α → Eff → Prop} (hG : ∀ x, Lin (G x)) : Lin fun K => f fun x => G x K := fun K => by
  constructor
  · intro h
    obtain ⟨x, h1, h2⟩ := (hf _).1 h
    obtain ⟨y, u, h3, h4⟩ := (hG x K).1 h2
    exact ⟨y, u, (hf _).2 ⟨x, h1, h3⟩, h4⟩
  · rintro ⟨y, u, h1, h2⟩
    obtain ⟨x, h3, h4⟩ := (hf _).1 h1
    exact (hf _).2 ⟨x, h3, (hG x K).2 ⟨y, u, h4, h2⟩⟩
theorem Lin1.atom {α : Type} (x : α) : Lin1 fun k => k x := fun k => ⟨fun h => ⟨x, rfl, h⟩, fun ⟨_, e, h⟩ => by subst e; exact h⟩
theorem Lin1.fls {α : Type} : Lin1 fun (_ : α → Prop) => False := fun _ => ⟨fun h => h.elim, fun ⟨_, h, _⟩ => h.elim⟩
theorem Lin1.and {α : Type} {p : Prop} {f : (α → Prop) → Prop} (hf : Lin1 f) : Lin1 fun k => p ∧ f k := fun k => by
  constructor
  · rintro ⟨hp, h⟩
    obtain ⟨x, h1, h2⟩ := (hf k).1 h
    exact ⟨x, ⟨hp, h1⟩, h2⟩
  · rintro ⟨x, ⟨hp, h1⟩, h2⟩
    exact ⟨hp, (hf k).2 ⟨x, h1, h2⟩⟩
theorem Lin1.via {α β : Type} {f : (α → Prop) → Prop} (hf : Lin1 f) {g : α → (β → Prop) → Prop} (hg : ∀ x, Lin1 (g x)) : Lin1 fun k => f fun x => g x k := fun k => by
  constructor
  · intro h
    obtain ⟨x, h1, h2⟩ := (hf _).1 h
    obtain ⟨y, h3, h4⟩ := (hg x k).1 h2
    exact ⟨y, (hf _).2 ⟨x, h1, h3⟩, h4⟩
  · rintro ⟨y, h1, h2⟩
    obtain ⟨x, h3, h4⟩ := (hf _).1 h1
    exact (hf _).2 ⟨x, h3, (hg x k).2 ⟨y, h4, h2⟩⟩
section
variable (t : List AV) (h : List Chunk)
theorem lin1_toDK (x : AV) : Lin1 (toDK h x) := by
  unfold toDK
  cases x
  case d y => exact Lin1.atom y
  case ptr b sz e off => dsimp only; cases getC h b <;> first | exact Lin1.fls | exact Lin1.and (Lin1.atom _)
  case row b sz =>
    dsimp only
    cases getC h b
    case nest isz rs hole => cases hole <;> first | exact Lin1.fls | exact Lin1.and (Lin1.atom _)
    all_goals first | exact Lin1.fls | exact Lin1.and (Lin1.atom _)
  case sub b sz off m => dsimp only; cases getC h b <;> first | exact Lin1.fls | exact Lin1.and (Lin1.atom _)
  all_goals exact Lin1.fls
theorem lin1_toDsK : ∀ xs : List AV, Lin1 (toDsK h xs)
  | [] => Lin1.atom []
  | x :: xs => Lin1.via (lin1_toDK h x) fun y => Lin1.via (lin1_toDsK xs) fun ys => Lin1.atom (y :: ys)
theorem lin1_toAK (x : AV) : Lin1 (toAK h x) := by
  unfold toAK
  cases x
  case fn f a c => exact Lin1.via (lin1_toDsK h a) fun a' => Lin1.via (lin1_toDsK h c) fun c' => Lin1.atom (D.fn f a' c')
  all_goals exact lin1_toDK h _
theorem lin1_toAsK : ∀ xs : List AV, Lin1 (toAsK h xs)
  | [] => Lin1.atom []
  | x :: xs => Lin1.via (lin1_toAK h x) fun y => Lin1.via (lin1_toAsK xs) fun ys => Lin1.atom (y :: ys)
theorem lin1_partK : ∀ (ps : List (Nat × Nat × Opd)) (cs : List D), Lin1 (partK t ps cs)
  | [], cs => Lin1.atom cs
  | (off, n, x) :: r, cs => by
    show Lin1 fun k => partK t ((off, n, x) :: r) cs k
    simp only [partK]
    generalize x.ev t = v
    cases v
    case d y => cases y <;> dsimp only <;> exact Lin1.and (lin1_partK r _)
    all_goals exact Lin1.fls
theorem lin1_elemsK (sz : Nat) : ∀ (ps : List Opd), Lin1 (elemsK t sz ps)
  | [] => Lin1.atom []
  | x :: r => by
    show Lin1 fun k => elemsK t sz (x :: r) k
    simp only [elemsK]
    generalize x.ev t = v
    cases v
    case d y => cases y <;> dsimp only <;> exact Lin1.and (Lin1.via (lin1_elemsK sz r) fun l => Lin1.atom _)
    all_goals exact Lin1.fls
theorem lin1_optI (o : Option Opd) (df : Int) : Lin1 (optI t o df) := by
  unfold optI
  cases o with
  | none => exact Lin1.atom df
  | some x =>
    dsimp only
    generalize x.ev t = v
    cases v
    case d y => cases y <;> dsimp only <;> first | exact Lin1.atom _ | exact Lin1.fls
    all_goals exact Lin1.fls
theorem lin1_srcK (esz : Nat) (y : AV) : Lin1 (srcK h esz y) := by
  unfold srcK
  cases y
  case d y => cases y <;> dsimp only <;> first | exact Lin1.and (Lin1.atom _) | exact Lin1.atom _ | exact Lin1.fls
  case row b sz =>
    dsimp only
    cases getC h b
    case nest isz rs hole => cases hole <;> first | exact Lin1.fls | exact Lin1.and (Lin1.atom _)
    all_goals first | exact Lin1.fls | exact Lin1.and (Lin1.atom _)
  case sub b sz off m => dsimp only; cases getC h b <;> first | exact Lin1.fls | exact Lin1.and (Lin1.atom _)
  all_goals exact Lin1.fls
theorem lin1_wrap (k : IntKind) (n : Int) : Lin1 (wrapK k n) := by rw [wrapK_eq]; exact Lin1.atom _
theorem lin1_ar (o : Ar) (k : IntKind) (x y : Int) : Lin1 (o.int k x y) := by
  rw [Ar.int_eq]
  unfold Ar.intD
  cases o <;> dsimp only <;> first | exact Lin1.atom _ | exact Lin1.and (Lin1.atom _)
theorem lin_rd (p : AV) {A : List (List D) → Nat → Nat → Eff → Prop} {B : List AV → Nat → Eff → Prop} (hA : ∀ l e off, Lin (A l e off)) (hB : ∀ cs o, Lin (B cs o)) :
    Lin fun K => rd h p (fun l e off => A l e off K) (fun cs o => B cs o K) := by
  unfold rd
  cases p
  case d y => cases y <;> dsimp only <;> first | exact Lin.fls | exact hA _ _ _
  case ptr b sz e off => dsimp only; cases getC h b <;> first | exact Lin.fls | exact Lin.and (hA _ _ _) | exact Lin.and (hB _ _)
  all_goals exact Lin.fls
theorem lin_callK (Can : FuncId → List D → Res → Prop) (nm : Nat) (f : FuncId) (args : List AV) : Lin (callK Can h nm f args) := by
  unfold callK
  refine Lin.via (lin1_toAsK h args) fun as => Lin.ex fun r => Lin.and ?_
  cases r <;> first | exact Lin.fls | exact Lin.and (Lin.atom _ _)
theorem lin_callMK (Can : FuncId → List D → Res → Prop) (nm b sz : Nat) (l : List (List D)) (f : FuncId) (args : List AV) : Lin (callMK Can h nm b sz l f args) := by
  unfold callMK
  refine Lin.and (Lin.via (lin1_toAsK h args) fun as => Lin.ex fun p => Lin.ex fun r => Lin.and ?_)
  cases r <;> first | exact Lin.fls | exact Lin.atom _ _
theorem lin_callBK (Can : FuncId → List D → Res → Prop) (nm b sz : Nat) (l : List (List D)) (f : FuncId) (args : List AV) : Lin (callBK Can h nm b sz l f args) := by
  unfold callBK
  refine Lin.and (Lin.via (lin1_toAsK h args) fun as => Lin.ex fun p => Lin.ex fun r => Lin.and ?_)
  cases r <;> first | exact Lin.fls | exact Lin.atom _ _
theorem lin_callNK (Can : FuncId → List D → Res → Prop) (b isz : Nat) (rs : List (List (List D))) (f : FuncId) (args : List AV) : Lin (callNK Can h b isz rs f args) := by
  unfold callNK
  exact Lin.and (Lin.via (lin1_toAsK h args) fun as => Lin.ex fun x => Lin.and (Lin.atom _ _))
theorem eff_lin (Can : FuncId → List D → Res → Prop) (o : XOp) (nm : Nat) : Lin (o.eff Can nm t h) := by
  show Lin fun K => o.eff Can nm t h K
  cases o <;> dsimp only [XOp.eff]
  case mov x => simp only [force_eq]; exact Lin.atom _ _
  case pick c a b =>
    simp only [force_eq]
    generalize c.ev t = v
    cases v
    case d y =>
      cases y
      case bool q => cases q <;> exact Lin.atom _ _
      all_goals exact Lin.fls
    all_goals exact Lin.fls
  case alloc z => exact Lin.atom _ _
  case box x =>
    generalize x.ev t = v
    cases v
    case d y => cases y <;> dsimp only <;> first | exact Lin.atom _ _ | exact Lin.and (Lin.atom _ _)
    all_goals first | exact Lin.atom _ _ | exact Lin.fls
  case build z ps => exact Lin.via (lin1_partK t ps z) fun cs => Lin.atom _ _
  case bslice sz ps =>
    cases single t ps with
    | none => exact Lin.via (lin1_elemsK t sz ps) fun cs => Lin.atom _ _
    | some p => obtain ⟨isz, v⟩ := p; exact Lin.and (Lin.atom _ _)
  case bsliceD sz ps => exact Lin.via (lin1_elemsK t sz ps) fun cs => Lin.atom _ _
  case loadS p =>
    have hrd : ∀ q, Lin fun K => rd h q (fun l e off => ∃ x, get2 l e off = some x ∧ K (.d x) []) (fun cs o => ∃ x, cs[o]? = some x ∧ K x []) := fun q =>
      lin_rd h _ (fun l e off => Lin.ex fun x => Lin.and (Lin.atom _ _)) (fun cs o => Lin.ex fun x => Lin.and (Lin.atom _ _))
    unfold loadSK
    cases p.ev t
    case ptr b sz e off =>
      dsimp only
      cases getC h b
      case nest isz rs hole =>
        cases hole with
        | none => exact Lin.and (Lin.ex fun r => Lin.and (Lin.atom _ _))
        | some q => exact hrd _
      all_goals exact hrd _
    all_goals exact hrd _
  case load g p =>
    cases g
    · exact lin_rd h _ (fun l e off => Lin.ex fun x => Lin.and (Lin.atom _ _)) (fun cs o => Lin.ex fun x => Lin.and (Lin.atom _ _))
    · exact lin_rd h _ (fun l e off => Lin.ex fun x => Lin.and (Lin.atom _ _)) (fun cs o => Lin.and (Lin.atom _ _))
  case store g p x =>
    generalize p.ev t = v
    generalize x.ev t = w
    cases v
    case ptr b sz e off =>
      dsimp only
      cases getC h b
      case none => exact Lin.fls
      case data sz' l =>
        refine Lin.and ?_
        cases g
        · cases w
          all_goals first | exact Lin.and (Lin.ex fun _ => Lin.and (Lin.and (Lin.atom _ _))) | exact Lin.and (Lin.and (Lin.ex fun _ => Lin.and (Lin.and (Lin.atom _ _))))
        · cases w
          case d y => cases y <;> dsimp only <;> first | exact Lin.fls | exact Lin.and (Lin.ex fun _ => Lin.and (Lin.and (Lin.atom _ _)))
          all_goals exact Lin.fls
      case mix cs =>
        refine Lin.and ?_
        cases g
        · exact Lin.and (Lin.and (Lin.atom _ _))
        · cases w
          case d y => cases y <;> dsimp only <;> first | exact Lin.fls | exact Lin.and (Lin.atom _ _)
          all_goals first | exact Lin.fls | exact Lin.and (Lin.atom _ _)
      case nest isz rs hole =>
        cases g with
        | none => exact Lin.and (Lin.atom _ _)
        | some n => exact Lin.fls
    all_goals exact Lin.fls
  case nilchk x =>
    generalize x.ev t = v
    cases v
    case d y => cases y <;> dsimp only <;> first | exact Lin.fls | exact Lin.atom _ _
    all_goals first | exact Lin.fls | exact Lin.atom _ _
  case arith o x y =>
    generalize x.ev t = v
    generalize y.ev t = w
    cases v
    case d v =>
      cases w
      case d w =>
        cases v
        case int k a =>
          cases w
          case int k' b => cases o <;> dsimp only <;> first | exact Lin.via (lin1_ar _ _ _ _) (fun r => Lin.atom _ _) | exact Lin.and (Lin.via (lin1_ar _ _ _ _) fun r => Lin.atom _ _)
          all_goals exact Lin.fls
        case str a =>
          cases w
          case str b => cases o <;> dsimp only <;> first | exact Lin.fls | exact Lin.and (Lin.atom _ _)
          all_goals exact Lin.fls
        all_goals exact Lin.fls
      all_goals (cases v <;> exact Lin.fls)
    all_goals exact Lin.fls
  case cmp o x y =>
    generalize x.ev t = v
    generalize y.ev t = w
    cases v
    case d v =>
      cases w
      case d w =>
        cases v
        case int k a =>
          cases w
          case int k' b => exact Lin.and (Lin.atom _ _)
          all_goals exact Lin.fls
        case str a =>
          cases w
          case str b => cases o <;> dsimp only <;> first | exact Lin.fls | exact Lin.atom _ _
          all_goals exact Lin.fls
        all_goals exact Lin.fls
      all_goals (cases v <;> exact Lin.fls)
    all_goals exact Lin.fls
  case cmpB ng x y =>
    generalize x.ev t = v
    generalize y.ev t = w
    cases v
    case d v =>
      cases w
      case d w =>
        cases v
        case bool a =>
          cases w
          case bool b => exact Lin.atom _ _
          all_goals exact Lin.fls
        all_goals exact Lin.fls
      all_goals (cases v <;> exact Lin.fls)
    all_goals exact Lin.fls
  case eqa ng ks x y =>
    generalize x.ev t = v
    generalize y.ev t = w
    cases v
    case d v =>
      cases w
      case d w =>
        cases v
        case agg a =>
          cases w
          case agg b => exact Lin.and (Lin.ex fun r => Lin.and (Lin.atom _ _))
          all_goals exact Lin.fls
        all_goals exact Lin.fls
      all_goals (cases v <;> exact Lin.fls)
    all_goals exact Lin.fls
  case not x =>
    generalize x.ev t = v
    cases v
    case d y => cases y <;> dsimp only <;> first | exact Lin.fls | exact Lin.atom _ _
    all_goals exact Lin.fls
  case neg x =>
    generalize x.ev t = v
    cases v
    case d y => cases y <;> dsimp only <;> first | exact Lin.fls | exact Lin.via (lin1_wrap _ _) fun _ => Lin.atom _ _
    all_goals exact Lin.fls
  case conv k x =>
    generalize x.ev t = v
    cases v
    case d y => cases y <;> dsimp only <;> first | exact Lin.fls | exact Lin.via (lin1_wrap _ _) fun _ => Lin.atom _ _
    all_goals exact Lin.fls
  case faddr off x =>
    generalize x.ev t = v
    cases v
    case d y => cases y <;> dsimp only <;> first | exact Lin.fls | exact Lin.atom _ _
    all_goals first | exact Lin.fls | exact Lin.atom _ _
  case field off g x =>
    generalize x.ev t = v
    cases v
    case d y =>
      cases y
      case agg cs => cases g <;> exact Lin.ex fun _ => Lin.and (Lin.atom _ _)
      all_goals exact Lin.fls
    case mix cs => cases g <;> first | exact Lin.ex (fun _ => Lin.and (Lin.atom _ _)) | exact Lin.and (Lin.atom _ _)
    all_goals exact Lin.fls
  case iaddrA q esz x i =>
    generalize x.ev t = v
    generalize i.ev t = w
    cases w
    case d w =>
      cases w
      case int k n =>
        cases v
        case d y => cases y <;> dsimp only <;> first | exact Lin.fls | exact Lin.and (Lin.atom _ _)
        all_goals first | exact Lin.fls | exact Lin.and (Lin.atom _ _)
      all_goals exact Lin.fls
    all_goals exact Lin.fls
  case iaddrS esz x i =>
    generalize x.ev t = v
    generalize i.ev t = w
    cases w
    case d w =>
      cases w
      case int k n =>
        cases v
        case d y => cases y <;> dsimp only <;> first | exact Lin.fls | exact Lin.and (Lin.atom _ _)
        case row b sz => dsimp only; cases getC h b <;> first | exact Lin.fls | exact Lin.and (Lin.atom _ _)
        all_goals first | exact Lin.fls | exact Lin.and (Lin.atom _ _)
      all_goals exact Lin.fls
    all_goals exact Lin.fls
  case idx q esz g x i =>
    generalize x.ev t = v
    generalize i.ev t = w
    cases w
    case d w =>
      cases w
      case int k n =>
        cases v
        case d y =>
          cases y
          case agg cs => refine Lin.and ?_; cases g <;> exact Lin.ex fun _ => Lin.and (Lin.atom _ _)
          all_goals exact Lin.fls
        all_goals exact Lin.fls
      all_goals (cases v <;> exact Lin.fls)
    all_goals exact Lin.fls
  case idxS x i =>
    generalize x.ev t = v
    generalize i.ev t = w
    cases w
    case d w =>
      cases w
      case int k n =>
        cases v
        case d y =>
          cases y
          case str s => exact Lin.and (Lin.ex fun _ => Lin.and (Lin.atom _ _))
          all_goals exact Lin.fls
        all_goals exact Lin.fls
      all_goals (cases v <;> exact Lin.fls)
    all_goals exact Lin.fls
  case slc esz x lo hi =>
    generalize x.ev t = v
    cases v
    case d y =>
      cases y
      case lst sz l => exact Lin.via (lin1_optI t hi _) fun b => Lin.via (lin1_optI t lo _) fun a => Lin.and (Lin.atom _ _)
      case emp => exact Lin.via (lin1_optI t hi _) fun b => Lin.via (lin1_optI t lo _) fun a => Lin.and (Lin.atom _ _)
      all_goals exact Lin.fls
    case row b sz =>
      dsimp only
      cases getC h b
      case data sz' l => exact Lin.via (lin1_optI t hi _) fun b => Lin.via (lin1_optI t lo _) fun a => Lin.and (lin_subK _ _ _ _ _)
      all_goals exact Lin.fls
    case sub b sz off m =>
      dsimp only
      cases getC h b
      case data sz' l => exact Lin.via (lin1_optI t hi _) fun b => Lin.via (lin1_optI t lo _) fun a => Lin.and (lin_subK _ _ _ _ _)
      all_goals exact Lin.fls
    all_goals exact Lin.fls
  case slc3 esz x lo hi mx =>
    generalize x.ev t = v
    cases v
    case row b sz =>
      dsimp only
      cases getC h b
      case data sz' l => exact Lin.via (lin1_optI t (some mx) _) fun c => Lin.via (lin1_optI t (some hi) _) fun b => Lin.via (lin1_optI t (some lo) _) fun a => Lin.and (Lin.atom _ _)
      all_goals exact Lin.fls
    all_goals exact Lin.fls
  case isNil ng x =>
    generalize x.ev t = v
    cases v
    case d y => cases y <;> dsimp only <;> first | exact Lin.fls | exact Lin.and (Lin.atom _ _)
    case row b sz => dsimp only; cases getC h b <;> first | exact Lin.fls | exact Lin.and (Lin.atom _ _)
    all_goals exact Lin.fls
  case clr z x =>
    generalize x.ev t = v
    cases v
    case d y => cases y <;> dsimp only <;> first | exact Lin.fls | exact Lin.and (Lin.atom _ _)
    case sub b sz off m => dsimp only; cases getC h b <;> first | exact Lin.fls | exact Lin.and (Lin.atom _ _)
    all_goals exact Lin.fls
  case slcS x lo hi =>
    generalize x.ev t = v
    cases v
    case d y =>
      cases y
      case str s => exact Lin.via (lin1_optI t hi _) fun b => Lin.via (lin1_optI t lo _) fun a => Lin.and (Lin.atom _ _)
      all_goals exact Lin.fls
    all_goals exact Lin.fls
  case slcA q esz x lo hi =>
    generalize x.ev t = v
    cases v
    case d y =>
      cases y
      case pd sz l e off => exact Lin.via (lin1_optI t hi _) fun b => Lin.via (lin1_optI t lo _) fun a => Lin.and (Lin.ex fun ls => Lin.and (Lin.and (Lin.atom _ _)))
      all_goals exact Lin.fls
    all_goals exact Lin.fls
  case mkrow esz bytes z n =>
    generalize n.ev t = v
    cases v
    case d y => cases y <;> dsimp only <;> first | exact Lin.fls | exact Lin.and (Lin.atom _ _)
    all_goals exact Lin.fls
  case app esz bytes x y =>
    cases nestOf h (y.ev t) with
    | none =>
      unfold appD
      generalize x.ev t = v
      cases v
      case d z =>
        cases z
        case emp => exact Lin.via (lin1_srcK h _ _) fun l => Lin.and (Lin.atom _ _)
        all_goals exact Lin.fls
      case row b sz =>
        dsimp only
        cases getC h b
        case data sz' l => exact Lin.and (Lin.via (lin1_srcK h _ _) fun l => Lin.and (Lin.atom _ _))
        all_goals exact Lin.fls
      case sub b sz off m =>
        dsimp only
        cases getC h b
        case data sz' l => exact Lin.and (Lin.via (lin1_srcK h _ _) fun l => Lin.and (Lin.atom _ _))
        all_goals exact Lin.fls
      all_goals exact Lin.fls
    | some p =>
      obtain ⟨isz, r, v⟩ := p
      unfold appN
      refine Lin.and ?_
      cases x.ev t
      case d z =>
        cases z
        case emp => exact Lin.atom _ _
        all_goals exact Lin.fls
      case row b sz =>
        dsimp only
        cases getC h b
        case data sz' l => cases l <;> first | exact Lin.fls | exact Lin.and (Lin.atom _ _)
        case nest isz' rs hole => cases hole <;> first | exact Lin.fls | exact Lin.and (Lin.atom _ _)
        all_goals exact Lin.fls
      all_goals exact Lin.fls
  case len x =>
    generalize x.ev t = v
    cases v
    case d y => cases y <;> dsimp only <;> first | exact Lin.fls | exact Lin.atom _ _
    case row b sz => dsimp only; cases getC h b <;> first | exact Lin.fls | exact Lin.atom _ _
    all_goals first | exact Lin.fls | exact Lin.atom _ _
  case lenS x =>
    generalize x.ev t = v
    cases v
    case d y => cases y <;> dsimp only <;> first | exact Lin.fls | exact Lin.atom _ _
    all_goals exact Lin.fls
  case lenA n => exact Lin.atom _ _
  case mm mx x z =>
    generalize x.ev t = v
    generalize z.ev t = v'
    cases v
    case d y =>
      cases y
      case int k a =>
        cases v'
        case d y' => cases y' <;> dsimp only <;> first | exact Lin.fls | exact Lin.atom _ _
        all_goals exact Lin.fls
      all_goals exact Lin.fls
    all_goals exact Lin.fls
  case b2s x =>
    generalize x.ev t = v
    cases v
    case d y => cases y <;> dsimp only <;> first | exact Lin.fls | exact Lin.atom _ _ | exact Lin.and (Lin.atom _ _)
    case row b sz => dsimp only; cases getC h b <;> first | exact Lin.fls | exact Lin.and (Lin.atom _ _)
    all_goals exact Lin.fls
  case call f args => exact lin_callK h Can nm f _
  case callM f x args =>
    generalize x.ev t = v
    cases v
    case row b sz =>
      dsimp only
      cases getC h b
      case data sz' l => exact Lin.and (lin_callMK h Can nm b sz l f _)
      case nest isz rs hole => exact Lin.and (lin_callNK h Can b isz rs f _)
      all_goals exact Lin.fls
    case ptr b sz e off =>
      dsimp only
      cases getC h b
      case data sz' l => exact Lin.and (lin_callBK h Can nm b sz l f _)
      all_goals exact Lin.fls
    all_goals exact Lin.fls
  case callV x args =>
    generalize x.ev t = v
    cases v
    case d y => cases y <;> dsimp only <;> first | exact Lin.fls | exact lin_callK h Can nm _ _
    all_goals first | exact Lin.fls | exact lin_callK h Can nm _ _
  case mkfn f a c =>
    split
    · exact Lin.via (lin1_toDsK h _) fun a' => Lin.via (lin1_toDsK h _) fun c' => Lin.atom _ _
    · exact Lin.atom _ _
  case extract x i =>
    generalize x.ev t = v
    cases v
    case tup vs => exact Lin.ex fun _ => Lin.and (Lin.atom _ _)
    case d y => cases y <;> exact Lin.fls
    all_goals exact Lin.fls
end
end Go.X
