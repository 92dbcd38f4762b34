import Derived.Test.YtphelkciklpakaaX1
import Derived.Deep.AppendSrc
import Derived.Laws.MakeOwn
import Derived.Laws.BytesString
set_option linter.all false
namespace Go.X
open Go Go.RowKit
section
variable {P : Program} {w0 : World} {wr : Wr} {F0 F : Nat → Prop} {E : Env} {t : List AV} {h hm : List Chunk} {a : Act} {w w' : World} {o : Oper} {nm : Nat}
theorem setCells_spec (k : Nat) : ∀ (vs : List Value) (q : Nat) (w : World) (c : Array Value) (T : TypeId), w.heap[k]? = some (.cells c T (0, 0)) →
    ∃ c', (w.setCells k q vs).heap[k]? = some (.cells c' T (0, 0)) ∧ c'.size = c.size ∧ (∀ j : Nat, c'[j]? = if q ≤ j ∧ j < q + vs.length ∧ j < c.size then vs[j - q]? else c[j]?) ∧
      (∀ j : Nat, j ≠ k → (w.setCells k q vs).heap[j]? = w.heap[j]?) ∧ (w.setCells k q vs).heap.size = w.heap.size ∧ (w.setCells k q vs).os = w.os ∧ (w.setCells k q vs).tape = w.tape ∧ (w.setCells k q vs).output = w.output
  | [], q, w, c, T, hk => ⟨c, hk, rfl, fun j => by rw [if_neg (by simp; omega)], fun _ _ => rfl, rfl, rfl, rfl, rfl⟩
  | v :: r, q, w, c, T, hk => by
    have hk' : (w.setCell ⟨k, q, none⟩ v).heap[k]? = some (.cells (c.setIfInBounds q v) T (0, 0)) := by
      simp [World.setCell, Array.getElem?_modify, hk]
    obtain ⟨c', h1, h2, h3, h4, h5, h6, h7, h8⟩ := setCells_spec k r (q + 1) (w.setCell ⟨k, q, none⟩ v) _ T hk'
    refine ⟨c', h1, by rw [h2]; simp, fun j => ?_, fun j hj => ?_, by rw [World.setCells, h5]; simp [World.setCell], by rw [World.setCells, h6]; rfl, by rw [World.setCells, h7]; rfl, by rw [World.setCells, h8]; rfl⟩
    · rw [h3 j]
      simp only [Array.size_setIfInBounds, Array.getElem?_setIfInBounds, List.length_cons]
      by_cases c1 : q + 1 ≤ j ∧ j < q + 1 + r.length ∧ j < c.size
      · rw [if_pos c1, if_pos (by omega), show j - q = (j - (q + 1)) + 1 from by omega, List.getElem?_cons_succ]
      · rw [if_neg c1]
        by_cases c2 : q = j
        · subst c2
          by_cases c3 : q < c.size
          · rw [if_pos rfl, if_pos c3, if_pos (by omega)]; simp
          · rw [if_pos rfl, if_neg c3, if_neg (by omega)]; rw [Array.getElem?_eq_none (by omega)]
        · rw [if_neg c2, if_neg (by omega)]
    · rw [World.setCells, h4 j hj]
      exact Below.heap_setCell _ _ _ _ hj
theorem sizes_of {k : Nat} {c c' : Array Value} {T : TypeId} (hk : w.heap[k]? = some (.cells c T (0, 0))) (hk' : w'.heap[k]? = some (.cells c' T (0, 0))) (hsz : c'.size = c.size)
    (ho : ∀ j, j ≠ k → w'.heap[j]? = w.heap[j]?) : Sizes w w' := by
  intro j cj Tj fj hj
  by_cases e : j = k
  · subst e
    rw [hk] at hj
    simp only [Option.some.injEq, Obj.cells.injEq] at hj
    obtain ⟨rfl, rfl, rfl⟩ := hj
    exact ⟨c', _, _, hk', hsz⟩
  · exact ⟨cj, Tj, fj, by rw [ho j e]; exact hj, rfl⟩
theorem sim_writeN (hs : SimAt w0 wr F0 F E ⟨t, h⟩ a w) {b : Nat} {c0 : Chunk} {k q0 : Nat} (hb : h[b]? = some c0) (hl : c0.live) (hloc : E.loc b = some (k, q0)) (hnF : ¬ F k)
    {c c' : Array Value} {T : TypeId} (hk : w.heap[k]? = some (.cells c T (0, 0))) (hk' : w'.heap[k]? = some (.cells c' T (0, 0))) (hsz : c'.size = c.size)
    (ho : ∀ j, j ≠ k → w'.heap[j]? = w.heap[j]?) (hsize : w'.heap.size = w.heap.size) (h1 : w'.os = w.os) (h2 : w'.tape = w.tape) (h3 : w'.output = w.output)
    {ck : Chunk} (hck : SameOn F w w' → Sizes w w' → ChunkAt w' F E b ck) (hsub : ∀ i k', NestAt E b ck i k' → InnAt h E b i k') : SimAt w0 wr F0 F E ⟨t, h.set b ck⟩ a w' := by
  have hz := sizes_of hk hk' hsz ho
  have hsame : SameOn F w w' := fun j hj => ho j fun e => hnF (e ▸ hj)
  have nolive : ∀ b' c2 q2, (h.set b .none)[b']? = some c2 → c2.live → E.loc b' ≠ some (k, q2) := by
    intro b' c2 q2 hc2 hl2 e
    rw [List.getElem?_set] at hc2
    by_cases eb : b = b'
    · subst eb; simp only [if_true] at hc2; split at hc2
      · simp only [Option.some.injEq] at hc2; subst hc2; exact hl2
      · simp at hc2
    · simp only [eb, if_false] at hc2
      exact eb (hs.excl b b' c0 c2 k q0 q2 hb hc2 hl hl2 hloc e)
  have noinn : ∀ b' i, ¬ InnAt h E b' i k := fun b' i hi => (hs.inn b' i k hi).2.1 b c0 q0 hb hl hloc
  have g1 := (hs.drop b).other (w' := w') (k := k) hz hnF (hs.own b c0 k q0 hb hl hloc) nolive (fun b' i hi => noinn b' i (innAt_drop hi)) h1 h2 h3 (by omega) (fun j _ hj => ho j hj)
  have g2 := g1.chunkN b (hck hsame hz) (fun k' q' e => by
    rw [hloc] at e; simp only [Option.some.injEq, Prod.mk.injEq] at e; obtain ⟨rfl, rfl⟩ := e
    exact ⟨hs.own b c0 k q0 hb hl hloc, fun b' c2 k2 q2 _ hc2 hl2 e2 ek => by subst ek; exact nolive b' c2 q2 hc2 hl2 e2, fun b' i _ hi => noinn b' i (innAt_drop hi)⟩) (fun i k' hi => by
    obtain ⟨e1, e2, e3⟩ := hs.inn b i k' (hsub i k' hi)
    refine ⟨e1, fun b' c2 q2 hne hc2 hl2 e => ?_, fun q2 e => e2 b c0 q2 hb hl e, fun b' i' hne hi' => hne (e3 b' i' (innAt_drop hi')).1, fun i' hi' => (e3 b i' (hsub i' k' hi')).2⟩
    exact e2 b' c2 q2 (getElem?_set_none_ne hc2 hne) hl2 e)
  rwa [List.set_set] at g2
theorem sim_write (hs : SimAt w0 wr F0 F E ⟨t, h⟩ a w) {b : Nat} {c0 : Chunk} {k q0 : Nat} (hb : h[b]? = some c0) (hl : c0.live) (hloc : E.loc b = some (k, q0)) (hnF : ¬ F k)
    {c c' : Array Value} {T : TypeId} (hk : w.heap[k]? = some (.cells c T (0, 0))) (hk' : w'.heap[k]? = some (.cells c' T (0, 0))) (hsz : c'.size = c.size)
    (ho : ∀ j, j ≠ k → w'.heap[j]? = w.heap[j]?) (hsize : w'.heap.size = w.heap.size) (h1 : w'.os = w.os) (h2 : w'.tape = w.tape) (h3 : w'.output = w.output)
    {ck : Chunk} (hnn : ∀ isz rs hole, ck ≠ .nest isz rs hole) (hck : SameOn F w w' → Sizes w w' → ChunkAt w' F E b ck) : SimAt w0 wr F0 F E ⟨t, h.set b ck⟩ a w' :=
  sim_writeN hs hb hl hloc hnF hk hk' hsz ho hsize h1 h2 h3 hck fun _ _ ⟨isz, rs, hole, _, e, _⟩ => absurd e (hnn isz rs hole)
theorem place_eq {sz i j e m : Nat} (hj : j < sz) (hm : m < sz) : i * sz + j = e * sz + m ↔ i = e ∧ j = m := by
  constructor
  · intro heq
    have hpos : 0 < sz := by omega
    have h1 : (i * sz + j) / sz = (e * sz + m) / sz := by rw [heq]
    rw [Nat.mul_comm i, Nat.mul_comm e, Nat.mul_add_div hpos, Nat.mul_add_div hpos, Nat.div_eq_of_lt hj, Nat.div_eq_of_lt hm] at h1
    have : i = e := by omega
    subst this
    exact ⟨rfl, by omega⟩
  · rintro ⟨rfl, rfl⟩; rfl
theorem chunk_written {b sz e off k q : Nat} {l : List (List D)} {r : List D} {vals : Nat → Nat → Value} {us : List Value} {ys : List D} {c c' : Array Value} {T : TypeId}
    (hloc : E.loc b = some (k, q)) (hln : E.ln b = l.length) (hnF : ¬ F k)
    (hk : w.heap[k]? = some (.cells c T (0, 0))) (hlaid : Laid w F k q sz l vals) (hr : l[e]? = some r) (hys : ys.length = us.length) (hfit : off + us.length ≤ sz)
    (hone : ∀ u ∈ us, u.oneCell' = true) (hsee : ∀ (i : Nat) (x : D) (u : Value), ys[i]? = some x → us[i]? = some u → Sees w F x u)
    (hk' : w'.heap[k]? = some (.cells c' T (0, 0))) (hc' : ∀ j : Nat, c'[j]? = if q + e * sz + off ≤ j ∧ j < q + e * sz + off + us.length ∧ j < c.size then us[j - (q + e * sz + off)]? else c[j]?)
    (hsame : SameOn F w w') : ChunkAt w' F E b (.data sz (l.set e (splice r off ys))) := by
  obtain ⟨c2, T2, fz, hc2, hcc⟩ := hlaid.c
  rw [hk] at hc2; simp only [Option.some.injEq, Obj.cells.injEq] at hc2
  obtain ⟨rfl, rfl, rfl⟩ := hc2
  have hrl := (hcc e r hr).1
  have hsl : (splice r off ys).length = sz := by rw [splice_len (by omega)]; exact hrl
  have helt := (List.getElem?_eq_some_iff.1 hr).1
  have key : ∀ i j, j < sz → (c[q + i * sz + j]?).isSome = true → c'[q + i * sz + j]? = if i = e ∧ off ≤ j ∧ j < off + us.length then us[j - off]? else c[q + i * sz + j]? := by
    intro i j hj hsome
    rw [hc']
    have hlt : q + i * sz + j < c.size := by
      rcases Nat.lt_or_ge (q + i * sz + j) c.size with h' | h'
      · exact h'
      · rw [Array.getElem?_eq_none h'] at hsome; simp at hsome
    by_cases hie : i = e
    · subst hie
      by_cases c1 : off ≤ j ∧ j < off + us.length
      · rw [if_pos (by omega), if_pos ⟨rfl, c1⟩]; congr 1; omega
      · rw [if_neg (by omega), if_neg (fun hh => c1 hh.2)]
    · rw [if_neg (c := i = e ∧ off ≤ j ∧ j < off + us.length) (fun hh => hie hh.1), if_neg]
      rintro ⟨c1, c2, _⟩
      have hm : (q + i * sz + j) - (q + e * sz) < sz := by omega
      have := (place_eq (sz := sz) (i := i) (e := e) hj hm).1 (by omega)
      exact hie this.1
  refine .data (fun i j => if i = e ∧ off ≤ j ∧ j < off + us.length then us.getD (j - off) undef else vals i j) hloc (by simp [hln]) hk' hnF (fun i l' hi => ?_) (fun i l' j x hi hj => ?_)
  · have hil : ∃ r', l[i]? = some r' ∧ l'.length = sz := by
      rw [List.getElem?_set] at hi
      by_cases eie : e = i
      · subst eie; simp only [if_true, helt] at hi; simp only [Option.some.injEq] at hi; subst hi; exact ⟨r, hr, hsl⟩
      · simp only [eie, if_false] at hi; exact ⟨l', hi, (hcc i l' hi).1⟩
    obtain ⟨r', hr', hl'⟩ := hil
    refine ⟨hl', fun j hj => ?_⟩
    have hold := (hcc i r' hr').2 j hj
    rw [key i j hj (by rw [hold.1]; rfl)]
    by_cases c1 : i = e ∧ off ≤ j ∧ j < off + us.length
    · rw [if_pos c1, if_pos c1]
      have hlt : j - off < us.length := by omega
      rw [List.getD_eq_getElem?_getD, List.getElem?_eq_getElem hlt]
      exact ⟨rfl, hone _ (List.getElem_mem hlt)⟩
    · rw [if_neg c1, if_neg c1]; exact hold
  · rw [List.getElem?_set] at hi
    by_cases eie : e = i
    · subst eie; simp only [if_true, helt] at hi; simp only [Option.some.injEq] at hi; subst hi
      rw [splice_get (by omega)] at hj
      by_cases c1 : off ≤ j ∧ j < off + ys.length
      · rw [if_pos c1] at hj
        rw [if_pos ⟨rfl, by omega⟩]
        have hlt : j - off < us.length := by omega
        rw [List.getD_eq_getElem?_getD, List.getElem?_eq_getElem hlt]
        exact (hsee _ x _ hj (List.getElem?_eq_getElem hlt)).mono (fun _ h => h) hsame
      · rw [if_neg c1] at hj
        rw [if_neg (by omega)]
        exact (hlaid.s e r j x hr hj).mono (fun _ h => h) hsame
    · simp only [eie, if_false] at hi
      rw [if_neg (fun hh => eie hh.1.symm)]
      exact (hlaid.s i l' j x hi hj).mono (fun _ h => h) hsame
theorem run_store_any {T : TypeId} {x z : Operand} (ho : o.op = .store T x z) {k q : Nat} {v : Value} {c : Array Value} {Tc : TypeId} (hx : a.eval x = .pointer (some ⟨k, q, none⟩)) (hz : a.eval z = v)
    (hsz : tSize P T = some v.cells.size) (hk : w.heap[k]? = some (.cells c Tc (0, 0))) (hfit : q + v.cells.size ≤ c.size) (hone : ∀ u ∈ v.cells.toList, u.oneCell' = true) :
    (execOp a.eval o).run P w = .ok .skip (w.setCells k q v.cells.toList) := by
  have hst := run_storeCells_cells (P := P) k q v.cells.toList 0 w (fun j hj => by
      simp only [Nat.add_zero]
      rw [cell_of_row w k _ c Tc _ hk, Array.getElem?_eq_getElem (by simp at hj; omega)]; rfl) (fun j hj => by simp [World.frozen?, hk]) hone
  simp only [Nat.add_zero] at hst
  simp only [execOp, ho, hx, hz, Instr.storeAt, Instr.sureAddr, Sem.run_bind, Sem.run_pure, Result.andThen_ok]
  rw [show (storeVar T ⟨k, q, none⟩ v).run P w = .ok () (w.setCells k q v.cells.toList) from by simp [storeVar, run_sizeOf hsz, hst]]
  rfl
theorem step_skip (y : AV) (u : List (Nat × Chunk)) (hrun : (execOp a.eval o).run P w = .ok .skip w') (hsim : Sim w0 wr F0 ⟨setO t o.dst y, updL u h⟩ (a.put o.dst undef) w') : Step P w0 wr F0 o a w t h y u := by
  unfold Step; rw [hrun]; exact hsim
theorem undef_sees : SeesA w F E (.d .undef) undef := .d .undef
theorem getElem?_map_d {r : List D} {j : Nat} {x : AV} (hx : (r.map AV.d)[j]? = some x) : ∃ y, r[j]? = some y ∧ x = .d y := by
  rw [List.getElem?_map, Option.map_eq_some_iff] at hx
  obtain ⟨y, h1, h2⟩ := hx
  exact ⟨y, h1, h2.symm⟩
theorem av_scalar {x : AV} {v : Value} (hx : SeesA w F E x v) (hsc : x.scalar = true) : v.oneCell' = true ∧ v.cells = #[v] :=
  seesA_scalar hx (by rintro cs rfl; simp [AV.scalar, D.scalar] at hsc) (by rintro rfl; simp [AV.scalar, D.scalar] at hsc) (by rintro cs rfl; simp [AV.scalar] at hsc) (by rintro cs rfl; simp [AV.scalar] at hsc) (by rintro rfl; simp [AV.scalar] at hsc)
theorem mix_written {b off k q : Nat} {cs zs : List AV} {vals : Nat → Value} {us : List Value} {c c' : Array Value} {T : TypeId}
    (hloc : E.loc b = some (k, q)) (hnF : ¬ F k) (hc : ∀ j, j < cs.length → c[q + j]? = some (vals j) ∧ (vals j).oneCell' = true) (hs : ∀ j x, cs[j]? = some x → SeesA w F E x (vals j))
    (hzs : zs.length = us.length) (hfit : off + us.length ≤ cs.length) (hone : ∀ u ∈ us, u.oneCell' = true) (hsee : ∀ (i : Nat) (x : AV) (u : Value), zs[i]? = some x → us[i]? = some u → SeesA w F E x u)
    (hk' : w'.heap[k]? = some (.cells c' T (0, 0))) (hc' : ∀ j : Nat, c'[j]? = if q + off ≤ j ∧ j < q + off + us.length ∧ j < c.size then us[j - (q + off)]? else c[j]?)
    (hsame : SameOn F w w') (hz : Sizes w w') : ChunkAt w' F E b (.mix (cs.take off ++ (zs ++ cs.drop (off + zs.length)))) := by
  have hget : ∀ j, (cs.take off ++ (zs ++ cs.drop (off + zs.length)))[j]? = if off ≤ j ∧ j < off + zs.length then zs[j - off]? else cs[j]? := by
    intro j
    rw [List.getElem?_append]
    simp only [List.length_take, Nat.min_eq_left (show off ≤ cs.length from by omega)]
    by_cases h1 : j < off
    · rw [if_pos h1, if_neg (by omega), List.getElem?_take, if_pos h1]
    · rw [if_neg h1, List.getElem?_append]
      by_cases h2 : j - off < zs.length
      · rw [if_pos h2, if_pos (by omega)]
      · rw [if_neg h2, if_neg (by omega), List.getElem?_drop]; congr 1; omega
  have hlen : (cs.take off ++ (zs ++ cs.drop (off + zs.length))).length = cs.length := by simp; omega
  refine .mix (fun j => if off ≤ j ∧ j < off + us.length then us.getD (j - off) undef else vals j) hloc hk' hnF (fun j hj => ?_) (fun j x hx => ?_)
  · rw [hlen] at hj
    have hold := hc j hj
    have hlt : q + j < c.size := (Array.getElem?_eq_some_iff.1 hold.1).1
    rw [hc']
    by_cases c1 : off ≤ j ∧ j < off + us.length
    · rw [if_pos (by omega), if_pos c1]
      have hlt' : j - off < us.length := by omega
      rw [List.getD_eq_getElem?_getD, show q + j - (q + off) = j - off from by omega, List.getElem?_eq_getElem hlt']
      exact ⟨rfl, hone _ (List.getElem_mem hlt')⟩
    · rw [if_neg (by omega), if_neg c1]; exact hold
  · rw [hget] at hx
    by_cases c1 : off ≤ j ∧ j < off + zs.length
    · rw [if_pos c1] at hx
      rw [if_pos (by omega)]
      have hlt' : j - off < us.length := by omega
      rw [List.getD_eq_getElem?_getD, List.getElem?_eq_getElem hlt']
      exact (hsee _ x _ hx (List.getElem?_eq_getElem hlt')).mono (fun _ h => h) hsame hz
    · rw [if_neg c1] at hx
      rw [if_neg (by omega)]
      exact (hs j x hx).mono (fun _ h => h) hsame hz
theorem set_eq_take {α : Type} (l : List α) (n : Nat) (x : α) (hlt : n < l.length) : l.set n x = l.take n ++ ([x] ++ l.drop (n + 1)) := by
  rw [List.set_eq_take_append_cons_drop, if_pos hlt]; rfl
theorem s_store (hs : SimAt w0 wr F0 F E ⟨t, h⟩ a w) (hsub : Sub hm h) {x z : Operand} {X Z : Opd} (hx : cOpd x = some X) (hz : cOpd z = some Z) {T : TypeId} {g : Option Nat} (hT : grp P T = some g) (ho : o.op = .store T x z)
    {y : AV} {u : List (Nat × Chunk)} (hy : Y P (.store g X Z) nm t hm y u) : Step P w0 wr F0 o a w t h y u := by
  simp only [Y, XOp.eff] at hy
  have hxs := ev_sound hs hx
  have hzs := ev_sound hs hz
  split at hy
  case h_2 => exact hy.elim
  rename_i b sz e off e1
  rw [e1] at hxs
  obtain ⟨k, q, hv, hloc⟩ := seesA_ptr hxs
  split at hy
  ·
    rename_i sz' l hc
    obtain ⟨rfl, hy⟩ := hy
    have hb := sub_get hsub hc trivial
    obtain ⟨vals, hl, hnF, hln, c, Tc, hk⟩ := laid_chunk (hs.heap _ _ hb) hloc
    obtain ⟨c2, T2, fz, hc2, hcc⟩ := hl.c
    rw [hk] at hc2; simp only [Option.some.injEq, Obj.cells.injEq] at hc2
    obtain ⟨rfl, rfl, rfl⟩ := hc2
    have fits : ∀ r n, l[e]? = some r → 0 < n → off + n ≤ r.length → q + e * sz' + off + n ≤ c.size := by
      intro r n hr hn hfit
      obtain ⟨g1, g2⟩ := hcc e r hr
      have := (Array.getElem?_eq_some_iff.1 (g2 (off + n - 1) (by omega)).1).1
      omega
    split at hy
    · rename_i n ys e2
      rw [e2] at hzs
      obtain ⟨hlen, r, hr, hfit, rfl, rfl⟩ := hy
      obtain ⟨vs, hzv, g1, g2, g3⟩ := seesA_agg hzs
      obtain ⟨c', k1, k2, k3, k4, k5, k6, k7, k8⟩ := setCells_spec k vs.toList (q + e * sz' + off) w c Tc hk
      have hrun := run_store_any (P := P) (w := w) ho hv hzv (by rw [(grp_some hT).2, Value.cells, g1, hlen]) hk (by show _ + vs.size ≤ _; rw [g1, hlen]; exact fits r n hr (grp_pos hT) hfit)
        (fun u hu => by obtain ⟨i, hi⟩ := List.mem_iff_getElem?.1 hu; exact g2 i u (by simpa [Value.cells] using hi))
      refine step_skip _ _ hrun ⟨F, E, SimAt.put ?_ o.dst undef_sees⟩
      refine sim_write hs hb trivial hloc hnF hk k1 k2 k4 k5 k6 k7 k8 (by simp) (fun hsame _ => ?_)
      refine chunk_written hloc hln hnF hk hl hr (by simp [g1]) (by have := (hcc e r hr).1; simp [g1]; omega) (fun u hu => by obtain ⟨i, hi⟩ := List.mem_iff_getElem?.1 hu; exact g2 i u (by simpa using hi))
        (fun i x u hx hu => g3 i x u hx (by simpa using hu)) k1 k3 hsame
    · rename_i d e2
      rw [e2] at hzs
      obtain ⟨hsc, r, hr, hfit, rfl, rfl⟩ := hy
      obtain ⟨o1, o2⟩ := av_scalar hzs (by simpa [AV.scalar] using hsc)
      obtain ⟨c', k1, k2, k3, k4, k5, k6, k7, k8⟩ := setCells_spec k [a.eval z] (q + e * sz' + off) w c Tc hk
      have hrun := run_store_any (P := P) (w := w) ho hv rfl (by rw [(grp_none hT).2, o2]; rfl) hk (by rw [o2]; exact fits r 1 hr (by omega) hfit) (fun u hu => by rw [o2] at hu; simp at hu; rw [hu]; exact o1)
      rw [o2] at hrun
      refine step_skip _ _ hrun ⟨F, E, SimAt.put ?_ o.dst undef_sees⟩
      refine sim_write hs hb trivial hloc hnF hk k1 k2 k4 k5 k6 k7 k8 (by simp) (fun hsame _ => ?_)
      rw [← splice_one hfit]
      refine chunk_written hloc hln hnF hk hl hr rfl (by have := (hcc e r hr).1; simp; omega) (fun u hu => by simp at hu; rw [hu]; exact o1)
        (fun i x u hx hu => ?_) k1 k3 hsame
      cases i with
      | zero => simp at hx hu; subst hx; subst hu; cases hzs with | d hd => exact hd
      | succ i => simp at hx
    · rename_i d hne e2
      obtain ⟨hsc, rfl, r, rfl, hfit, rfl, rfl⟩ := hy
      obtain ⟨o1, o2⟩ := av_scalar hzs hsc
      obtain ⟨c', k1, k2, k3, k4, k5, k6, k7, k8⟩ := setCells_spec k [a.eval z] (q + off) w c Tc hk
      simp only [Nat.zero_mul, Nat.add_zero] at hv
      have hrun := run_store_any (P := P) (w := w) ho hv rfl (by rw [(grp_none hT).2, o2]; rfl) hk (by rw [o2]; have := fits r 1 rfl (by omega) hfit; simpa using this) (fun u hu => by rw [o2] at hu; simp at hu; rw [hu]; exact o1)
      rw [o2] at hrun
      refine step_skip _ _ hrun ⟨F, E, SimAt.put ?_ o.dst undef_sees⟩
      refine sim_write hs hb trivial hloc hnF hk k1 k2 k4 k5 k6 k7 k8 (by simp) (fun hsame hzz => ?_)
      rw [set_eq_take _ _ _ (by simpa using hfit)]
      have hrl := (hcc 0 r rfl).1
      refine mix_written (zs := [Z.ev t]) (us := [a.eval z]) (vals := fun j => vals 0 j) hloc hnF (fun j hj => ?_) (fun j x hx => ?_) rfl (by simp at hfit ⊢; omega) (fun u hu => by simp at hu; rw [hu]; exact o1) (fun i x u hx hu => ?_) k1 k3 hsame hzz
      · have := (hcc 0 r rfl).2 j (by simp at hj; omega)
        simpa using this
      · obtain ⟨y, hy1, rfl⟩ := getElem?_map_d hx
        exact .d (hl.s 0 r j y rfl hy1)
      · cases i with
        | zero => simp at hx hu; subst hx; subst hu; exact hzs
        | succ i => simp at hx
    · exact hy.elim
  ·
    rename_i cs hc
    obtain ⟨rfl, hy⟩ := hy
    have hb := sub_get hsub hc trivial
    obtain ⟨vals, hnF, h1, h2, c, Tc, hk, h3⟩ := chunk_mix (hs.heap _ _ hb) hloc
    simp only [Nat.zero_mul, Nat.add_zero] at hv
    have hcc : ∀ j, j < cs.length → c[q + j]? = some (vals j) ∧ (vals j).oneCell' = true := fun j hj => ⟨h3 j hj, (h1 j hj).2⟩
    split at hy
    · obtain ⟨hsc, hfit, rfl, rfl⟩ := hy
      obtain ⟨o1, o2⟩ := av_scalar hzs hsc
      obtain ⟨c', k1, k2, k3, k4, k5, k6, k7, k8⟩ := setCells_spec k [a.eval z] (q + off) w c Tc hk
      have hlt := (Array.getElem?_eq_some_iff.1 (h3 off hfit)).1
      have hrun := run_store_any (P := P) (w := w) ho hv rfl (by rw [(grp_none hT).2, o2]; rfl) hk (by rw [o2]; show _ + 1 ≤ _; omega) (fun u hu => by rw [o2] at hu; simp at hu; rw [hu]; exact o1)
      rw [o2] at hrun
      refine step_skip _ _ hrun ⟨F, E, SimAt.put ?_ o.dst undef_sees⟩
      refine sim_write hs hb trivial hloc hnF hk k1 k2 k4 k5 k6 k7 k8 (by simp) (fun hsame hzz => ?_)
      rw [set_eq_take _ _ _ hfit]
      exact mix_written (zs := [Z.ev t]) (us := [a.eval z]) hloc hnF hcc h2 rfl (by simp at hfit ⊢; omega) (fun u hu => by simp at hu; rw [hu]; exact o1) (fun i x u hx hu => by
        cases i with
        | zero => simp at hx hu; subst hx; subst hu; exact hzs
        | succ i => simp at hx) k1 k3 hsame hzz
    · rename_i n ys e2
      rw [e2] at hzs
      obtain ⟨⟨hlen, hfit⟩, rfl, rfl⟩ := hy
      obtain ⟨vs, hzv, g1, g2, g3⟩ := seesA_agg hzs
      obtain ⟨c', k1, k2, k3, k4, k5, k6, k7, k8⟩ := setCells_spec k vs.toList (q + off) w c Tc hk
      have hfit2 : q + off + n ≤ c.size := by
        have hpos := grp_pos hT
        have := (Array.getElem?_eq_some_iff.1 (h3 (off + n - 1) (by omega))).1; omega
      have hrun := run_store_any (P := P) (w := w) ho hv hzv (by rw [(grp_some hT).2, Value.cells, g1, hlen]) hk (by show _ + vs.size ≤ _; rw [g1, hlen]; exact hfit2)
        (fun u hu => by obtain ⟨i, hi⟩ := List.mem_iff_getElem?.1 hu; exact g2 i u (by simpa [Value.cells] using hi))
      refine step_skip _ _ hrun ⟨F, E, SimAt.put ?_ o.dst undef_sees⟩
      refine sim_write hs hb trivial hloc hnF hk k1 k2 k4 k5 k6 k7 k8 (by simp) (fun hsame hzz => ?_)
      rw [show off + n = off + (ys.map AV.d).length from by simp [hlen]]
      exact mix_written (zs := ys.map AV.d) (us := vs.toList) hloc hnF hcc h2 (by simp [g1]) (by simp [g1]; omega) (fun u hu => by obtain ⟨i, hi⟩ := List.mem_iff_getElem?.1 hu; exact g2 i u (by simpa using hi))
        (fun i x u hx hu => by obtain ⟨y, hy1, rfl⟩ := getElem?_map_d hx; exact .d (g3 i y u hy1 (by simpa using hu))) k1 k3 hsame hzz
    · rename_i n ys e2
      rw [e2] at hzs
      obtain ⟨⟨hlen, hfit⟩, rfl, rfl⟩ := hy
      obtain ⟨vs, hzv, g1, g2, g3⟩ := seesA_mix hzs
      obtain ⟨c', k1, k2, k3, k4, k5, k6, k7, k8⟩ := setCells_spec k vs.toList (q + off) w c Tc hk
      have hfit2 : q + off + n ≤ c.size := by
        have hpos := grp_pos hT
        have := (Array.getElem?_eq_some_iff.1 (h3 (off + n - 1) (by omega))).1; omega
      have hrun := run_store_any (P := P) (w := w) ho hv hzv (by rw [(grp_some hT).2, Value.cells, g1, hlen]) hk (by show _ + vs.size ≤ _; rw [g1, hlen]; exact hfit2)
        (fun u hu => by obtain ⟨i, hi⟩ := List.mem_iff_getElem?.1 hu; exact g2 i u (by simpa [Value.cells] using hi))
      refine step_skip _ _ hrun ⟨F, E, SimAt.put ?_ o.dst undef_sees⟩
      refine sim_write hs hb trivial hloc hnF hk k1 k2 k4 k5 k6 k7 k8 (by simp) (fun hsame hzz => ?_)
      rw [show off + n = off + ys.length from by rw [hlen]]
      exact mix_written (zs := ys) (us := vs.toList) hloc hnF hcc h2 (by simp [g1]) (by simp [g1]; omega) (fun u hu => by obtain ⟨i, hi⟩ := List.mem_iff_getElem?.1 hu; exact g2 i u (by simpa using hi))
        (fun i x u hx hu => g3 i x u hx (by simpa using hu)) k1 k3 hsame hzz
    · exact hy.elim
  ·
    rename_i isz rs hole hc
    cases g with
    | some n => exact hy.elim
    | none =>
      obtain ⟨⟨hsc, rfl, rfl, he, hh⟩, rfl, rfl⟩ := hy
      have hb := sub_get hsub hc trivial
      obtain ⟨o1, o2⟩ := av_scalar hzs hsc
      cases hs.heap b _ hb with
      | nestE => simp at he
      | nest vals g1 g2 g3 g4 g5 g6 g7 =>
        rename_i k0 q0 c Tc
        rw [hloc] at g1; simp only [Option.some.injEq, Prod.mk.injEq] at g1
        obtain ⟨rfl, rfl⟩ := g1
        obtain ⟨c', k1, k2, k3, k4, k5, k6, k7, k8⟩ := setCells_spec k [a.eval z] (q + e * 1 + 0) w c Tc g3
        have hlt := (Array.getElem?_eq_some_iff.1 (g5 e he).1).1
        have hrun := run_store_any (P := P) (w := w) ho hv rfl (by rw [(grp_none hT).2, o2]; rfl) g3 (by rw [o2]; show _ + 1 ≤ _; omega) (fun u hu => by rw [o2] at hu; simp at hu; rw [hu]; exact o1)
        rw [o2] at hrun
        refine step_skip _ _ hrun ⟨F, E, SimAt.put ?_ o.dst undef_sees⟩
        have holeNe : ∀ j, j ≠ e → ∀ x, hole ≠ some (j, x) := fun j hj x e' => hj (hh (j, x) e')
        refine sim_writeN hs hb trivial hloc g4 g3 k1 k2 k4 k5 k6 k7 k8 (fun hsame hzz => ?_) ?_
        · refine .nest (fun j => if j = e then a.eval z else vals j) hloc g2 k1 g4 (fun j hj => ?_) (fun j x hx => ?_) (fun j r hr hne => ?_)
          · have hold := g5 j hj
            have hlt' : q + j < c.size := (Array.getElem?_eq_some_iff.1 hold.1).1
            rw [k3]
            by_cases ej : j = e
            · subst ej; rw [if_pos (by simp; omega), if_pos rfl]
              rw [show q + j - (q + j * 1 + 0) = 0 from by omega]
              exact ⟨rfl, o1⟩
            · rw [if_neg (by simp; omega), if_neg ej]; exact hold
          · simp only [Option.some.injEq, Prod.mk.injEq] at hx
            obtain ⟨rfl, rfl⟩ := hx
            rw [if_pos rfl]
            exact hzs.mono (fun _ h => h) hsame hzz
          · have ej : j ≠ e := fun ej => by subst ej; exact hne _ rfl
            rw [if_neg ej]
            refine (g7 j r hr (holeNe j ej)).mono (fun _ h => h) hsame fun k' ek hnF _ => ⟨hnF, k4 k' ?_⟩
            rintro rfl
            exact (hs.inn b j k' ⟨_, _, _, r, hb, hr, holeNe j ej, ek⟩).2.1 b _ q hb trivial hloc
        · rintro i k' ⟨isz', rs', hole', r, e1, e2, e3, e4⟩
          simp only [Chunk.nest.injEq] at e1
          obtain ⟨rfl, rfl, rfl⟩ := e1
          have ei : i ≠ e := fun ei => by subst ei; exact e3 _ rfl
          exact ⟨_, _, _, r, hb, e2, holeNe i ei, e4⟩
  · exact hy.elim
theorem s_loadS (hs : SimAt w0 wr F0 F E ⟨t, h⟩ a w) (hsub : Sub hm h) (nr : NRs nm t h) {x : Operand} {X : Opd} (hx : cOpd x = some X) {T : TypeId} (hT : grp P T = some none) (ho : o.op = .load T x)
    {y : AV} {u : List (Nat × Chunk)} (hy : Y P (.loadS X) nm t hm y u) : Step P w0 wr F0 o a w t h y u := by
  have plain : ∀ p, X.ev t = p → rd hm p (fun l e off => ∃ x, get2 l e off = some x ∧ (AV.d x = y ∧ ([] : List (Nat × Chunk)) = u)) (fun cs o => ∃ x, cs[o]? = some x ∧ (x = y ∧ ([] : List (Nat × Chunk)) = u)) → Step P w0 wr F0 o a w t h y u := by
    intro p e hp
    refine s_load (nm := nm) hs hsub hx hT ho ?_
    simp only [Y, XOp.eff]
    rw [e]; exact hp
  simp only [Y, XOp.eff] at hy
  unfold loadSK at hy
  split at hy
  · rename_i b sz e off e1
    split at hy
    · rename_i isz rs hc
      obtain ⟨⟨rfl, rfl⟩, r, hr, rfl, rfl⟩ := hy
      have hb := sub_get hsub hc trivial
      have hxs := ev_sound hs hx
      have hbn : b ≠ nm := by
        have : NR nm (X.ev t) := by
          cases X with
          | t n =>
            simp only [Opd.ev, getL_eq] at e1 ⊢
            cases hn : t[n]? with
            | none => exact .dead
            | some z => exact nr.t z (List.mem_of_getElem? hn)
          | c y => exact .d y
          | f g => exact .d _
        rw [e1] at this
        cases this with | ptr hne => exact hne
      rw [e1] at hxs
      obtain ⟨k, q, hv, hloc⟩ := seesA_ptr hxs
      have he : e < rs.length := (List.getElem?_eq_some_iff.1 hr).1
      cases hs.heap b _ hb with
      | nestE => simp at he
      | nest vals g1 g2 g3 g4 g5 g6 g7 =>
        rename_i k0 q0 c Tc
        rw [hloc] at g1; simp only [Option.some.injEq, Prod.mk.injEq] at g1
        obtain ⟨rfl, rfl⟩ := g1
        have hcell : w.cell? ⟨k, q + e * 1 + 0, none⟩ = some (vals e) := by
          rw [cell_of_row w k _ c Tc _ g3, Nat.mul_one, Nat.add_zero]; exact (g5 e he).1
        have hrun := run_load_one (P := P) (grp_none hT).1 ho hv hcell
        unfold Step; rw [hrun]
        have hin := g7 e r hr (by simp)
        have gen : ∀ (pl : Option (Nat × Nat)), (pl = (E.il b e).map fun k => (k, 0)) → SeesA w F (E.upd nm pl r.length) (.row nm isz) (vals e) → ChunkAt w F (E.upd nm pl r.length) nm (.data isz r) →
            Sim w0 wr F0 ⟨setO t o.dst (.row nm isz), updL [(b, .nest isz rs (some (e, .row nm isz))), (nm, .data isz r)] h⟩ (a.put o.dst (vals e)) w := by
          intro pl hpl hsee hck
          have s1 := hs.re nr pl r.length
          have s2 := s1.drop b
          have hbck : ChunkAt w F (E.upd nm pl r.length) b (.nest isz rs (some (e, .row nm isz))) := by
            refine .nest vals (by rw [Env.upd_loc_ne _ _ _ hbn]; exact hloc) (by rw [Env.upd_ln_ne _ _ _ hbn]; exact g2) g3 g4 g5 (fun j x hx => ?_) (fun j r' hr' _ => g7 j r' hr' (by simp))
            simp only [Option.some.injEq, Prod.mk.injEq] at hx
            obtain ⟨rfl, rfl⟩ := hx
            exact hsee
          have old : ∀ {b' i k'}, InnAt ((h.set nm .none).set b .none) (E.upd nm pl r.length) b' i k' → InnAt h E b' i k' := fun hi => innAt_drop (h := h) (innAt_drop hi)
          have oldN : ∀ {i k'}, NestAt (E.upd nm pl r.length) b (.nest isz rs (some (e, .row nm isz))) i k' → i ≠ e ∧ InnAt h E b i k' := by
            rintro i k' ⟨isz', rs', hole', r', e1, e2, e3, e4⟩
            simp only [Chunk.nest.injEq] at e1
            obtain ⟨rfl, rfl, rfl⟩ := e1
            exact ⟨fun ei => by subst ei; exact e3 _ rfl, _, _, _, r', hb, e2, by simp, e4⟩
          have live2 : ∀ {b' : Nat} {c' : Chunk}, ((h.set nm .none).set b .none)[b']? = some c' → c'.live → b' ≠ b ∧ b' ≠ nm ∧ h[b']? = some c' := by
            intro b' c' hc' hl
            have n1 : b' ≠ b := by
              rintro rfl
              rw [List.getElem?_set] at hc'; simp only [if_true] at hc'; split at hc'
              · simp only [Option.some.injEq] at hc'; subst hc'; exact hl
              · simp at hc'
            have hc'' := getElem?_set_none_ne hc' n1
            have n2 : b' ≠ nm := by
              rintro rfl
              rw [List.getElem?_set] at hc''; simp only [if_true] at hc''; split at hc''
              · simp only [Option.some.injEq] at hc''; subst hc''; exact hl
              · simp at hc''
            exact ⟨n1, n2, getElem?_set_none_ne hc'' n2⟩
          have s3 := s2.chunkN b hbck (fun k' o' ek => by
            rw [Env.upd_loc_ne _ _ _ hbn, hloc] at ek
            simp only [Option.some.injEq, Prod.mk.injEq] at ek
            obtain ⟨rfl, rfl⟩ := ek
            refine ⟨hs.own b _ k q hb trivial hloc, fun b' c' k' o' hne hc' hl' el ek => ?_, fun b' i hne hi => ?_⟩
            · subst ek
              obtain ⟨n1, n2, hc''⟩ := live2 hc' hl'
              rw [Env.upd_loc_ne _ _ _ n2] at el
              exact n1 (hs.excl b' b c' _ k' o' q hc'' hb hl' trivial el hloc)
            · exact (hs.inn b' i k (old hi)).2.1 b _ q hb trivial hloc) (fun i k' hi => by
            obtain ⟨n0, hi'⟩ := oldN hi
            obtain ⟨p1, p2, p3⟩ := hs.inn b i k' hi'
            refine ⟨p1, fun b' c' o' hne hc' hl' el => ?_, fun o' el => ?_, fun b' i' hne hi2 => hne (p3 b' i' (old hi2)).1, fun i' hi2 => (p3 b i' (oldN hi2).2).2⟩
            · obtain ⟨n1, n2, hc''⟩ := live2 hc' hl'
              rw [Env.upd_loc_ne _ _ _ n2] at el
              exact p2 b' c' o' hc'' hl' el
            · rw [Env.upd_loc_ne _ _ _ hbn] at el
              exact p2 b _ o' hb trivial el)
          rw [List.set_set] at s3
          have s4 := s3.chunk nm hck (by simp) (fun k' o' ek => by
            rw [Env.upd_loc, hpl, Option.map_eq_some_iff] at ek
            obtain ⟨k2, ek2, e2⟩ := ek
            simp only [Prod.mk.injEq] at e2
            obtain ⟨rfl, rfl⟩ := e2
            obtain ⟨p1, p2, p3⟩ := hs.inn b e k2 ⟨_, _, _, r, hb, hr, by simp, ek2⟩
            have look : ∀ {b' : Nat} {c' : Chunk}, b' ≠ nm → ((h.set nm .none).set b (.nest isz rs (some (e, .row nm isz))))[b']? = some c' → c'.live → ∃ c'', h[b']? = some c'' ∧ c''.live := by
              intro b' c' hne hc' hl'
              by_cases eb : b' = b
              · subst eb; exact ⟨_, hb, trivial⟩
              · exact ⟨c', getElem?_set_none_ne (getElem?_set_none_ne hc' eb) hne, hl'⟩
            refine ⟨p1, fun b' c' k' o' hne hc' hl' el ek => ?_, fun b' i hne hi => ?_⟩
            · subst ek
              obtain ⟨c'', h1, h2⟩ := look hne hc' hl'
              rw [Env.upd_loc_ne _ _ _ hne] at el
              exact p2 b' c'' o' h1 h2 el
            · rcases innAt_set hi with ⟨rfl, hi⟩ | ⟨n1, hi⟩
              · obtain ⟨n0, hi'⟩ := oldN hi
                exact n0 (p3 b' i hi').2
              · have hi' : InnAt h E b' i k2 := innAt_drop (h := h) hi
                exact n1 (p3 b' i hi').1)
          have e5 : ((h.set nm .none).set b (.nest isz rs (some (e, .row nm isz)))).set nm (.data isz r) = updL [(b, .nest isz rs (some (e, .row nm isz))), (nm, .data isz r)] h := by
            show _ = (h.set b _).set nm _
            rw [List.set_comm _ _ (fun e => hbn e.symm), List.set_set]
          rw [e5] at s4
          exact ⟨F, _, s4.put o.dst hsee⟩
        cases hin with
        | nil ad h0 h1 h2 =>
          subst h1
          refine gen none (by rw [h0]; rfl) ?_ (.empty _ (Env.upd_loc ..) (Env.upd_ln ..))
          rw [h2]
          exact .rowE (Env.upd_loc ..) (Env.upd_ln ..)
        | row vals' h0 h1 h2 h3 h4 h5 h6 h7 =>
          rename_i kk capp cc TT
          refine gen (some (kk, 0)) (by rw [h0]; rfl) ?_ (.data vals' (Env.upd_loc ..) (Env.upd_ln ..) h1 h2 (by simpa using h6) h7)
          rw [h5]
          have hln : (E.upd nm (some (kk, 0)) r.length).ln nm = r.length := Env.upd_ln E nm (some (kk, 0)) r.length
          have := SeesA.row (W := w) (F := F) (E := E.upd nm (some (kk, 0)) r.length) (b := nm) (sz := isz) (cap := capp) (Env.upd_loc E nm (some (kk, 0)) r.length) h1 (by rw [hln]; exact h3) h4
          rwa [hln] at this
    · exact plain _ e1 hy
  · exact plain _ rfl hy
end
end Go.X
namespace Go.X
open Go Go.RowKit
section
variable {P : Program} {w0 : World} {wr : Wr} {F0 F : Nat → Prop} {E : Env} {t : List AV} {h hm : List Chunk} {a : Act} {w w' : World} {o : Oper} {nm : Nat}
theorem row0 {b sz k cap : Nat} {c : Array Value} {T : TypeId} {fz : Nat × Nat} {n : Nat} (hl : E.loc b = some (k, 0)) (hn : E.ln b = n) (hb : w.heap[k]? = some (.cells c T fz)) (hlen : n ≤ cap) (hroom : cap * sz ≤ c.size) :
    SeesA w F E (.row b sz) (.slice (some ⟨k, 0, none⟩) n cap) := by
  subst hn
  exact .row hl hb hlen hroom
def cElems : Nat → List (Nat × Operand) → Option (List Opd)
  | _, [] => some []
  | i, (j, x) :: r => if i = j then do
      let y ← cOpd x
      let ys ← cElems (i + 1) r
      pure (y :: ys) else none
theorem elems_sound (hs : SimAt w0 wr F0 F E ⟨t, h⟩ a w) {sz : Nat} : ∀ {ps : List (Nat × Operand)} {qs : List Opd} {s : Nat} {vs : Array Value} {k : List (List D) → Prop},
    cElems s ps = some qs → (s + ps.length) * sz ≤ vs.size → elemsK t sz qs k → ∃ l vs', Instr.fill (fun i => some (i * sz, sz)) vs (ps.map fun p => (p.1, a.eval p.2)) = some vs' ∧ k l ∧ l.length = ps.length ∧ vs'.size = vs.size ∧
      (∀ j, j < s * sz → vs'[j]? = vs[j]?) ∧ ∀ (i : Nat) (r : List D), l[i]? = some r → r.length = sz ∧ ∀ j x, r[j]? = some x → ∃ v, vs'[(s + i) * sz + j]? = some v ∧ v.oneCell' = true ∧ Sees w F x v
  | [], qs, s, vs, k, hq, hsz, hk => by
    simp only [cElems, Option.some.injEq] at hq; subst hq
    exact ⟨[], vs, rfl, hk, rfl, rfl, fun _ _ => rfl, fun i r hi => by simp at hi⟩
  | (i, x) :: r, qs, s, vs, k, hq, hsz, hk => by
    simp only [cElems] at hq
    split at hq
    case isFalse => simp at hq
    rename_i hi; subst hi
    simp only [Option.pure_def, Option.bind_eq_bind, Option.bind_eq_some_iff, Option.some.injEq] at hq
    obtain ⟨X, hX, ys, hys, rfl⟩ := hq
    have hxs := ev_sound hs hX
    have hsz' : (s + 1 + r.length) * sz ≤ vs.size := by rw [List.length_cons] at hsz; rw [show s + 1 + r.length = s + (r.length + 1) from by omega]; exact hsz
    have hs1 : s * sz + sz ≤ vs.size := by
      have : (s + 1) * sz ≤ (s + 1 + r.length) * sz := Nat.mul_le_mul_right _ (by omega)
      rw [Nat.add_mul, Nat.one_mul] at this; omega
    have step : ∀ (zs : List D) (us : Array Value) (vx : Value), vx.cells = us → Reads w F zs us → zs.length = sz → elemsK t sz ys (fun l => k (zs :: l)) → a.eval x = vx →
        ∃ l vs', Instr.fill (fun i => some (i * sz, sz)) vs (((s, x) :: r).map fun p => (p.1, a.eval p.2)) = some vs' ∧ k l ∧ l.length = ((s, x) :: r).length ∧ vs'.size = vs.size ∧
      (∀ j, j < s * sz → vs'[j]? = vs[j]?) ∧ ∀ (i : Nat) (r : List D), l[i]? = some r → r.length = sz ∧ ∀ j x, r[j]? = some x → ∃ v, vs'[(s + i) * sz + j]? = some v ∧ v.oneCell' = true ∧ Sees w F x v := by
      intro zs us vx hvx hr hz hk' hev
      have hl := hr.len
      have sp := foldl_set_spec us.toList 0 (s * sz) vs
      obtain ⟨p1, p2⟩ := sp
      have hfold : us.zipIdx.foldl (fun (cs : Array Value) (p : Value × Nat) => cs.setIfInBounds (s * sz + p.2) p.1) vs = (us.toList.zipIdx 0).foldl (fun (cs : Array Value) (p : Value × Nat) => cs.setIfInBounds (s * sz + p.2) p.1) vs := by
        rw [← Array.foldl_toList, Array.toList_zipIdx]
      obtain ⟨l, vs', g1, g2, g3, g4, g5, g6⟩ := elems_sound (vs := us.zipIdx.foldl (fun (cs : Array Value) (p : Value × Nat) => cs.setIfInBounds (s * sz + p.2) p.1) vs) hs hys (by rw [hfold, p1]; exact hsz') hk'
      rw [hfold] at g1 g4 g5
      refine ⟨zs :: l, vs', ?_, g2, by simp [g3], by rw [g4, p1], fun j hj => ?_, fun i r' hi => ?_⟩
      · simp only [List.map_cons]
        rw [fill_cons (off := s * sz) (n := sz) _ rfl (by rw [hev, hvx]; omega) (by rw [hev, hvx]; omega), hev, hvx, hfold]
        exact g1
      · rw [g5 j (by rw [Nat.add_mul]; omega), p2 j, if_neg (by omega)]
      · cases i with
        | zero =>
          simp only [List.getElem?_cons_zero, Option.some.injEq] at hi; subst hi
          refine ⟨hz, fun j y hj => ?_⟩
          have hjs : j < sz := by rw [← hz]; exact (List.getElem?_eq_some_iff.1 hj).1
          have hju : j < us.size := by omega
          refine ⟨us[j], ?_, hr.one j _ (Array.getElem?_eq_getElem hju), hr.sees j y _ hj (Array.getElem?_eq_getElem hju)⟩
          rw [Nat.add_zero, g5 (s * sz + j) (by rw [Nat.add_mul]; omega), p2, if_pos (by simp; omega)]
          rw [show s * sz + j - (s * sz + 0) = j from by omega]
          simp [hju]
        | succ i =>
          simp only [List.getElem?_cons_succ] at hi
          obtain ⟨q1, q2⟩ := g6 i r' hi
          refine ⟨q1, fun j y hj => ?_⟩
          have := q2 j y hj
          rwa [show s + 1 + i = s + (i + 1) from by omega] at this
    simp only [elemsK] at hk
    split at hk
    · rename_i zs e
      rw [e] at hxs
      obtain ⟨hz, hk⟩ := hk
      obtain ⟨us, hv, g1, g2, g3⟩ := seesA_agg hxs
      exact step zs us _ rfl ⟨g1, g2, g3⟩ hz hk hv
    · rename_i d hne e
      rw [e] at hxs
      obtain ⟨⟨rfl, hsc⟩, hk⟩ := hk
      have hone := av_scalar hxs (by simpa [AV.scalar] using hsc)
      cases hxs with
      | d hd => exact step [d] _ _ hone.2 (reads_one hd hone.1) rfl hk rfl
    · exact hk.elim
theorem s_bslice (hs : SimAt w0 wr F0 F E ⟨t, h⟩ a w) (nr : NRs nm t h) {T el : TypeId} {n sz : Nat} {ps : Array (Nat × Operand)} {qs : List Opd} {z : List D}
    (hT : P.underlying T = some (.slice el)) (hz : tZero P el = some z) (hsz : z.length = sz) (hpos : 0 < sz) (hn : n = ps.size) (hbig : n * sz ≤ 2 ^ 24) (hq : cElems 0 ps.toList = some qs) (ho : o.op = .buildSlice T n ps)
    {y : AV} {u : List (Nat × Chunk)} (hy : Y P (.bslice sz qs) nm t hm y u) : Step P w0 wr F0 o a w t h y u := by
  simp only [Y, XOp.eff] at hy
  subst hsz
  obtain ⟨v, hv, hr, htsz⟩ := reads_zero (F := F) hz
  have hvl := (hr w).len
  split at hy
  ·
    rename_i isz x hsg
    obtain ⟨hz1, rfl, rfl⟩ := hy
    obtain ⟨X, b, rfl, hX, rfl⟩ : ∃ X b, qs = [X] ∧ X.ev t = .row b isz ∧ x = .row b isz := by
      unfold single at hsg
      split at hsg
      · rename_i X
        split at hsg
        · rename_i b isz' e
          simp only [Option.some.injEq, Prod.mk.injEq] at hsg
          obtain ⟨rfl, rfl⟩ := hsg
          exact ⟨X, b, rfl, e, rfl⟩
        · cases hsg
      · cases hsg
    obtain ⟨z0, hps, hX0⟩ : ∃ z0, ps.toList = [(0, z0)] ∧ cOpd z0 = some X := by
      generalize ps.toList = l at hq
      match l, hq with
      | [], hq => simp [cElems] at hq
      | [(i, z0)], hq =>
        simp only [cElems] at hq
        split at hq
        · rename_i e
          simp only [Option.pure_def, Option.bind_eq_bind, Option.bind_eq_some_iff, Option.some.injEq] at hq
          obtain ⟨Y, h1, ys, h2, h3⟩ := hq
          simp only [List.cons.injEq] at h3
          exact ⟨z0, by rw [← e], by rw [h1, h3.1]⟩
        · cases hq
      | (i, z0) :: (i2, z2) :: r, hq =>
        simp only [cElems] at hq
        split at hq
        · simp only [Option.pure_def, Option.bind_eq_bind, Option.bind_eq_some_iff, Option.some.injEq] at hq
          obtain ⟨Y, h1, ys, h2, h3⟩ := hq
          split at h2
          · simp only [Option.bind_eq_some_iff, Option.some.injEq] at h2
            obtain ⟨Y2, _, ys2, _, rfl⟩ := h2
            simp at h3
          · cases h2
        · cases hq
    have hn1 : n = 1 := by rw [hn, ← Array.length_toList, hps]; rfl
    subst hn1
    have hxs := ev_sound hs hX0
    rw [hX] at hxs
    obtain ⟨o1, o2⟩ := av_scalar hxs rfl
    have hfill : ∀ vs : Array Value, vs.size = 1 → Instr.fill (fun i => some (i * 1, 1)) vs [(0, a.eval z0)] = some #[a.eval z0] := by
      intro vs hvs
      rw [fill_cons (off := 0) (n := 1) _ (by simp) (by rw [o2]; rfl) (by rw [hvs, o2]; simp), o2]
      obtain ⟨y, rfl⟩ : ∃ y, vs = #[y] := by
        match vs, hvs with
        | ⟨[y]⟩, _ => exact ⟨y, rfl⟩
      rfl
    have hrun : (execOp a.eval o).run P w = .ok (.value (.slice (some ⟨w.heap.size, 0, none⟩) 1 1)) { w with heap := w.heap.push (.cells #[a.eval z0] el) } := by
      rw [hz1] at htsz hvl
      simp [execOp, ho, Instr.buildSlice, run_underlying hT, run_sizeOf htsz, hv, newRow, newObj, hps]
      have := hfill ((Array.range 1).map (v.cells[· % v.cells.size]!)) (by simp)
      simp only [Nat.mul_one] at this
      simp only [this]
      rfl
    unfold Step
    rw [hrun]
    have hb := below_push w { w with heap := w.heap.push (.cells #[a.eval z0] el) } _ rfl rfl rfl rfl
    have hne : b ≠ nm := by
      have : NR nm (X.ev t) := by
        cases X with
        | t m =>
          simp only [Opd.ev, getL_eq] at hX ⊢
          cases hm : t[m]? with
          | none => exact .dead
          | some z => exact nr.t z (List.mem_of_getElem? hm)
        | c y => exact .d y
        | f g => exact .d _
      rw [hX] at this
      cases this with | row h => exact h
    have hck : ChunkAt { w with heap := w.heap.push (.cells #[a.eval z0] el) } F (E.upd nm (some (w.heap.size, 0)) 1) nm (.nest isz [[]] (some (0, .row b isz))) := by
      refine .nest (c := #[a.eval z0]) (T := el) (fun _ => a.eval z0) (Env.upd_loc ..) (Env.upd_ln ..) (by simp) (fun hk => by have := hs.fin _ hk; omega) (fun j hj => ?_) (fun j x hx => ?_) (fun j r hr hh => ?_)
      · have : j = 0 := by simp at hj; omega
        subst this; exact ⟨rfl, o1⟩
      · simp only [Option.some.injEq, Prod.mk.injEq] at hx
        obtain ⟨rfl, rfl⟩ := hx
        exact (hxs.mono (fun _ h => h) (fun k hk => hb.block k (hs.fin k hk)) (sizes_below hb)).env _ _ (.row hne)
      · have hj := (List.getElem?_eq_some_iff.1 hr).1
        have : j = 0 := by simp at hj; omega
        subst this; exact absurd rfl (hh _)
    refine ⟨F, _, (hs.name_newN hb F (fun _ h => h) (fun _ h => .inl h) nr (some (w.heap.size, 0)) 1 (fun k q e => by simp at e; omega) hck ?_).put o.dst ?_⟩
    · rintro i k ⟨isz', rs', hole', r, e1, e2, e3, e4⟩
      simp only [Chunk.nest.injEq] at e1
      obtain ⟨rfl, rfl, rfl⟩ := e1
      have hj := (List.getElem?_eq_some_iff.1 e2).1
      have : i = 0 := by simp at hj; omega
      subst this; exact e3 _ rfl
    · exact row0 (c := #[a.eval z0]) (T := el) (fz := (0, 0)) (Env.upd_loc ..) (Env.upd_ln ..) (by simp) (Nat.le_refl 1) (by simp)
  obtain ⟨l, vs', g1, ⟨rfl, rfl⟩, g3, g4, _, g6⟩ := elems_sound (vs := (Array.range (n * z.length)).map (v.cells[· % v.cells.size]!)) hs hq (by simp [hn]) hy
  have hl : l.length = n := by rw [g3, hn]; simp
  have hrun : (execOp a.eval o).run P w = .ok (.value (.slice (some ⟨w.heap.size, 0, none⟩) n n)) { w with heap := w.heap.push (.cells vs' el) } := by
    have hnb : ¬ (n * z.length > 2 ^ 24) := by omega
    by_cases h0 : n * z.length = 0
    · have e4 : Instr.fill (fun i => some (i * z.length, z.length)) #[] (ps.toList.map fun p => (p.1, a.eval p.2)) = some vs' := by
        rw [h0] at g1; simpa [Array.range_zero'] using g1
      simp [execOp, ho, Instr.buildSlice, run_underlying hT, run_sizeOf htsz, h0, newRow, newObj, Array.range_zero']
      simp only [e4]
      rfl
    · simp [execOp, ho, Instr.buildSlice, run_underlying hT, run_sizeOf htsz, h0, hnb, hv, newRow, newObj]
      simp only [g1]
      rfl
  unfold Step
  rw [hrun]
  refine sim_new_data hs nr (w' := { w with heap := w.heap.push (.cells vs' el) }) rfl rfl rfl rfl (sz := z.length) (els := l) (fun i j => vs'.getD (i * z.length + j) undef) (fun i r hi => ?_) (fun i r j x hi hj => ?_) o.dst ?_
  · obtain ⟨q1, q2⟩ := g6 i r hi
    refine ⟨q1, fun j hj => ?_⟩
    obtain ⟨v', k1, k2, k3⟩ := q2 j _ (List.getElem?_eq_getElem (by omega))
    rw [Nat.zero_add] at k1
    rw [Array.getD_eq_getD_getElem?, k1]
    exact ⟨rfl, k2⟩
  · obtain ⟨q1, q2⟩ := g6 i r hi
    obtain ⟨v', k1, k2, k3⟩ := q2 j _ hj
    rw [Nat.zero_add] at k1
    rw [Array.getD_eq_getD_getElem?, k1]
    exact k3
  · refine row0 (c := vs') (T := el) (fz := (0, 0)) (Env.upd_loc ..) (by rw [Env.upd_ln, hl]) (by simp) (Nat.le_refl n) ?_
    rw [g4]; simp
theorem s_bsliceD (hs : SimAt w0 wr F0 F E ⟨t, h⟩ a w) {T el : TypeId} {n sz : Nat} {ps : Array (Nat × Operand)} {qs : List Opd} {z : List D}
    (hT : P.underlying T = some (.slice el)) (hz : tZero P el = some z) (hsz : z.length = sz) (hpos : 0 < sz) (hn : n = ps.size) (hbig : n * sz ≤ 2 ^ 24) (hq : cElems 0 ps.toList = some qs) (ho : o.op = .buildSlice T n ps)
    {y : AV} {u : List (Nat × Chunk)} (hy : Y P (.bsliceD sz qs) nm t hm y u) : Step P w0 wr F0 o a w t h y u := by
  simp only [Y, XOp.eff] at hy
  subst hsz
  obtain ⟨v, hv, hr, htsz⟩ := reads_zero (F := F) hz
  have hvl := (hr w).len
  obtain ⟨l, vs', g1, ⟨rfl, rfl⟩, g3, g4, _, g6⟩ := elems_sound (vs := (Array.range (n * z.length)).map (v.cells[· % v.cells.size]!)) hs hq (by simp [hn]) hy
  have hl : l.length = n := by rw [g3, hn]; simp
  have hrun : (execOp a.eval o).run P w = .ok (.value (.slice (some ⟨w.heap.size, 0, none⟩) n n)) { w with heap := w.heap.push (.cells vs' el) } := by
    have hnb : ¬ (n * z.length > 2 ^ 24) := by omega
    by_cases h0 : n * z.length = 0
    · have e4 : Instr.fill (fun i => some (i * z.length, z.length)) #[] (ps.toList.map fun p => (p.1, a.eval p.2)) = some vs' := by
        rw [h0] at g1; simpa [Array.range_zero'] using g1
      simp [execOp, ho, Instr.buildSlice, run_underlying hT, run_sizeOf htsz, h0, newRow, newObj, Array.range_zero']
      simp only [e4]
      rfl
    · simp [execOp, ho, Instr.buildSlice, run_underlying hT, run_sizeOf htsz, h0, hnb, hv, newRow, newObj]
      simp only [g1]
      rfl
  unfold Step
  rw [hrun]
  have hb := below_push w { w with heap := w.heap.push (.cells vs' el) } _ rfl rfl rfl rfl
  have hF' : ∀ k, (F k ∨ k = w.heap.size) → F k ∨ (w.heap.size ≤ k ∧ k < ({ w with heap := w.heap.push (.cells vs' el) } : World).heap.size) := fun k hk => hk.imp id fun e => by
    subst e; simp
  have hsl := Sees.lst (W := { w with heap := w.heap.push (.cells vs' el) }) (F := fun k => F k ∨ k = w.heap.size) (sz := z.length) (l := l) (k := w.heap.size) (off := 0) (cap := n) (c := vs') (T := el) (fz := (0, 0)) (fun i j => vs'.getD (i * z.length + j) undef)
    (.inr rfl) (by simp) (by omega) (fun i r hi => by
      obtain ⟨q1, q2⟩ := g6 i r hi
      refine ⟨q1, fun j hj => ?_⟩
      obtain ⟨v', k1, k2, k3⟩ := q2 j _ (List.getElem?_eq_getElem (by omega))
      rw [Nat.zero_add] at k1 ⊢
      rw [Array.getD_eq_getD_getElem?, k1]
      exact ⟨rfl, k2⟩) (fun i r j x hi hj => by
      obtain ⟨q1, q2⟩ := g6 i r hi
      obtain ⟨v', k1, k2, k3⟩ := q2 j _ hj
      rw [Nat.zero_add] at k1
      rw [Array.getD_eq_getD_getElem?, k1]
      exact k3.mono (fun _ h => .inl h) (fun k hk => hb.block k (hs.fin k hk)))
  rw [hl] at hsl
  exact ⟨_, E, (hs.ext hb (fun k => F k ∨ k = w.heap.size) (fun _ h => .inl h) hF').put o.dst (.d hsl)⟩
theorem replicate_some {α : Type} {n i : Nat} {z r : α} (h : (List.replicate n z)[i]? = some r) : i < n ∧ r = z := by
  rw [List.getElem?_replicate] at h
  split at h
  · simp only [Option.some.injEq] at h; exact ⟨by assumption, h.symm⟩
  · simp at h
theorem s_mkrow (hs : SimAt w0 wr F0 F E ⟨t, h⟩ a w) (nr : NRs nm t h) {T el : TypeId} {i : TypeInfo} {x x2 : Operand} {X : Opd} {z : List D}
    (hT : P.underlying T = some (.slice el)) (hz : tZero P el = some z) (hi : P.info? el = some i) (hx : cOpd x = some X) (hx2 : cOpd x2 = some X) (ho : o.op = .makeSlice T x x2)
    {y : AV} {u : List (Nat × Chunk)} (hy : Y P (.mkrow z.length i.bytes z X) nm t hm y u) : Step P w0 wr F0 o a w t h y u := by
  simp only [Y, XOp.eff] at hy
  have hxs := ev_sound hs hx
  have hxs2 := ev_sound hs hx2
  split at hy
  case h_2 => exact hy.elim
  rename_i k m e
  rw [e] at hxs hxs2
  have hv := seesA_int hxs
  have hv2 := seesA_int hxs2
  obtain ⟨⟨rfl, _, hpos, hm0, hm1, hby⟩, rfl, rfl⟩ := hy
  obtain ⟨v, hzv, hr, htsz⟩ := reads_zero (F := F) hz
  have hvl := (hr w).len
  have hzi : i.zero = some v := by
    have := hzv w
    unfold zeroValue typeInfo at this
    rw [Sem.run_bind, Sem.run_bind] at this
    change (((Result.ok P w).andThen _).andThen _) = _ at this
    rw [Result.andThen_ok] at this
    simp only [hi, Sem.run_pure, Result.andThen_ok] at this
    cases hq : i.zero with
    | none => rw [hq] at this; simp [unsupported] at this
    | some v' => rw [hq] at this; simp at this; rw [this]
  have hisz : i.size = z.length := by simpa [tSize, hi] using htsz
  unfold maxRow at hm1
  have hrun := run_make (P := P) w T el i v hT hi hzi .i64 .i64 m m hm0 (Int.le_refl _) (by
    have h1 : (i.bytes : Int) * m ≤ 4096 * 4294967296 := Int.mul_le_mul (by omega) hm1 hm0 (by omega)
    omega) (by omega)
  have hrun' : (execOp a.eval o).run P w = .ok (.value (.slice (some ⟨w.heap.size, 0, none⟩) m.toNat m.toNat)) { w with heap := w.heap.push (.cells (madeCells v.cells (m.toNat * z.length)) el) } := by
    rw [hisz] at hrun
    simp only [execOp, ho, hv, hv2, Sem.run_bind, hrun, Result.andThen_ok]
    rfl
  unfold Step
  rw [hrun']
  have cellj : ∀ q, q < m.toNat * z.length → (madeCells v.cells (m.toNat * z.length))[q]? = some (v.cells.getD (q % z.length) undef) := by
    intro q hq
    have hlt : q % z.length < v.cells.size := by rw [hvl]; exact Nat.mod_lt _ hpos
    unfold madeCells
    rw [Array.getElem?_map, Array.getElem?_range, if_pos hq]
    simp only [Option.map_some, Option.some.injEq, hvl]
    rw [getElem!_pos v.cells _ hlt, ← Array.getElem_eq_getD (h := hlt)]
  have mod_eq : ∀ i j, j < z.length → (i * z.length + j) % z.length = j := fun i j hj => by
    rw [Nat.mul_comm, Nat.mul_add_mod, Nat.mod_eq_of_lt hj]
  have bound : ∀ i j, i < m.toNat → j < z.length → i * z.length + j < m.toNat * z.length := fun i j h1 h2 => by
    have : (i + 1) * z.length ≤ m.toNat * z.length := Nat.mul_le_mul_right _ (by omega)
    rw [Nat.add_mul] at this; omega
  refine sim_new_data hs nr (w' := { w with heap := w.heap.push (.cells (madeCells v.cells (m.toNat * z.length)) el) }) rfl rfl rfl rfl (sz := z.length) (els := List.replicate m.toNat z) (fun _ j => v.cells.getD j undef) (fun i r hi => ?_) (fun i r j x hi hj => ?_) o.dst ?_
  · obtain ⟨hlt, rfl⟩ := replicate_some hi
    refine ⟨rfl, fun j hj => ?_⟩
    rw [cellj _ (bound i j hlt hj), mod_eq i j hj]
    have hlt' : j < v.cells.size := by omega
    refine ⟨rfl, ?_⟩
    rw [← Array.getElem_eq_getD (h := hlt')]
    exact (hr w).one j _ (Array.getElem?_eq_getElem hlt')
  · obtain ⟨hlt, rfl⟩ := replicate_some hi
    have hlt' : j < v.cells.size := by rw [hvl]; exact (List.getElem?_eq_some_iff.1 hj).1
    rw [← Array.getElem_eq_getD (h := hlt')]
    exact (hr w).sees j x _ hj (Array.getElem?_eq_getElem hlt')
  · exact row0 (c := madeCells v.cells (m.toNat * z.length)) (T := el) (fz := (0, 0)) (Env.upd_loc ..) (by rw [Env.upd_ln]; simp) (by simp) (Nat.le_refl _) (by rw [size_madeCells]; exact Nat.le_refl _)
theorem s_len (hs : SimAt w0 wr F0 F E ⟨t, h⟩ a w) (hsub : Sub hm h) {x : Operand} {X : Opd} (hx : cOpd x = some X) {T el : TypeId} (hT : P.underlying T = some (.slice el))
    (ho : o.op = .call { callee := .builtin .len, args := #[x], argTypes := #[T] })
    {y : AV} {u : List (Nat × Chunk)} (hy : Y P (.len X) nm t hm y u) : Step P w0 wr F0 o a w t h y u := by
  simp only [Y, XOp.eff] at hy
  have hxs := ev_sound hs hx
  have run1 : ∀ ad n cap, a.eval x = .slice ad n cap → (execOp a.eval o).run P w = .ok (.value (.int .i64 n)) w := by
    rintro ad n cap hv
    simp [execOp, ho, resolve, invoke, builtin, Builtin.len_, hv, run_underlying hT, goInt]
  split at hy
  · rename_i sz l e
    rw [e] at hxs
    obtain ⟨rfl, rfl⟩ := hy
    rcases seesA_lst hxs with ⟨ad, cap, hv, rfl⟩ | ⟨k, q, cap, vals, hv, _⟩
    · exact Step.value hs (run1 _ _ _ hv) (.d (.int _ _))
    · exact Step.value hs (run1 _ _ _ hv) (.d (.int _ _))
  · rename_i e
    rw [e] at hxs
    obtain ⟨rfl, rfl⟩ := hy
    obtain ⟨ad, hv⟩ := seesA_emp hxs
    exact Step.value hs (run1 _ _ _ hv) (.d (.int _ _))
  · rename_i b sz e
    rw [e] at hxs
    split at hy
    · rename_i sz' l hc
      obtain ⟨rfl, rfl⟩ := hy
      have hch := hs.heap _ _ (sub_get hsub hc trivial)
      rcases seesA_row hxs with ⟨k, cap, c, T', fz, hv, hloc, _⟩ | ⟨ad, hv, hloc, h0⟩
      · obtain ⟨_, _, _, hln, _⟩ := laid_chunk hch hloc
        rw [hln] at hv
        exact Step.value hs (run1 _ _ _ hv) (.d (.int _ _))
      · cases hch with
        | empty => exact Step.value hs (run1 _ _ _ hv) (.d (.int _ _))
        | data _ h2 => rw [hloc] at h2; simp at h2
    · rename_i isz rs hole hc
      obtain ⟨rfl, rfl⟩ := hy
      have hch := hs.heap _ _ (sub_get hsub hc trivial)
      rcases seesA_row hxs with ⟨k, cap, c, T', fz, hv, hloc, _⟩ | ⟨ad, hv, hloc, h0⟩
      · cases hch with
        | nestE _ _ h2 => rw [hloc] at h2; simp at h2
        | nest _ _ hn =>
          rw [hn] at hv
          exact Step.value hs (run1 _ _ _ hv) (.d (.int _ _))
      · cases hch with
        | nestE => exact Step.value hs (run1 _ _ _ hv) (.d (.int _ _))
        | nest _ h2 => rw [hloc] at h2; simp at h2
    · exact hy.elim
  · rename_i b sz off m e
    rw [e] at hxs
    obtain ⟨rfl, rfl⟩ := hy
    obtain ⟨k, q, cap, hv, _⟩ := seesA_sub hxs
    exact Step.value hs (run1 _ _ _ hv) (.d (.int _ _))
  · exact hy.elim
theorem s_b2s (hs : SimAt w0 wr F0 F E ⟨t, h⟩ a w) (hsub : Sub hm h) {x : Operand} {X : Opd} (hx : cOpd x = some X) {S T el : TypeId} (hS : P.underlying S = some (.slice el)) (hel : P.underlying el = some (.int .u8)) (hT : P.underlying T = some .string)
    (ho : o.op = .convert S T x)
    {y : AV} {u : List (Nat × Chunk)} (hy : Y P (.b2s X) nm t hm y u) : Step P w0 wr F0 o a w t h y u := by
  simp only [Y, XOp.eff] at hy
  have hxs := ev_sound hs hx
  have key : ∀ (k q cap : Nat) (l : List (List D)) (F' : Nat → Prop) (vals : Nat → Nat → Value), a.eval x = .slice (some ⟨k, q, none⟩) l.length cap → Laid w F' k q 1 l vals → BytL l → (execOp a.eval o).run P w = .ok (.value (.string (strOf l))) w := by
    intro k q cap l F' vals hv hl hb
    have hload : (loadCells ⟨k, q, none⟩ l.length).run P w = .ok ((l.map cellI).map (Value.int .u8)).toArray w := by
      have hlen : ((l.map cellI).map (Value.int .u8)).length = l.length := by rw [List.length_map, List.length_map]
      rw [← hlen]
      refine run_loadCells_list (P := P) w ⟨k, q, none⟩ _ fun j v hv => ?_
      rw [Addr.add_mid]
      rw [List.getElem?_map, List.getElem?_map, Option.map_map, Option.map_eq_some_iff] at hv
      obtain ⟨r, hr, rfl⟩ := hv
      obtain ⟨n, rfl⟩ := hb r (List.mem_of_getElem? hr)
      have hg : get2 l j 0 = some (.int .u8 n) := by unfold get2; rw [hr]; rfl
      obtain ⟨g1, _, g3⟩ := hl.get hg
      rw [show q + j * 1 + 0 = q + j by omega] at g1
      rw [g1]
      generalize vals j 0 = z at g3 ⊢
      cases g3
      rfl
    simp only [execOp, ho, hv]
    have e1 := run_convert_bytes_string (P := P) w S T el (some ⟨k, q, none⟩) l.length cap hS hel hT
    have e2 := run_bytesToString (P := P) w ⟨k, q, none⟩ l.length cap (l.map cellI) hload
    rw [e2] at e1
    simp [e1]
    rfl
  have key0 : ∀ ad cap, a.eval x = .slice ad 0 cap → (execOp a.eval o).run P w = .ok (.value (.string ByteArray.empty)) w := by
    intro ad cap hv
    simp only [execOp, ho, hv]
    have e1 := run_convert_bytes_string (P := P) w S T el ad 0 cap hS hel hT
    cases ad with
    | none => simp [e1, Conv.bytesToString]
    | some ad =>
      have e2 := run_bytesToString (P := P) w ad 0 cap [] (by simp [loadCells, loadCellsFrom])
      rw [e2] at e1
      simp [e1]
  split at hy
  · rename_i e
    rw [e] at hxs
    obtain ⟨rfl, rfl⟩ := hy
    obtain ⟨ad, hv⟩ := seesA_emp hxs
    exact Step.value hs (key0 _ _ hv) (.d (.str _))
  · rename_i sz l e
    rw [e] at hxs
    obtain ⟨⟨rfl, hb⟩, rfl, rfl⟩ := hy
    rcases seesA_lst hxs with ⟨ad, cap, hv, rfl⟩ | ⟨k, q, cap, vals, hv, hF, hcap, hl⟩
    · exact Step.value hs (key0 _ _ hv) (.d (.str _))
    · exact Step.value hs (key _ _ _ _ _ _ hv hl hb) (.d (.str _))
  · rename_i b' sz e
    rw [e] at hxs
    split at hy
    · rename_i sz' l hc
      obtain ⟨⟨rfl, hb⟩, rfl, rfl⟩ := hy
      have hch := hs.heap _ _ (sub_get hsub hc trivial)
      rcases seesA_row hxs with ⟨k, cap, c, T', fz, hv, hloc, _⟩ | ⟨ad, hv, hloc, h0⟩
      · obtain ⟨vals, hl, _, hln, _⟩ := laid_chunk hch hloc
        rw [hln] at hv
        exact Step.value hs (key _ _ _ _ _ _ hv hl hb) (.d (.str _))
      · cases hch with
        | empty => exact Step.value hs (key0 _ _ hv) (.d (.str _))
        | data _ h2 => rw [hloc] at h2; simp at h2
    · exact hy.elim
  · exact hy.elim
theorem s_lenS (hs : SimAt w0 wr F0 F E ⟨t, h⟩ a w) {x : Operand} {X : Opd} (hx : cOpd x = some X) {T : TypeId} (hT : P.underlying T = some .string)
    (ho : o.op = .call { callee := .builtin .len, args := #[x], argTypes := #[T] })
    {y : AV} {u : List (Nat × Chunk)} (hy : Y P (.lenS X) nm t hm y u) : Step P w0 wr F0 o a w t h y u := by
  simp only [Y, XOp.eff] at hy
  have hxs := ev_sound hs hx
  split at hy
  · rename_i s e
    rw [e] at hxs
    obtain ⟨rfl, rfl⟩ := hy
    have hv := seesA_str hxs
    refine Step.value hs (v := .int .i64 s.size) ?_ (.d (.int _ _))
    simp [execOp, ho, resolve, invoke, builtin, Builtin.len_, hv, run_underlying hT, goInt]
  · exact hy.elim
theorem s_mm (hs : SimAt w0 wr F0 F E ⟨t, h⟩ a w) {x z : Operand} {X Z : Opd} (hx : cOpd x = some X) (hz : cOpd z = some Z) {mx : Bool} {Ts : Array TypeId}
    (ho : o.op = .call { callee := .builtin (if mx then .max else .min), args := #[x, z], argTypes := Ts })
    {y : AV} {u : List (Nat × Chunk)} (hy : Y P (.mm mx X Z) nm t hm y u) : Step P w0 wr F0 o a w t h y u := by
  simp only [Y, XOp.eff] at hy
  have hxs := ev_sound hs hx
  have hzs := ev_sound hs hz
  split at hy
  · rename_i k n k' m e1 e2
    rw [e1] at hxs
    rw [e2] at hzs
    obtain ⟨rfl, rfl⟩ := hy
    have hv := seesA_int hxs
    have hw := seesA_int hzs
    refine Step.value hs (v := .int k (if mx then (if m > n then m else n) else (if m < n then m else n))) ?_ (.d (.int _ _))
    cases mx
    · simp [execOp, ho, resolve, invoke, builtin, Builtin.min_, Builtin.min2, hv, hw]
    · simp [execOp, ho, resolve, invoke, builtin, Builtin.max_, Builtin.max2, hv, hw]
  · exact hy.elim
theorem s_lenA (hs : SimAt w0 wr F0 F E ⟨t, h⟩ a w) {x : Operand} {T el : TypeId} {n : Nat} (hT : P.underlying T = some (.array n el) ∨ ∃ T', P.underlying T = some (.pointer T') ∧ P.underlying T' = some (.array n el))
    (ho : o.op = .call { callee := .builtin .len, args := #[x], argTypes := #[T] })
    {y : AV} {u : List (Nat × Chunk)} (hy : Y P (.lenA n) nm t hm y u) : Step P w0 wr F0 o a w t h y u := by
  simp only [Y, XOp.eff] at hy
  obtain ⟨rfl, rfl⟩ := hy
  refine Step.value hs (v := .int .i64 n) ?_ (.d (.int _ _))
  rcases hT with hT | ⟨T', hT, hT'⟩
  · simp [execOp, ho, resolve, invoke, builtin, Builtin.len_, run_underlying hT, goInt]
  · simp [execOp, ho, resolve, invoke, builtin, Builtin.len_, run_underlying hT, run_underlying hT', goInt]
theorem optI_sound (hs : SimAt w0 wr F0 F E ⟨t, h⟩ a w) {lo : Option Operand} {Lo : Option Opd} (hlo : (match lo with | none => some none | some x => (cOpd x).map some) = some Lo) {df : Int} {K : Int → Prop}
    (hy : optI t Lo df K) : ∃ n, K n ∧ ((lo = none ∧ n = df) ∨ ∃ x k, lo = some x ∧ a.eval x = .int k n) := by
  cases lo with
  | none => simp only [Option.some.injEq] at hlo; subst hlo; exact ⟨df, hy, .inl ⟨rfl, rfl⟩⟩
  | some x =>
    simp only [Option.map_eq_some_iff] at hlo
    obtain ⟨X, hX, rfl⟩ := hlo
    simp only [optI] at hy
    have hxs := ev_sound hs hX
    split at hy
    · rename_i k n e
      rw [e] at hxs
      exact ⟨n, hy, .inr ⟨x, k, rfl, seesA_int hxs⟩⟩
    · exact hy.elim
def optO : Option Operand → Option (Option Opd)
  | none => some none
  | some x => (cOpd x).map some
theorem run_bounds {isS : Bool} {len cap : Nat} {lo hi : Option Operand} {x y : Int} (hy : (hi = none ∧ y = (len : Int)) ∨ ∃ z k, hi = some z ∧ a.eval z = .int k y) (hx : (lo = none ∧ x = 0) ∨ ∃ z k, lo = some z ∧ a.eval z = .int k x)
    (h0 : 0 ≤ x) (h1 : x ≤ y) (h2 : y ≤ (cap : Int)) :
    (Instr.sliceBounds isS len cap (lo.map a.eval) (hi.map a.eval) none).run P w = .ok (x.toNat, y.toNat, cap) w := by
  have hy0 : 0 ≤ y := by omega
  have e2 : ((y.toNat : Nat) : Int) = y := Int.toNat_of_nonneg hy0
  rcases hy with ⟨rfl, rfl⟩ | ⟨z, k, rfl, hz⟩ <;> rcases hx with ⟨rfl, rfl⟩ | ⟨z', k', rfl, hz'⟩
  · simp [Instr.sliceBounds]
  · simp [Instr.sliceBounds, Instr.sliceBound, hz', asIntOf, h0, h1]
  · simp [Instr.sliceBounds, Instr.sliceBound, hz, asIntOf, hy0, h2]
  · simp [Instr.sliceBounds, Instr.sliceBound, hz, hz', asIntOf, hy0, h2, h0, h1, e2]
end
end Go.X
namespace Go.X
open Go Go.RowKit
section
variable {P : Program} {w0 : World} {wr : Wr} {F0 F : Nat → Prop} {E : Env} {t : List AV} {h hm : List Chunk} {a : Act} {w w' : World} {o : Oper} {nm : Nat}
theorem laid_cut {k q sz : Nat} {l : List (List D)} {vals : Nat → Nat → Value} (hl : Laid w F k q sz l vals) (x y : Nat) :
    Laid w F k (q + x * sz) sz ((l.drop x).take y) (fun i j => vals (x + i) j) := by
  obtain ⟨c, T, fz, hc, hcc⟩ := hl.c
  have key : ∀ i r, ((l.drop x).take y)[i]? = some r → l[x + i]? = some r := by
    intro i r hi
    rw [List.getElem?_take] at hi
    split at hi
    · rwa [List.getElem?_drop] at hi
    · simp at hi
  refine ⟨⟨c, T, fz, hc, fun i r hi => ?_⟩, fun i r j z hi hj => hl.s (x + i) r j z (key i r hi) hj⟩
  obtain ⟨g1, g2⟩ := hcc (x + i) r (key i r hi)
  refine ⟨g1, fun j hj => ?_⟩
  have := g2 j hj
  rwa [show q + (x + i) * sz + j = q + x * sz + i * sz + j from by rw [Nat.add_mul]; omega] at this
theorem s_slc (hs : SimAt w0 wr F0 F E ⟨t, h⟩ a w) (hsub : Sub hm h) {x : Operand} {X : Opd} (hx : cOpd x = some X) {lo hi : Option Operand} {Lo Hi : Option Opd} (hlo : optO lo = some Lo) (hhi : optO hi = some Hi)
    {T el : TypeId} {esz : Nat} (hT : P.underlying T = some (.slice el)) (hn : tSize P el = some esz) (ho : o.op = .slice T x lo hi none)
    {y : AV} {u : List (Nat × Chunk)} (hy : Y P (.slc esz X Lo Hi) nm t hm y u) : Step P w0 wr F0 o a w t h y u := by
  simp only [Y, XOp.eff] at hy
  have hxs := ev_sound hs hx
  have run1 : ∀ (ad : Option Addr) (len cap : Nat) (m n : Int), a.eval x = .slice ad len cap → ((hi = none ∧ m = (len : Int)) ∨ ∃ z k, hi = some z ∧ a.eval z = .int k m) → ((lo = none ∧ n = 0) ∨ ∃ z k, lo = some z ∧ a.eval z = .int k n) →
      0 ≤ n → n ≤ m → m ≤ (cap : Int) → (execOp a.eval o).run P w = .ok (.value (.slice (if cap = n.toNat then ad else ad.map (·.add (n.toNat * esz))) (m.toNat - n.toNat) (cap - n.toNat))) w := by
    intro ad len cap m n hv h1 h2 g0 g1 g2
    have hb := run_bounds (P := P) (w := w) (isS := true) (len := len) (cap := cap) h1 h2 g0 g1 g2
    simp only [execOp, ho, Instr.sliceAt, Sem.run_bind, run_underlying hT, Result.andThen_ok, hv, Instr.slice, Option.map_none, hb, run_sizeOf hn, Sem.run_pure]
  split at hy
  · rename_i sz l e
    rw [e] at hxs
    obtain ⟨m, hy, hm1⟩ := optI_sound hs hhi hy
    obtain ⟨n, ⟨⟨rfl, g0, g1, g2⟩, rfl, rfl⟩, hn1⟩ := optI_sound hs hlo hy
    rcases seesA_lst hxs with ⟨ad, cap, hv, rfl⟩ | ⟨k, q, cap, vals, hv, hF, hcap, hl⟩
    · have : m = 0 := by simp at g2; omega
      subst this
      have : n = 0 := by omega
      subst this
      refine Step.value hs (run1 _ _ _ 0 0 hv (by simpa using hm1) hn1 (by omega) (by omega) (by omega)) (.d ?_)
      simp only [List.drop_nil, List.take_nil]
      exact .lnil _ _ _
    · refine Step.value hs (run1 _ _ _ m n hv hm1 hn1 g0 g1 (by omega)) (.d ?_)
      by_cases hc : cap = n.toNat
      · rw [if_pos hc]
        have e1 : m.toNat - n.toNat = 0 := by omega
        rw [e1, List.take_zero]
        exact .lnil _ _ _
      · rw [if_neg hc]
        have hlen : ((l.drop n.toNat).take (m.toNat - n.toNat)).length = m.toNat - n.toNat := by simp; omega
        have := lst_of_laid (cap := cap - n.toNat) hF (laid_cut hl n.toNat (m.toNat - n.toNat)) (by rw [hlen]; omega)
        rw [hlen] at this
        simpa [Addr.add_mid] using this
  · rename_i e
    rw [e] at hxs
    obtain ⟨m, hy, hm1⟩ := optI_sound hs hhi hy
    obtain ⟨n, ⟨⟨rfl, rfl⟩, rfl, rfl⟩, hn1⟩ := optI_sound hs hlo hy
    obtain ⟨ad, hv⟩ := seesA_emp hxs
    have := run1 _ _ _ 0 0 hv hm1 hn1 (by omega) (by omega) (by omega)
    simp only [Int.toNat_zero, if_true, Nat.sub_self] at this
    exact Step.value hs this (.d (.emp _))
  · rename_i b sz e
    rw [e] at hxs
    split at hy
    · rename_i sz' l hc
      obtain ⟨m, hy, hm1⟩ := optI_sound hs hhi hy
      obtain ⟨n, ⟨⟨rfl, g0, g1, g2⟩, hyy⟩, hn1⟩ := optI_sound hs hlo hy
      rw [subK_eq] at hyy
      obtain ⟨rfl, rfl⟩ := hyy
      have hch := hs.heap _ _ (sub_get hsub hc trivial)
      rcases seesA_row hxs with ⟨k, cap, c, T', fz, hv, hloc, hk, hlen, hroom⟩ | ⟨ad, hv, hloc, h0⟩
      · obtain ⟨_, _, _, hln, _⟩ := laid_chunk hch hloc
        rw [hln] at hv hlen
        have := run1 _ _ _ m n hv hm1 hn1 g0 g1 (by omega)
        refine Step.value hs this ?_
        by_cases hlt : n.toNat < l.length
        · rw [if_pos hlt, if_neg (by omega)]
          have := SeesA.sub (W := w) (F := F) (sz := sz) (off := n.toNat) (len := m.toNat - n.toNat) (cap := cap - n.toNat) hloc (by omega) hk (by rw [hln]; omega) (by rw [show n.toNat + (cap - n.toNat) = cap from by omega, Nat.zero_add]; exact hroom)
          simpa [Addr.add_mid] using this
        · rw [if_neg hlt, show m.toNat - n.toNat = 0 from by omega]
          exact .d (.lnil _ _ _)
      · have hl0 : l = [] := by
          cases hch with
          | empty => rfl
          | data _ h2 => rw [hloc] at h2; simp at h2
        subst hl0
        simp only [List.length_nil, Int.natCast_zero] at g2
        have e0 : m = 0 := by omega
        have e1 : n = 0 := by omega
        subst e0; subst e1
        have := run1 _ _ _ 0 0 hv (by simpa using hm1) hn1 (by omega) (by omega) (by omega)
        refine Step.value hs this ?_
        rw [if_neg (by simp)]
        exact .d (.lnil _ _ _)
    · exact hy.elim
  · rename_i b sz off q e
    rw [e] at hxs
    split at hy
    · rename_i sz' l hc
      obtain ⟨m, hy, hm1⟩ := optI_sound hs hhi hy
      obtain ⟨n, ⟨⟨rfl, g0, g1, g2⟩, hyy⟩, hn1⟩ := optI_sound hs hlo hy
      rw [subK_eq] at hyy
      obtain ⟨rfl, rfl⟩ := hyy
      have hch := hs.heap _ _ (sub_get hsub hc trivial)
      obtain ⟨k, q0, cap, c, T', fz, hv, hloc, hqc, hk, hext, hroom⟩ := seesA_sub' hxs
      obtain ⟨_, _, _, hln, _⟩ := laid_chunk hch hloc
      rw [hln] at hext
      have := run1 _ _ _ m n hv hm1 hn1 g0 g1 (by omega)
      refine Step.value hs this ?_
      by_cases hlt : off + n.toNat < l.length
      · rw [if_pos hlt, if_neg (by omega)]
        have := SeesA.sub (W := w) (F := F) (sz := sz) (off := off + n.toNat) (len := m.toNat - n.toNat) (cap := cap - n.toNat) hloc (by omega) hk (by rw [hln]; omega) (by rw [show off + n.toNat + (cap - n.toNat) = off + cap from by omega]; exact hroom)
        simpa [Addr.add_mid, Nat.add_mul, Nat.add_assoc] using this
      · rw [if_neg hlt, show m.toNat - n.toNat = 0 from by omega]
        exact .d (.lnil _ _ _)
    · exact hy.elim
  · exact hy.elim
theorem s_slc3 (hs : SimAt w0 wr F0 F E ⟨t, h⟩ a w) (hsub : Sub hm h) {x lo hi mx : Operand} {X Lo Hi Mx : Opd} (hx : cOpd x = some X) (hlo : cOpd lo = some Lo) (hhi : cOpd hi = some Hi) (hmx : cOpd mx = some Mx)
    {T el : TypeId} {esz : Nat} (hT : P.underlying T = some (.slice el)) (hn : tSize P el = some esz) (ho : o.op = .slice T x (some lo) (some hi) (some mx))
    {y : AV} {u : List (Nat × Chunk)} (hy : Y P (.slc3 esz X Lo Hi Mx) nm t hm y u) : Step P w0 wr F0 o a w t h y u := by
  simp only [Y, XOp.eff] at hy
  have hxs := ev_sound hs hx
  split at hy
  case h_2 => exact hy.elim
  rename_i b sz e
  rw [e] at hxs
  split at hy
  case h_2 => exact hy.elim
  rename_i sz' l hc
  obtain ⟨q, hy, hq1⟩ := optI_sound (lo := some mx) (df := 0) hs (by simp [hmx]) hy
  obtain ⟨m, hy, hm1⟩ := optI_sound (lo := some hi) (df := 0) hs (by simp [hhi]) hy
  obtain ⟨n, ⟨⟨rfl, g0, g1, g2, g3⟩, rfl, rfl⟩, hn1⟩ := optI_sound (lo := some lo) (df := 0) hs (by simp [hlo]) hy
  have hch := hs.heap _ _ (sub_get hsub hc trivial)
  obtain ⟨zq, kq, eq1, eq2⟩ := hq1.resolve_left (by simp)
  obtain ⟨zm, km, em1, em2⟩ := hm1.resolve_left (by simp)
  obtain ⟨zn, kn, en1, en2⟩ := hn1.resolve_left (by simp)
  simp only [Option.some.injEq] at eq1 em1 en1
  subst eq1; subst em1; subst en1
  obtain ⟨ad, len, cap, hv, hcap⟩ : ∃ ad len cap, a.eval x = .slice ad len cap ∧ (l.length : Int) ≤ (cap : Int) := by
    rcases seesA_row hxs with ⟨k, cap, c, T', fz, hv, hloc, hk, hlen, hroom⟩ | ⟨ad, hv, hloc, h0⟩
    · obtain ⟨_, _, _, hln, _⟩ := laid_chunk hch hloc
      exact ⟨_, _, _, hv, by omega⟩
    · refine ⟨_, _, _, hv, ?_⟩
      cases hch with
      | empty => simp
      | data _ h2 => rw [hloc] at h2; simp at h2
  have e1 : ((q.toNat : Nat) : Int) = q := Int.toNat_of_nonneg (by omega)
  have e2 : ((m.toNat : Nat) : Int) = m := Int.toNat_of_nonneg (by omega)
  have hb : (Instr.sliceBounds true len cap (some (a.eval lo)) (some (a.eval hi)) (some (a.eval mx))).run P w = .ok (n.toNat, m.toNat, q.toNat) w := by
    rw [eq2, em2, en2]
    simp [Instr.sliceBounds, Instr.sliceBound, asIntOf, show 0 ≤ q from by omega, show q ≤ (cap : Int) from by omega, show 0 ≤ m from by omega, g0, e1, e2, g1, g2]
  refine Step.value hs (v := .slice (if q.toNat = n.toNat then ad else ad.map (·.add (n.toNat * sz))) (m.toNat - n.toNat) (q.toNat - n.toNat)) ?_ (.dead _)
  simp only [execOp, ho, Instr.sliceAt, Sem.run_bind, run_underlying hT, Result.andThen_ok, hv, Instr.slice, Option.map_some, hb, run_sizeOf hn, Sem.run_pure]
theorem s_isNil (hs : SimAt w0 wr F0 F E ⟨t, h⟩ a w) (hsub : Sub hm h) {op : BinOp} {ng : Bool} (hop : op = if ng then .neq else .eql) {x : Operand} {X : Opd} (hx : cOpd x = some X) {T T' el : TypeId} (ho : o.op = .binOp op T x (.const (.slice none 0 0)) T')
    (hT : P.underlying T = some (.slice el)) {y : AV} {u : List (Nat × Chunk)} (hy : Y P (.isNil ng X) nm t hm y u) : Step P w0 wr F0 o a w t h y u := by
  simp only [Y, XOp.eff] at hy
  have hxs := ev_sound hs hx
  have run1 : ∀ ad n cap, a.eval x = .slice (some ad) n cap → (execOp a.eval o).run P w = .ok (.value (.bool ng)) w := by
    intro ad n cap hv
    refine run_bin ho (by simp [hv]) (by simp [hv]) ?_
    rw [hv]
    have e : (Op.equal T (.slice (some ad) n cap) (.slice none 0 0)).run P w = .ok false w := by
      unfold Op.equal Op.maxDepth
      show (Op.equalIn (9999 + 1) T (.slice (some ad) n cap) (.slice none 0 0)).run P w = _
      rw [Op.equalIn, Sem.run_bind, run_underlying hT]
      rfl
    cases ng <;> subst hop <;> simp [binOp, e, Act.eval]
  split at hy
  · rename_i sz l e
    rw [e] at hxs
    obtain ⟨hpos, rfl, rfl⟩ := hy
    rcases seesA_lst hxs with ⟨ad, cap, hv, rfl⟩ | ⟨k, q, cap, vals, hv, hF, hcap, hl⟩
    · simp at hpos
    · exact Step.value hs (run1 _ _ _ hv) (.d (.bool _))
  · rename_i b sz e
    rw [e] at hxs
    split at hy
    · rename_i sz' l hc
      obtain ⟨hpos, rfl, rfl⟩ := hy
      have hch := hs.heap _ _ (sub_get hsub hc trivial)
      rcases seesA_row hxs with ⟨k, cap, c, T', fz, hv, hloc, hk, hlen, hroom⟩ | ⟨ad, hv, hloc, h0⟩
      · exact Step.value hs (run1 _ _ _ hv) (.d (.bool _))
      · cases hch with
        | empty => simp at hpos
        | data _ h2 => rw [hloc] at h2; simp at h2
    · exact hy.elim
  · exact hy.elim
theorem s_slcS (hs : SimAt w0 wr F0 F E ⟨t, h⟩ a w) {x : Operand} {X : Opd} (hx : cOpd x = some X) {lo hi : Option Operand} {Lo Hi : Option Opd} (hlo : optO lo = some Lo) (hhi : optO hi = some Hi)
    {T : TypeId} (hT : P.underlying T = some .string) (ho : o.op = .slice T x lo hi none)
    {y : AV} {u : List (Nat × Chunk)} (hy : Y P (.slcS X Lo Hi) nm t hm y u) : Step P w0 wr F0 o a w t h y u := by
  simp only [Y, XOp.eff] at hy
  have hxs := ev_sound hs hx
  split at hy
  · rename_i s e
    rw [e] at hxs
    have hv := seesA_str hxs
    obtain ⟨m, hy, hm1⟩ := optI_sound hs hhi hy
    obtain ⟨n, ⟨⟨g0, g1, g2⟩, rfl, rfl⟩, hn1⟩ := optI_sound hs hlo hy
    have hb := run_bounds (P := P) (w := w) (isS := false) (len := s.size) (cap := s.size) hm1 hn1 g0 g1 g2
    refine Step.value hs (v := .string (s.extract n.toNat m.toNat)) ?_ (.d (.str _))
    simp [execOp, ho, Instr.sliceAt, run_underlying hT, hv, Instr.slice, hb]
  · exact hy.elim
theorem s_slcA (hs : SimAt w0 wr F0 F E ⟨t, h⟩ a w) {x : Operand} {X : Opd} (hx : cOpd x = some X) {lo hi : Option Operand} {Lo Hi : Option Opd} (hlo : optO lo = some Lo) (hhi : optO hi = some Hi)
    {T el : TypeId} {len esz : Nat} (hT : P.underlying T = some (.array len el) ∨ ∃ T', P.underlying T = some (.pointer T') ∧ P.underlying T' = some (.array len el)) (hn : tSize P el = some esz) (ho : o.op = .slice T x lo hi none)
    {y : AV} {u : List (Nat × Chunk)} (hy : Y P (.slcA len esz X Lo Hi) nm t hm y u) : Step P w0 wr F0 o a w t h y u := by
  simp only [Y, XOp.eff] at hy
  have hxs := ev_sound hs hx
  split at hy
  case h_2 => exact hy.elim
  rename_i sz l e off e1
  rw [e1] at hxs
  obtain ⟨k, q, vals, hv, hF, hl⟩ := seesA_pd hxs
  obtain ⟨m, hy, hm1⟩ := optI_sound hs hhi hy
  obtain ⟨n, ⟨⟨g0, g1, g2⟩, ls, hlen, hget, rfl, rfl⟩, hn1⟩ := optI_sound hs hlo hy
  have hb := run_bounds (P := P) (w := w) (isS := false) (len := len) (cap := len) hm1 hn1 g0 g1 g2
  have hrun : (execOp a.eval o).run P w = .ok (.value (.slice (some (if len = n.toNat then ⟨k, q + e * sz + off, none⟩ else ⟨k, q + e * sz + off + n.toNat * esz, none⟩)) (m.toNat - n.toNat) (len - n.toNat))) w := by
    rcases hT with hT | ⟨T', hT, hT'⟩
    · simp [execOp, ho, Instr.sliceAt, run_underlying hT, hv, Instr.sureAddr, hb, run_sizeOf hn, Addr.add_mid]
    · simp [execOp, ho, Instr.sliceAt, run_underlying hT, hv, Instr.slice, asAddr, run_underlying hT', hb, run_sizeOf hn, Addr.add_mid]
  refine Step.value hs hrun (.d ?_)
  have hlen' : ls.length = m.toNat - n.toNat := by omega
  by_cases hc : len = n.toNat
  · rw [if_pos hc]
    have e0 : m.toNat - n.toNat = 0 := by omega
    have : ls = [] := List.eq_nil_of_length_eq_zero (by omega)
    subst this
    rw [e0]
    exact .lnil _ _ _
  · rw [if_neg hc, ← hlen']
    obtain ⟨c, T2, fz, hk, hcc⟩ := hl.c
    refine .lst (c := c) (T := T2) (fz := fz) (fun i j => vals e (off + (n.toNat + i) * esz + j)) hF hk (by omega) (fun i r hi => ?_) (fun i r j x hi hj => ?_)
    · obtain ⟨h0, h1, h2, h3⟩ := hl.sub (hget i r hi)
      refine ⟨h0, fun j hj => ?_⟩
      obtain ⟨p1, p2⟩ := h2 j hj
      rw [cell_of_row w k _ c T2 fz hk] at p1
      refine ⟨?_, p2⟩
      rw [← p1]; congr 1
      rw [Nat.add_mul]; omega
    · obtain ⟨h0, h1, h2, h3⟩ := hl.sub (hget i r hi)
      exact h3 j x hj
end
end Go.X
namespace Go.X
open Go Go.RowKit
section
variable {P : Program} {w0 : World} {wr : Wr} {F0 F : Nat → Prop} {E : Env} {t : List AV} {h hm : List Chunk} {a : Act} {w w' : World} {o : Oper} {nm : Nat}
structure FL (W : World) (F : Nat → Prop) (sz : Nat) (vs : List Value) (l : List (List D)) : Prop where
  len : vs.length = l.length * sz
  one : ∀ v ∈ vs, v.oneCell' = true
  els : ∀ (i : Nat) (r : List D), l[i]? = some r → r.length = sz
  sees : ∀ (i : Nat) (r : List D) (j : Nat) (x : D) (v : Value), l[i]? = some r → r[j]? = some x → vs[i * sz + j]? = some v → Sees W F x v
theorem FL.nil (sz : Nat) : FL w F sz [] [] := ⟨by simp, by simp, by simp, by simp⟩
theorem bound_el {n sz i j : Nat} (hi : i < n) (hj : j < sz) : i * sz + j < n * sz := by
  have : (i + 1) * sz ≤ n * sz := Nat.mul_le_mul_right _ (by omega)
  rw [Nat.add_mul] at this; omega
theorem FL.append {sz : Nat} {vs us : List Value} {l m : List (List D)} (h1 : FL w F sz vs l) (h2 : FL w F sz us m) : FL w F sz (vs ++ us) (l ++ m) := by
  refine ⟨by rw [List.length_append, List.length_append, h1.len, h2.len, Nat.add_mul], fun v hv => (List.mem_append.1 hv).elim (h1.one v) (h2.one v), fun i r hi => ?_, fun i r j x v hi hj hv => ?_⟩
  · rw [List.getElem?_append] at hi
    split at hi
    · exact h1.els _ r hi
    · exact h2.els _ r hi
  · rw [List.getElem?_append] at hi
    split at hi
    · rename_i hlt
      have hjs : j < sz := by rw [← h1.els i r hi]; exact (List.getElem?_eq_some_iff.1 hj).1
      rw [List.getElem?_append_left (by rw [h1.len]; exact bound_el hlt hjs)] at hv
      exact h1.sees i r j x v hi hj hv
    · rename_i hlt
      have hge : l.length * sz ≤ i * sz := Nat.mul_le_mul_right _ (by omega)
      rw [List.getElem?_append_right (by rw [h1.len]; omega), h1.len] at hv
      rw [show i * sz + j - l.length * sz = (i - l.length) * sz + j from by rw [Nat.sub_mul]; omega] at hv
      exact h2.sees _ r j x v hi hj hv
theorem FL.mono {F' : Nat → Prop} {sz : Nat} {vs : List Value} {l : List (List D)} (h1 : FL w F sz vs l) (hF : ∀ k, F k → F' k) (hs : SameOn F w w') : FL w' F' sz vs l :=
  ⟨h1.len, h1.one, h1.els, fun i r j x v hi hj hv => (h1.sees i r j x v hi hj hv).mono hF hs⟩
theorem fl_of_laid {k q sz : Nat} {l : List (List D)} {vals : Nat → Nat → Value} (hl : Laid w F k q sz l vals) : ∃ vs, FL w F sz vs l ∧ ∀ (j : Nat) (v : Value), vs[j]? = some v → w.cell? ⟨k, q + j, none⟩ = some v := by
  obtain ⟨c, T, fz, hc, hcc⟩ := hl.c
  refine ⟨(List.range (l.length * sz)).map fun j => vals (j / sz) (j % sz), ⟨by simp, fun v hv => ?_, fun i r hi => (hcc i r hi).1, fun i r j x v hi hj hv => ?_⟩, fun j v hv => ?_⟩
  · simp only [List.mem_map, List.mem_range] at hv
    obtain ⟨j, hj, rfl⟩ := hv
    have hpos : 0 < sz := Nat.pos_of_ne_zero fun h0 => by rw [h0] at hj; simp at hj
    have h1 : j / sz < l.length := Nat.div_lt_of_lt_mul (by rw [Nat.mul_comm]; exact hj)
    exact ((hcc _ _ (List.getElem?_eq_getElem h1)).2 (j % sz) (Nat.mod_lt _ hpos)).2
  · have hjs : j < sz := by rw [← (hcc i r hi).1]; exact (List.getElem?_eq_some_iff.1 hj).1
    have hil := (List.getElem?_eq_some_iff.1 hi).1
    rw [List.getElem?_map, List.getElem?_range (bound_el hil hjs)] at hv
    simp only [Option.map_some, Option.some.injEq] at hv
    rw [Nat.mul_comm i, Nat.mul_add_div (by omega), Nat.div_eq_of_lt hjs, Nat.mul_add_mod, Nat.mod_eq_of_lt hjs, Nat.add_zero] at hv
    subst hv
    exact hl.s i r j x hi hj
  · rw [List.getElem?_map, Option.map_eq_some_iff] at hv
    obtain ⟨m, hm', rfl⟩ := hv
    have hj := (List.getElem?_eq_some_iff.1 hm').1
    simp at hj
    rw [List.getElem?_range hj] at hm'
    simp only [Option.some.injEq] at hm'; subst hm'
    have hpos : 0 < sz := Nat.pos_of_ne_zero fun h0 => by rw [h0] at hj; simp at hj
    have h1 : j / sz < l.length := Nat.div_lt_of_lt_mul (by rw [Nat.mul_comm]; exact hj)
    have := ((hcc _ _ (List.getElem?_eq_getElem h1)).2 (j % sz) (Nat.mod_lt _ hpos)).1
    rw [cell_of_row w k _ c T fz hc, ← this]
    congr 1
    have := Nat.div_add_mod j sz
    rw [Nat.mul_comm] at this; omega
theorem chunk_of_fl {b k sz : Nat} {vs : List Value} {l : List (List D)} {c : Array Value} {T : TypeId} (hf : FL w F sz vs l) (hloc : E.loc b = some (k, 0)) (hln : E.ln b = l.length)
    (hk : w.heap[k]? = some (.cells c T (0, 0))) (hnF : ¬ F k) (hc : ∀ (j : Nat), j < vs.length → c[j]? = vs[j]?) : ChunkAt w F E b (.data sz l) := by
  refine .data (fun i j => vs.getD (i * sz + j) undef) hloc hln hk hnF (fun i r hi => ⟨hf.els i r hi, fun j hj => ?_⟩) (fun i r j x hi hj => ?_)
  · have hil := (List.getElem?_eq_some_iff.1 hi).1
    have hlt : i * sz + j < vs.length := by rw [hf.len]; exact bound_el hil hj
    rw [Nat.zero_add, hc _ hlt, List.getD_eq_getElem?_getD, List.getElem?_eq_getElem hlt]
    exact ⟨rfl, hf.one _ (List.getElem_mem hlt)⟩
  · have hil := (List.getElem?_eq_some_iff.1 hi).1
    have hjs : j < sz := by rw [← hf.els i r hi]; exact (List.getElem?_eq_some_iff.1 hj).1
    have hlt : i * sz + j < vs.length := by rw [hf.len]; exact bound_el hil hjs
    rw [List.getD_eq_getElem?_getD, List.getElem?_eq_getElem hlt]
    exact hf.sees i r j x _ hi hj (List.getElem?_eq_getElem hlt)
theorem src_sound (hs : SimAt w0 wr F0 F E ⟨t, h⟩ a w) (hsub : Sub hm h) {z : Operand} {Z : Opd} (hz : cOpd z = some Z) {T el : TypeId} (hT : P.underlying T = some (.slice el)) {esz : Nat}
    {k : List (List D) → Prop} (hy : srcK hm esz (Z.ev t) k) : ∃ l news, k l ∧ FL w F esz news l ∧ Src P esz T (a.eval z) l.length news w := by
  have hzs := ev_sound hs hz
  have some1 : ∀ (k q cap : Nat) (l : List (List D)) (vals : Nat → Nat → Value), Laid w F k q esz l vals → a.eval z = .slice (some ⟨k, q, none⟩) l.length cap → ∃ news, FL w F esz news l ∧ Src P esz T (a.eval z) l.length news w := by
    intro k q cap l vals hl hv
    obtain ⟨vs, h1, h2⟩ := fl_of_laid hl
    refine ⟨vs, h1, ?_⟩
    rw [hv]
    exact Src.ofSlice w hT _ _ _ _ h1.len (fun j u hu => by rw [Addr.add_mid]; exact h2 j u hu) h1.one
  have none1 : ∀ (ad : Option Addr) (cap : Nat), a.eval z = .slice ad 0 cap → Src P esz T (a.eval z) 0 [] w := by
    intro ad cap hv
    rw [hv]
    cases ad with
    | none => exact Src.ofNil w hT cap
    | some b => exact Src.ofSlice w hT _ _ _ [] (by simp) (by simp) (by simp)
  unfold srcK at hy
  split at hy
  · rename_i sz l e
    rw [e] at hzs
    obtain ⟨rfl, hy⟩ := hy
    rcases seesA_lst hzs with ⟨ad, cap, hv, rfl⟩ | ⟨k, q, cap, vals, hv, _, _, hl⟩
    · exact ⟨[], [], hy, .nil _, none1 _ _ hv⟩
    · obtain ⟨vs, h1, h2⟩ := some1 _ _ _ _ _ hl hv
      exact ⟨l, vs, hy, h1, h2⟩
  · rename_i e
    rw [e] at hzs
    obtain ⟨ad, hv⟩ := seesA_emp hzs
    exact ⟨[], [], hy, .nil _, none1 _ _ hv⟩
  · rename_i b sz e
    rw [e] at hzs
    split at hy
    · rename_i sz' l hc
      obtain ⟨⟨rfl, rfl⟩, hy⟩ := hy
      have hch := hs.heap _ _ (sub_get hsub hc trivial)
      rcases seesA_row hzs with ⟨k, cap, c, T', fz, hv, hloc, _⟩ | ⟨ad, hv, hloc, h0⟩
      · obtain ⟨vals, hl, _, hln, _⟩ := laid_chunk hch hloc
        rw [hln] at hv
        obtain ⟨vs, h1, h2⟩ := some1 _ _ _ _ _ hl hv
        exact ⟨l, vs, hy, h1, h2⟩
      · cases hch with
        | empty => exact ⟨[], [], hy, .nil _, none1 _ _ hv⟩
        | data _ h2 => rw [hloc] at h2; simp at h2
    · exact hy.elim
  · rename_i b sz off m e
    rw [e] at hzs
    split at hy
    · rename_i sz' l hc
      obtain ⟨⟨rfl, rfl, hlen⟩, hy⟩ := hy
      have hch := hs.heap _ _ (sub_get hsub hc trivial)
      obtain ⟨k, q, cap, hv, hloc, hm1⟩ := seesA_sub hzs
      obtain ⟨vals, hl, _, hln, _⟩ := laid_chunk hch hloc
      have hl2 := laid_cut hl off m
      have hlen2 : ((l.drop off).take m).length = m := by simp; omega
      obtain ⟨vs, h1, h2⟩ := some1 _ _ cap _ _ hl2 (by rw [hv, hlen2])
      exact ⟨_, vs, hy, h1, h2⟩
    · exact hy.elim
  · exact hy.elim
theorem nrs_drop {b c : Nat} (nr : NRs b t h) : NRs b t (h.set c .none) :=
  ⟨nr.t, fun x hx => (mem_set_of hx).elim (fun e => by subst e; exact trivial) (nr.h x), nr.ne⟩
theorem sim_grown (hs : SimAt w0 wr F0 F E ⟨t, h⟩ a w) (nr : NRs nm t h) {sz : Nat} {vs : List Value} {l : List (List D)} (hf : FL w F sz vs l) {rest : Array Value} {T : TypeId} {n cap : Nat} (hn : n = l.length) (hcap : n ≤ cap)
    (hsz : vs.length + rest.size = cap * sz) (d : Option Nat) :
    Sim w0 wr F0 ⟨setO t d (.row nm sz), h.set nm (.data sz l)⟩ (a.put d (.slice (some ⟨w.heap.size, 0, none⟩) n cap)) (w.drew.alloc (.cells (vs.toArray ++ rest) T)) := by
  subst hn
  refine sim_new_data hs nr (w' := w.drew.alloc (.cells (vs.toArray ++ rest) T)) (c := vs.toArray ++ rest) (T := T) rfl rfl rfl rfl (sz := sz) (els := l) (fun i j => vs.getD (i * sz + j) undef) (fun i r hi => ⟨hf.els i r hi, fun j hj => ?_⟩) (fun i r j x hi hj => ?_) d ?_
  · have hil := (List.getElem?_eq_some_iff.1 hi).1
    have hlt : i * sz + j < vs.length := by rw [hf.len]; exact bound_el hil hj
    rw [Array.getElem?_append_left (by simpa using hlt), List.getD_eq_getElem?_getD, List.getElem?_eq_getElem hlt]
    exact ⟨by simp [hlt], hf.one _ (List.getElem_mem hlt)⟩
  · have hil := (List.getElem?_eq_some_iff.1 hi).1
    have hjs : j < sz := by rw [← hf.els i r hi]; exact (List.getElem?_eq_some_iff.1 hj).1
    have hlt : i * sz + j < vs.length := by rw [hf.len]; exact bound_el hil hjs
    rw [List.getD_eq_getElem?_getD, List.getElem?_eq_getElem hlt]
    exact hf.sees i r j x _ hi hj (List.getElem?_eq_getElem hlt)
  · refine row0 (c := vs.toArray ++ rest) (T := T) (fz := (0, 0)) (Env.upd_loc ..) (Env.upd_ln ..) ?_ hcap (by simp; omega)
    show (w.heap.push _)[w.heap.size]? = _
    simp
theorem mul_le_el {a i j sz : Nat} (hj : j < sz) : a * sz ≤ i * sz + j ↔ a ≤ i := by
  constructor
  · intro h1
    rcases Nat.lt_or_ge i a with h2 | h2
    · have := Nat.mul_le_mul_right sz (show i + 1 ≤ a from h2)
      rw [Nat.add_mul] at this; omega
    · exact h2
  · intro h1
    have := Nat.mul_le_mul_right sz h1
    omega
theorem getElem?_splice {α : Type} {l m : List α} {off i : Nat} (hf : off + m.length ≤ l.length) :
    (l.take off ++ (m ++ l.drop (off + m.length)))[i]? = if i < off then l[i]? else if i < off + m.length then m[i - off]? else l[i]? := by
  have h1 : (l.take off).length = off := by simp; omega
  by_cases c1 : i < off
  · rw [if_pos c1, List.getElem?_append_left (by omega), List.getElem?_take, if_pos c1]
  · rw [if_neg c1, List.getElem?_append_right (by omega), h1]
    by_cases c2 : i < off + m.length
    · rw [if_pos c2, List.getElem?_append_left (by omega)]
    · rw [if_neg c2, List.getElem?_append_right (by omega), List.getElem?_drop]
      congr 1; omega
theorem sim_splice (hs : SimAt w0 wr F0 F E ⟨t, h⟩ a w) {b sz k q off : Nat} {l m : List (List D)} (hb : h[b]? = some (.data sz l)) (hloc : E.loc b = some (k, q)) {vals : Nat → Nat → Value} (hl : Laid w F k q sz l vals) (hnF : ¬ F k) (hln : E.ln b = l.length)
    {c : Array Value} {T : TypeId} (hk : w.heap[k]? = some (.cells c T (0, 0))) {news : List Value} (hf : FL w F sz news m) (hfit : off + m.length ≤ l.length) (hroom : q + l.length * sz ≤ c.size) :
    SimAt w0 wr F0 F E ⟨t, h.set b (.data sz (l.take off ++ (m ++ l.drop (off + m.length))))⟩ a (w.setCells k (q + off * sz) news) ∧ Sizes w (w.setCells k (q + off * sz) news) := by
  obtain ⟨c', k1, k2, k3, k4, k5, k6, k7, k8⟩ := setCells_spec k news (q + off * sz) w c T hk
  refine ⟨sim_write hs hb trivial hloc hnF hk k1 k2 k4 k5 k6 k7 k8 (by simp) fun hsame hz => ?_, sizes_of hk k1 k2 k4⟩
  obtain ⟨c0, T0, fz0, hk0, hcc⟩ := hl.c
  rw [hk] at hk0; simp only [Option.some.injEq, Obj.cells.injEq] at hk0
  obtain ⟨rfl, rfl, rfl⟩ := hk0
  refine .data (vals := fun i j => if off ≤ i ∧ i < off + m.length then news.getD ((i - off) * sz + j) undef else vals i j) hloc (by rw [hln]; simp; omega) k1 hnF (fun i r hi => ?_) (fun i r j x hi hj => ?_)
  · rw [getElem?_splice hfit] at hi
    by_cases c1 : off ≤ i ∧ i < off + m.length
    · rw [if_neg (by omega), if_pos c1.2] at hi
      refine ⟨hf.els _ _ hi, fun j hj => ?_⟩
      have hlt : (i - off) * sz + j < news.length := by rw [hf.len]; exact bound_el (by omega) hj
      have hcell : i * sz + j < l.length * sz := bound_el (by omega) hj
      have e1 : i * sz = off * sz + (i - off) * sz := by rw [← Nat.add_mul]; congr 1; omega
      rw [k3, if_pos ⟨by omega, by omega, by omega⟩, if_pos c1, show q + i * sz + j - (q + off * sz) = (i - off) * sz + j from by omega, List.getD_eq_getElem?_getD, List.getElem?_eq_getElem hlt]
      exact ⟨rfl, hf.one _ (List.getElem_mem hlt)⟩
    · have hi' : l[i]? = some r := by
        by_cases c2 : i < off
        · rwa [if_pos c2] at hi
        · rwa [if_neg c2, if_neg (by omega)] at hi
      obtain ⟨g1, g2⟩ := hcc i r hi'
      refine ⟨g1, fun j hj => ?_⟩
      rw [if_neg c1, k3, if_neg]
      · exact g2 j hj
      · rintro ⟨p1, p2, _⟩
        rw [hf.len] at p2
        have q1 := (mul_le_el (a := off) (i := i) hj).1 (by omega)
        have q2 := mt (mul_le_el (a := off + m.length) (i := i) hj).2 (by rw [Nat.add_mul]; omega)
        omega
  · rw [getElem?_splice hfit] at hi
    by_cases c1 : off ≤ i ∧ i < off + m.length
    · rw [if_neg (by omega), if_pos c1.2] at hi
      have hjs : j < sz := by rw [← hf.els _ r hi]; exact (List.getElem?_eq_some_iff.1 hj).1
      have hlt : (i - off) * sz + j < news.length := by rw [hf.len]; exact bound_el (by omega) hjs
      rw [if_pos c1, List.getD_eq_getElem?_getD, List.getElem?_eq_getElem hlt]
      exact (hf.sees _ r j x _ hi hj (List.getElem?_eq_getElem hlt)).mono (fun _ h => h) hsame
    · have hi' : l[i]? = some r := by
        by_cases c2 : i < off
        · rwa [if_pos c2] at hi
        · rwa [if_neg c2, if_neg (by omega)] at hi
      rw [if_neg c1]
      exact (hl.s i r j x hi' hj).mono (fun _ h => h) hsame
theorem append_op {x z : Operand} {T : TypeId} (ho : o.op = .call { callee := .builtin .append, args := #[x, z], argTypes := #[T, T] }) {v : Value}
    (hr : (Builtin.append_ #[T, T] o.type #[a.eval x, a.eval z]).run P w = .ok v w') : (execOp a.eval o).run P w = .ok (.value v) w' := by
  simp [execOp, ho, resolve, invoke, builtin, hr]
theorem nest_name {h' : List Chunk} (hs : SimAt w0 wr F0 F E ⟨t, h'⟩ a w') (nr : NRs nm t h') {kk : Nat} {c' : Array Value} {T : TypeId} (hk : w'.heap[kk]? = some (.cells c' T (0, 0))) (hnF : ¬ F kk) (hown : w0.heap.size ≤ kk ∨ wr kk)
    (hnl : ∀ b' c o, h'[b']? = some c → c.live → E.loc b' ≠ some (kk, o)) (hni : ∀ b' i, ¬ InnAt h' E b' i kk) {isz : Nat} {rs : List (List (List D))} {v : AV} {r : List (List D)} (il : Nat → Option Nat) (vals : Nat → Value)
    (hc : ∀ j, j < rs.length + 1 → c'[j]? = some (vals j) ∧ (vals j).oneCell' = true) (hv : SeesA w' F E v (vals rs.length)) (hnrv : NR nm v)
    (hin : ∀ (j : Nat) (r' : List (List D)), rs[j]? = some r' → InRow w' F (il j) isz r' (vals j))
    (hil : ∀ j k', j < rs.length → il j = some k' → (w0.heap.size ≤ k' ∨ wr k') ∧ k' ≠ kk ∧ (∀ b' c o, h'[b']? = some c → c.live → E.loc b' ≠ some (k', o)) ∧ (∀ b' i, ¬ InnAt h' E b' i k') ∧ ∀ j', j' < rs.length → il j' = some k' → j' = j) :
    SimAt w0 wr F0 F ((E.upd nm (some (kk, 0)) (rs.length + 1)).updI nm il) ⟨t, h'.set nm (.nest isz (rs ++ [r]) (some (rs.length, v)))⟩ a w' := by
  have s1 := hs.re nr (some (kk, 0)) (rs.length + 1)
  have nn : ∀ isz rs hole, (h'.set nm .none)[nm]? ≠ some (.nest isz rs hole) := by
    intro isz rs hole e
    rw [List.getElem?_set] at e; simp only [if_true] at e; split at e
    · cases e
    · cases e
  have s2 := s1.updI il nn
  have locne : ∀ {b'}, b' ≠ nm → ((E.upd nm (some (kk, 0)) (rs.length + 1)).updI nm il).loc b' = E.loc b' := fun hne => Env.upd_loc_ne E (some (kk, 0)) (rs.length + 1) hne
  have lochere : ((E.upd nm (some (kk, 0)) (rs.length + 1)).updI nm il).loc nm = some (kk, 0) := Env.upd_loc E nm (some (kk, 0)) (rs.length + 1)
  have old : ∀ {b' i k'}, b' ≠ nm → InnAt (h'.set nm .none) ((E.upd nm (some (kk, 0)) (rs.length + 1)).updI nm il) b' i k' → InnAt h' E b' i k' := by
    rintro b' i k' hne ⟨isz', rs', hole', r', e1, e2, e3, e4⟩
    exact ⟨isz', rs', hole', r', getElem?_set_none_ne e1 hne, e2, e3, by simpa [Env.updI, hne, Env.upd] using e4⟩
  have hilnm : ∀ j, ((E.upd nm (some (kk, 0)) (rs.length + 1)).updI nm il).il nm j = il j := fun j => by simp [Env.updI]
  have hck : ChunkAt w' F ((E.upd nm (some (kk, 0)) (rs.length + 1)).updI nm il) nm (.nest isz (rs ++ [r]) (some (rs.length, v))) := by
    refine .nest vals lochere ((Env.upd_ln E nm (some (kk, 0)) (rs.length + 1)).trans (by simp)) hk hnF (fun j hj => ?_) (fun j x hx => ?_) (fun j r' hr' hh => ?_)
    · rw [Nat.zero_add]; exact hc j (by simpa using hj)
    · simp only [Option.some.injEq, Prod.mk.injEq] at hx
      obtain ⟨rfl, rfl⟩ := hx
      exact SeesA.same (E := E.upd nm (some (kk, 0)) (rs.length + 1)) (E' := (E.upd nm (some (kk, 0)) (rs.length + 1)).updI nm il) rfl rfl (hv.env _ _ hnrv)
    · have hj : j ≠ rs.length := fun e => by subst e; exact hh _ rfl
      have hj2 := (List.getElem?_eq_some_iff.1 hr').1
      simp at hj2
      rw [List.getElem?_append_left (by omega)] at hr'
      rw [hilnm]; exact hin j r' hr'
  have nest : ∀ {j k'}, NestAt ((E.upd nm (some (kk, 0)) (rs.length + 1)).updI nm il) nm (.nest isz (rs ++ [r]) (some (rs.length, v))) j k' → j < rs.length ∧ il j = some k' := by
    rintro j k' ⟨isz', rs', hole', r', e1, e2, e3, e4⟩
    simp only [Chunk.nest.injEq] at e1
    obtain ⟨rfl, rfl, rfl⟩ := e1
    have hj : j ≠ rs.length := fun e => by subst e; exact e3 _ rfl
    have hj2 := (List.getElem?_eq_some_iff.1 e2).1
    simp at hj2
    exact ⟨by omega, by rw [← hilnm]; exact e4⟩
  have s3 := s2.chunkN nm hck (fun k q e => by
    rw [lochere] at e; simp only [Option.some.injEq, Prod.mk.injEq] at e; obtain ⟨rfl, rfl⟩ := e
    refine ⟨hown, fun b' c k' o' hne hc' hl e ek => ?_, fun b' i hne hi => hni b' i (old hne hi)⟩
    subst ek
    rw [locne hne] at e
    exact hnl b' c o' (getElem?_set_none_ne hc' hne) hl e) (fun j k' hi => by
    obtain ⟨hj, hk'⟩ := nest hi
    obtain ⟨p1, p2, p3, p4, p5⟩ := hil j k' hj hk'
    refine ⟨p1, fun b' c o' hne hc' hl e => ?_, fun o e => ?_, fun b' i hne hi => p4 b' i (old hne hi), fun j' hi' => p5 j' (nest hi').1 (nest hi').2⟩
    · rw [locne hne] at e
      exact p3 b' c o' (getElem?_set_none_ne hc' hne) hl e
    · rw [lochere] at e; simp only [Option.some.injEq, Prod.mk.injEq] at e; exact p2 e.1.symm)
  rwa [List.set_set] at s3
theorem s_app (hs : SimAt w0 wr F0 F E ⟨t, h⟩ a w) (hsub : Sub hm h) (nr : NRs nm t h) {x z : Operand} {X Z : Opd} (hx : cOpd x = some X) (hz : cOpd z = some Z)
    {T el : TypeId} {i : TypeInfo} {zr : List D} (hT : P.underlying T = some (.slice el)) (hi : P.info? el = some i) (hzr : tZero P el = some zr)
    (ho : o.op = .call { callee := .builtin .append, args := #[x, z], argTypes := #[T, T] })
    {y : AV} {u : List (Nat × Chunk)} (hy : Y P (.app i.size i.bytes X Z) nm t hm y u) : Step P w0 wr F0 o a w t h y u := by
  simp only [Y, XOp.eff] at hy
  have hxs := ev_sound hs hx
  have hnx := ev_nr nr X
  obtain ⟨zv, hzv, hr, htsz⟩ := reads_zero (F := F) hzr
  have hvl := (hr w).len
  have hisz : i.size = zr.length := by simpa [tSize, hi] using htsz
  have hzi : i.zero = some zv := by
    have := hzv w
    unfold zeroValue typeInfo at this
    rw [Sem.run_bind, Sem.run_bind] at this
    change (((Result.ok P w).andThen _).andThen _) = _ at this
    rw [Result.andThen_ok] at this
    simp only [hi, Sem.run_pure, Result.andThen_ok] at this
    cases hq : i.zero with
    | none => rw [hq] at this; simp [unsupported] at this
    | some v' => rw [hq] at this; simp at this; rw [this]
  have fits : ∀ n m : Nat, m < n → n ≤ maxRow → i.bytes ≤ 4096 → Builtin.nextslicecap n m * i.bytes ≤ 281474976710656 ∧ ((n : Nat) : Int) ≤ 9223372036854775807 := by
    intro n m h1 h2 h3
    unfold maxRow at h2
    have h4 : n * i.bytes ≤ 4294967296 * 4096 := Nat.mul_le_mul (by omega) h3
    exact ⟨growslice_fits h1 (by omega), by omega⟩
  have capsz : ∀ need cap : Nat, need ≤ cap → need * i.size + (Builtin.zeroCells zv.cells (cap - need)).size = cap * i.size := by
    intro need cap hle
    rw [size_zeroCells, hvl, ← hisz, ← Nat.add_mul]; congr 1; omega
  have onto : ∀ (ad : Option Addr) (l : List (List D)) (news : List Value) (h' : List Chunk), SimAt w0 wr F0 F E ⟨t, h'⟩ a w → NRs nm t h' → a.eval x = .slice ad 0 0 → FL w F i.size news l → Src P i.size T (a.eval z) l.length news w →
      l.length ≤ maxRow → i.bytes ≤ 4096 → ∃ v w', (execOp a.eval o).run P w = .ok (.value v) w' ∧ Sim w0 wr F0 ⟨setO t o.dst (.row nm i.size), h'.set nm (.data i.size l)⟩ (a.put o.dst v) w' := by
    intro ad l news h' hs' nr' hv hf hsrc hlen hby
    by_cases h0 : l = []
    · subst h0
      have hnil : news = [] := List.eq_nil_of_length_eq_zero (by have := hf.len; simpa using this)
      subst hnil
      refine ⟨.slice ad 0 0, w, append_op ho ?_, ?_⟩
      · rw [hv]
        have hk := hsrc.kind
        have hl := hsrc.len
        have hc := hsrc.cells
        simp only [List.length_nil] at hl hc
        simp only [Builtin.append_, List.getElem?_toArray, List.getElem?_cons_zero, List.getElem?_cons_succ]
        simp [run_underlying hT, sizeOf, typeInfo, hi, hl, hc]
        cases ad <;> simp [storeCells]
      · refine ⟨F, _, (hs'.name_new (Below.refl _ _) F (fun _ h => h) (fun _ h => .inl h) nr' none 0 (by simp) (ck := .data i.size []) (.empty _ (Env.upd_loc ..) (Env.upd_ln ..)) (by simp)).put o.dst (.rowE (Env.upd_loc ..) (Env.upd_ln ..))⟩
    · have hpos : 0 < l.length := List.length_pos_iff.2 h0
      obtain ⟨f1, f2⟩ := fits l.length 0 hpos hlen hby
      have hrun := run_append_grow_src (P := P) w T T o.type el i zv hT hi hzi ad 0 0 [] (by cases ad <;> simp [Builtin.firstCells, loadCells, loadCellsFrom]) (a.eval z) l.length news hsrc (by omega) (by simpa using f2) (by simpa using f1)
      simp only [Nat.zero_add, List.nil_append] at hrun
      refine ⟨_, _, append_op ho (by rw [hv]; exact hrun), ?_⟩
      have hge := grownCap_ge w l.length 0 el
      exact sim_grown hs' nr' hf rfl hge (by rw [hf.len]; exact capsz _ _ hge) o.dst
  split at hy
  ·
    rename_i isz r v e0
    obtain ⟨b2, s2, hZ, hc2⟩ : ∃ b2 s2, Z.ev t = .row b2 s2 ∧ getC hm b2 = .nest isz [r] (some (0, v)) := by
      unfold nestOf at e0
      split at e0
      · rename_i b2 s2 eZ
        split at e0
        · rename_i isz' r' v' hc
          simp only [Option.some.injEq, Prod.mk.injEq] at e0
          obtain ⟨rfl, rfl, rfl⟩ := e0
          exact ⟨b2, s2, eZ, hc⟩
        · cases e0
      · cases e0
    have hb2 := sub_get hsub hc2 trivial
    have hzs := ev_sound hs hz
    rw [hZ] at hzs
    obtain ⟨⟨hsz1, hby⟩, hy⟩ := hy
    have hnrv : NR nm v := nr.h _ (List.mem_of_getElem? hb2) 0 v rfl
    obtain ⟨x0, hx1, hx0, hsrc⟩ : ∃ x0, x0.oneCell' = true ∧ SeesA w F E v x0 ∧ Src P i.size T (a.eval z) 1 [x0] w := by
      cases hs.heap b2 _ hb2 with
      | nest vals g1 g2 g3 g4 g5 g6 g7 =>
        have c0 := g5 0 (by simp)
        refine ⟨vals 0, c0.2, g6 0 v rfl, ?_⟩
        rcases seesA_row hzs with ⟨k, cap, c, T', fz, hv, hloc, hk, hlen, _⟩ | ⟨ad, hv, hloc, h0⟩
        · rw [hloc] at g1; simp only [Option.some.injEq, Prod.mk.injEq] at g1
          obtain ⟨rfl, rfl⟩ := g1
          rw [g2] at hv
          rw [hv]
          refine Src.ofSlice w hT _ _ _ _ (by rw [hsz1]; rfl) (fun j u hu => ?_) (fun u hu => by simp at hu; subst hu; exact c0.2)
          have hj : j = 0 := by have := (List.getElem?_eq_some_iff.1 hu).1; simp at this; omega
          subst hj
          simp only [List.getElem?_cons_zero, Option.some.injEq] at hu; subst hu
          rw [Addr.add_mid, cell_of_row w _ _ _ _ _ g3]; exact c0.1
        · rw [hloc] at g1; cases g1
    have grow : ∀ (base : Option Addr) (n cap : Nat) (olds : List Value) (h' : List Chunk) (rs : List (List (List D))) (il : Nat → Option Nat), SimAt w0 wr F0 F E ⟨t, h'⟩ a w → NRs nm t h' → a.eval x = .slice base n cap →
        (Builtin.firstCells i.size n (.slice base n cap)).run P w.drew = .ok olds.toArray w.drew → olds.length = n → rs.length = n → cap < n + 1 → n + 1 ≤ maxRow → (∀ u ∈ olds, u.oneCell' = true) →
        (∀ (j : Nat) (r' : List (List D)) (u : Value), rs[j]? = some r' → olds[j]? = some u → InRow w F (il j) isz r' u) →
        (∀ j k', j < rs.length → il j = some k' → k' < w.heap.size ∧ (w0.heap.size ≤ k' ∨ wr k') ∧ (∀ b' c o, h'[b']? = some c → c.live → E.loc b' ≠ some (k', o)) ∧ (∀ b' i, ¬ InnAt h' E b' i k') ∧ ∀ j', j' < rs.length → il j' = some k' → j' = j) →
        ∃ v' w', (execOp a.eval o).run P w = .ok (.value v') w' ∧ Sim w0 wr F0 ⟨setO t o.dst (.row nm 1), h'.set nm (.nest isz (rs ++ [r]) (some (rs.length, v)))⟩ (a.put o.dst v') w' := by
      intro base n cap olds h' rs il hs' nr' hv hold hol hrl hcap hmax hone hin hil
      obtain ⟨f1, f2⟩ := fits (n + 1) cap hcap hmax hby
      have hrun := run_append_grow_src (P := P) w T T o.type el i zv hT hi hzi base n cap olds hold (a.eval z) 1 [x0] hsrc (by omega) (by simpa using f2) f1
      refine ⟨_, _, append_op ho (by rw [hv]; exact hrun), ?_⟩
      have hge := grownCap_ge w (n + 1) cap el
      generalize hrest : Builtin.zeroCells zv.cells (grownCap w (n + 1) cap el - (n + 1)) = rest at *
      have hw' : Below w.heap.size w (w.drew.alloc (.cells ((olds ++ [x0]).toArray ++ rest) el)) := below_push w _ _ rfl rfl rfl rfl
      have hs2 := hs'.ext hw' F (fun _ h => h) (fun _ h => .inl h)
      have hvals : ∀ j, j < rs.length + 1 → ((olds ++ [x0]).toArray ++ rest)[j]? = some ((olds ++ [x0]).getD j undef) ∧ ((olds ++ [x0]).getD j undef).oneCell' = true := by
        intro j hj
        have hlt : j < (olds ++ [x0]).length := by simp; omega
        rw [Array.getElem?_append_left (by simpa using hlt), List.getD_eq_getElem?_getD, List.getElem?_eq_getElem hlt]
        refine ⟨by simp, ?_⟩
        have := List.getElem_mem hlt
        rcases List.mem_append.1 this with h1 | h1
        · exact hone _ h1
        · simp only [List.mem_singleton] at h1; simp only [Option.getD_some]; rw [h1]; exact hx1
      have hlast : (olds ++ [x0]).getD rs.length undef = x0 := by
        rw [List.getD_eq_getElem?_getD, List.getElem?_append_right (by omega), hrl, hol]; simp
      have fresh : ∀ {b' : Nat} {c : Chunk} {q : Nat}, h'[b']? = some c → c.live → E.loc b' ≠ some (w.heap.size, q) := fun hc hl e => by
        have := (hs'.heap _ _ hc).lt hl e; omega
      have hsame : SameOn F w (w.drew.alloc (.cells ((olds ++ [x0]).toArray ++ rest) el)) := fun k hk => hw'.block k (hs'.fin k hk)
      have key := nest_name (r := r) hs2 nr' (kk := w.heap.size) (c' := (olds ++ [x0]).toArray ++ rest) (T := el) (by show (w.heap.push _)[w.heap.size]? = _; simp) (fun hk => by have := hs'.fin _ hk; omega) (.inl hs'.frame.size)
        (fun b' c q hc hl => fresh hc hl) (fun b' j hi => by have := (inn_lt hs' hi).1; omega) (isz := isz) (rs := rs) (v := v) il (fun j => (olds ++ [x0]).getD j undef) hvals
        (by rw [hlast]; exact hx0.mono (fun _ h => h) hsame (sizes_below hw')) hnrv (fun j r' hr' => by
          have hj : j < olds.length := by rw [hol, ← hrl]; exact (List.getElem?_eq_some_iff.1 hr').1
          have e1 : (olds ++ [x0]).getD j undef = olds[j] := by
            rw [List.getD_eq_getElem?_getD, List.getElem?_append_left hj, List.getElem?_eq_getElem hj]; rfl
          show InRow _ _ _ _ _ ((olds ++ [x0]).getD j undef)
          rw [e1]
          refine (hin j r' _ hr' (List.getElem?_eq_getElem hj)).mono (fun _ h => h) hsame fun k ek hnF _ => ⟨hnF, hw'.block k ?_⟩
          exact (hil j k (by omega) ek).1)
        (fun j k' hj ek => by
          obtain ⟨p0, p1, p2, p3, p4⟩ := hil j k' hj ek
          exact ⟨p1, by omega, p2, p3, p4⟩)
      refine ⟨F, _, key.put o.dst ?_⟩
      have hln : ((E.upd nm (some (w.heap.size, 0)) (rs.length + 1)).updI nm il).ln nm = rs.length + 1 := Env.upd_ln E nm (some (w.heap.size, 0)) (rs.length + 1)
      have hln := hln.trans (congrArg (· + 1) hrl)
      refine row0 (c := (olds ++ [x0]).toArray ++ rest) (T := el) (fz := (0, 0)) (Env.upd_loc E nm (some (w.heap.size, 0)) (rs.length + 1)) hln (by show (w.heap.push _)[w.heap.size]? = _; simp) hge ?_
      have hcs := capsz _ _ hge
      rw [hrest, hsz1] at hcs
      simp only [Array.size_append, List.size_toArray, List.length_append, List.length_singleton]
      omega
    have empty1 : ∀ ad, (Builtin.firstCells i.size 0 (.slice ad 0 0)).run P w.drew = .ok ([] : List Value).toArray w.drew := by
      intro ad; cases ad <;> simp [Builtin.firstCells, loadCells, loadCellsFrom]
    split at hy
    ·
      rename_i eX
      rw [eX] at hxs
      obtain ⟨rfl, rfl⟩ := hy
      obtain ⟨ad, hv⟩ := seesA_emp hxs
      obtain ⟨v', w', hrun, hsim⟩ := grow ad 0 0 [] h [] (fun _ => none) hs nr hv (empty1 ad) rfl rfl (by omega) (by unfold maxRow; omega) (by simp) (by simp) (by simp)
      unfold Step; rw [hrun]; exact hsim
    · rename_i b sz eX
      rw [eX] at hxs hnx
      have hbn : b ≠ nm := by cases hnx with | row hh => exact hh
      have main : ∀ (rs : List (List (List D))) (ck : Chunk), h[b]? = some ck → ck.live → E.ln b = rs.length → rs.length + 1 ≤ maxRow → sz = 1 →
          (∀ k, E.loc b = some (k, 0) → ∃ (c : Array Value) (T : TypeId) (vals : Nat → Value), w.heap[k]? = some (.cells c T (0, 0)) ∧ ¬ F k ∧ (∀ j, j < rs.length → c[j]? = some (vals j) ∧ (vals j).oneCell' = true) ∧
            ∀ (j : Nat) (r' : List (List D)), rs[j]? = some r' → InRow w F (E.il b j) isz r' (vals j)) →
          (∀ j k', j < rs.length → E.il b j = some k' → InnAt h E b j k') →
          Step P w0 wr F0 o a w t h (.row nm 1) [(b, .none), (nm, .nest isz (rs ++ [r]) (some (rs.length, v)))] := by
        intro rs ck hb hl hln hmax hs1 hcells hinn
        subst hs1
        have hd := hs.drop b
        have nrd := nrs_drop (c := b) nr
        have nolive : ∀ {k q}, E.loc b = some (k, q) → ∀ b' c2 q2, (h.set b .none)[b']? = some c2 → c2.live → E.loc b' ≠ some (k, q2) := by
          intro k q hloc b' c2 q2 hc2 hl2 e'
          have hne : b' ≠ b := by
            rintro rfl
            rw [List.getElem?_set] at hc2; simp only [if_true] at hc2; split at hc2
            · simp only [Option.some.injEq] at hc2; subst hc2; exact hl2
            · simp at hc2
          exact hne (hs.excl b' b c2 ck k q2 q (getElem?_set_none_ne hc2 hne) hb hl2 hl e' hloc)
        have hil : ∀ j k', j < rs.length → E.il b j = some k' → k' < w.heap.size ∧ (w0.heap.size ≤ k' ∨ wr k') ∧ (∀ b' c o, (h.set b .none)[b']? = some c → c.live → E.loc b' ≠ some (k', o)) ∧ (∀ b' i, ¬ InnAt (h.set b .none) E b' i k') ∧
            ∀ j', j' < rs.length → E.il b j' = some k' → j' = j := by
          intro j k' hj ek
          have hi := hinn j k' hj ek
          obtain ⟨p1, p2, p3⟩ := hs.inn b j k' hi
          refine ⟨(inn_lt hs hi).1, p1, fun b' c' o' hc' hl' e => ?_, fun b' i hi' => ?_, fun j' hj' ek' => (p3 b j' (hinn j' k' hj' ek')).2⟩
          · have hne : b' ≠ b := by
              rintro rfl
              rw [List.getElem?_set] at hc'; simp only [if_true] at hc'; split at hc'
              · simp only [Option.some.injEq] at hc'; subst hc'; exact hl'
              · simp at hc'
            exact p2 b' c' o' (getElem?_set_none_ne hc' hne) hl' e
          · rcases innAt_set hi' with ⟨_, _, _, _, _, e1, _⟩ | ⟨n1, hi'⟩
            · cases e1
            · exact n1 (p3 b' i hi').1
        rcases seesA_row hxs with ⟨k, cap, c, T', fz, hv, hloc, hk, hlc, hroom⟩ | ⟨ad, hv, hloc, h0⟩
        · obtain ⟨c2, T2, vals, hk2, hnF, hcc, hin⟩ := hcells k hloc
          rw [hk] at hk2; simp only [Option.some.injEq, Obj.cells.injEq] at hk2
          obtain ⟨rfl, rfl, rfl⟩ := hk2
          rw [hln] at hv hlc
          by_cases hrm : rs.length + 1 ≤ cap
          ·
            have hrun := run_append_room_src (P := P) w T T o.type el i hT hi k 0 rs.length cap (a.eval z) 1 [x0] hsrc hrm (fun j hj => by
              rw [cell_of_row w k _ c T' _ hk]
              simp only [List.length_singleton] at hj
              rw [hsz1]
              rw [Array.getElem?_eq_getElem (by omega)]; rfl) (fun j hj => by simp [World.frozen?, hk])
            obtain ⟨c', k1, k2, k3, k4, k5, k6, k7, k8⟩ := setCells_spec k [x0] (0 + rs.length * i.size) w c T' hk
            unfold Step
            rw [append_op ho (by rw [hv]; exact hrun)]
            have hz := sizes_of hk k1 k2 k4
            have hown := hs.own b _ k 0 hb hl hloc
            have noinn : ∀ b' j, ¬ InnAt h E b' j k := fun b' j hi => (hs.inn b' j k hi).2.1 b _ 0 hb hl hloc
            have g1 := hd.other (k := k) hz hnF hown (nolive hloc) (fun b' j hi => noinn b' j (innAt_drop hi)) k6 k7 k8 (by omega) (fun j _ hj => k4 j hj)
            have hsame : SameOn F w (w.setCells k (0 + rs.length * i.size) [x0]) := fun j hj => k4 j fun ej => hnF (ej ▸ hj)
            have hpl : 0 + rs.length * i.size = rs.length := by rw [hsz1]; omega
            have key := nest_name (r := r) g1 nrd k1 hnF hown (nolive hloc) (fun b' j hi => noinn b' j (innAt_drop hi)) (isz := isz) (rs := rs) (v := v) (E.il b) (fun j => if j = rs.length then x0 else vals j)
              (fun j hj => by
                rw [k3, hpl]
                by_cases ej : j = rs.length
                · subst ej
                  rw [if_pos (by simp; omega), if_pos rfl, Nat.sub_self]
                  exact ⟨rfl, hx1⟩
                · rw [if_neg (by simp; omega), if_neg ej]; exact hcc j (by omega))
              (by rw [if_pos rfl]; exact hx0.mono (fun _ h => h) hsame hz) hnrv (fun j r' hr' => by
                have hj := (List.getElem?_eq_some_iff.1 hr').1
                rw [if_neg (by omega)]
                refine (hin j r' hr').mono (fun _ h => h) hsame fun k' ek hnF' _ => ⟨hnF', k4 k' ?_⟩
                rintro rfl
                exact noinn b j (hinn j k' hj ek))
              (fun j k' hj ek => by
                obtain ⟨p0, p1, p2, p3, p4⟩ := hil j k' hj ek
                refine ⟨p1, ?_, p2, p3, p4⟩
                rintro rfl
                exact noinn b j (hinn j k' hj ek))
            refine ⟨F, _, key.put o.dst ?_⟩
            have hln2 : ((E.upd nm (some (k, 0)) (rs.length + 1)).updI nm (E.il b)).ln nm = rs.length + 1 := Env.upd_ln E nm (some (k, 0)) (rs.length + 1)
            exact row0 (c := c') (T := T') (fz := (0, 0)) (Env.upd_loc E nm (some (k, 0)) (rs.length + 1)) hln2 k1 hrm (by rw [k2]; exact hroom)
          · obtain ⟨v', w', hrun, hsim⟩ := grow (some ⟨k, 0, none⟩) rs.length cap ((List.range rs.length).map vals) (h.set b .none) rs (E.il b) hd nrd hv (by
                refine run_firstCells_some (P := P) w.drew i.size rs.length ⟨k, 0, none⟩ rs.length cap ((List.range rs.length).map vals) (by rw [hsz1]; simp) (fun j u hu => ?_)
                rw [Addr.add_mid, Nat.zero_add]
                have hj : j < rs.length := by simpa using (List.getElem?_eq_some_iff.1 hu).1
                simp only [List.getElem?_map, List.getElem?_range hj, Option.map_some, Option.some.injEq] at hu
                subst hu
                show w.cell? ⟨k, j, none⟩ = _
                rw [cell_of_row w k _ c T' _ hk]; exact (hcc j hj).1) (by simp) rfl (by omega) hmax
              (fun u hu => by
                obtain ⟨j, hj, rfl⟩ := List.mem_map.1 hu
                exact (hcc j (by simpa using hj)).2)
              (fun j r' u hr' hu => by
                have hj := (List.getElem?_eq_some_iff.1 hr').1
                simp only [List.getElem?_map, List.getElem?_range hj, Option.map_some, Option.some.injEq] at hu
                subst hu; exact hin j r' hr') hil
            unfold Step; rw [hrun]; exact hsim
        · have hr0 : rs = [] := List.eq_nil_of_length_eq_zero (by omega)
          subst hr0
          obtain ⟨v', w', hrun, hsim⟩ := grow ad 0 0 [] (h.set b .none) [] (fun _ => none) hd nrd hv (empty1 ad) rfl rfl (by omega) hmax (by simp) (by simp) (by simp)
          unfold Step; rw [hrun]; exact hsim
      split at hy
      · rename_i sz' hc
        obtain ⟨⟨rfl, rfl⟩, rfl, rfl⟩ := hy
        have hb := sub_get hsub hc trivial
        have hch := hs.heap _ _ hb
        refine main [] _ hb trivial ?_ (by unfold maxRow; simp) rfl (fun k hloc => ?_) (by simp)
        · cases hch with
          | empty _ _ h0 => rw [h0]; rfl
          | data _ _ hn => rw [hn]; rfl
        · obtain ⟨vals, hl, hnF, hln, c2, T2, hk2⟩ := laid_chunk hch hloc
          exact ⟨c2, T2, fun _ => undef, hk2, hnF, by simp, by simp⟩
      · rename_i isz' rs hc
        obtain ⟨⟨rfl, rfl, hmax⟩, rfl, rfl⟩ := hy
        have hb := sub_get hsub hc trivial
        have hch := hs.heap _ _ hb
        refine main rs _ hb trivial ?_ hmax rfl (fun k hloc => ?_) (fun j k' hj ek => ⟨_, _, _, _, hb, List.getElem?_eq_getElem hj, by simp, ek⟩)
        · cases hch with
          | nestE _ _ _ h0 => rw [h0]; rfl
          | nest _ _ hn => exact hn
        · cases hch with
          | nestE _ _ h1 => rw [hloc] at h1; cases h1
          | nest vals h1 g2 g3 g4 g5 g6 g7 =>
            rw [hloc] at h1; simp only [Option.some.injEq, Prod.mk.injEq] at h1
            obtain ⟨rfl, rfl⟩ := h1
            exact ⟨_, _, vals, g3, g4, fun j hj => by have := g5 j hj; rwa [Nat.zero_add] at this, fun j r' hr' => g7 j r' hr' (by simp)⟩
      · exact hy.elim
    · exact hy.elim
  · unfold appD at hy
    split at hy
    · rename_i e
      rw [e] at hxs
      obtain ⟨ad, hv⟩ := seesA_emp hxs
      obtain ⟨l, news, ⟨⟨hlen, hpos, hby⟩, rfl, rfl⟩, hf, hsrc⟩ := src_sound hs hsub hz hT hy
      obtain ⟨v, w', hrun, hsim⟩ := onto ad l news h hs nr hv hf hsrc hlen hby
      unfold Step; rw [hrun]; exact hsim
    · rename_i b sz e
      rw [e] at hxs hnx
      have hbn : b ≠ nm := by cases hnx with | row hh => exact hh
      split at hy
      case h_2 => exact hy.elim
      rename_i sz' l0 hc
      obtain ⟨⟨rfl, rfl⟩, hy⟩ := hy
      have hb := sub_get hsub hc trivial
      have hch := hs.heap _ _ hb
      obtain ⟨l, news, ⟨⟨hlen, hpos, hby⟩, rfl, rfl⟩, hf, hsrc⟩ := src_sound hs hsub hz hT hy
      rcases seesA_row hxs with ⟨k, cap, c, T', fz, hv, hloc, hk, hlc, hroom⟩ | ⟨ad, hv, hloc, h0⟩
      · obtain ⟨vals, hl, hnF, hln, c2, T2, hk2⟩ := laid_chunk hch hloc
        rw [hk] at hk2; simp only [Option.some.injEq, Obj.cells.injEq] at hk2
        obtain ⟨rfl, rfl, rfl⟩ := hk2
        rw [hln] at hv hlc
        obtain ⟨olds, ho1, ho2⟩ := fl_of_laid hl
        simp only [Nat.zero_add] at ho2
        by_cases hrm : l0.length + l.length ≤ cap
        ·
          have hfitc : l0.length * i.size + news.length ≤ c.size := by
            rw [hf.len, ← Nat.add_mul]
            exact Nat.le_trans (Nat.mul_le_mul_right _ hrm) hroom
          have hrun := run_append_room_src (P := P) w T T o.type el i hT hi k 0 l0.length cap (a.eval z) l.length news hsrc hrm (fun j hj => by
            rw [cell_of_row w k _ c T' _ hk, Array.getElem?_eq_getElem (by omega)]; rfl) (fun j hj => by simp [World.frozen?, hk])
          obtain ⟨c', k1, k2, k3, k4, k5, k6, k7, k8⟩ := setCells_spec k news (0 + l0.length * i.size) w c T' hk
          unfold Step
          rw [append_op ho (by rw [hv]; exact hrun)]
          have nolive : ∀ b' c2 q2, (h.set b .none)[b']? = some c2 → c2.live → E.loc b' ≠ some (k, q2) := by
            intro b' c2 q2 hc2 hl2 e'
            rw [List.getElem?_set] at hc2
            by_cases eb : b = b'
            · subst eb; simp only [if_true] at hc2; split at hc2
              · simp only [Option.some.injEq] at hc2; subst hc2; exact hl2
              · simp at hc2
            · simp only [eb, if_false] at hc2
              exact eb (hs.excl b b' _ c2 k 0 q2 hb hc2 trivial hl2 hloc e')
          have hz := sizes_of hk k1 k2 k4
          have hown := hs.own b _ k 0 hb trivial hloc
          have noinn : ∀ b' j, ¬ InnAt h E b' j k := fun b' j hi => (hs.inn b' j k hi).2.1 b _ 0 hb trivial hloc
          have g1 := (hs.drop b).other (k := k) hz hnF hown nolive (fun b' j hi => noinn b' j (innAt_drop hi)) k6 k7 k8 (by omega) (fun j _ hj => k4 j hj)
          have hsame : SameOn F w _ := fun j hj => k4 j fun ej => hnF (ej ▸ hj)
          have g2 := g1.re (nrs_drop nr) (some (k, 0)) (l0.length + l.length)
          have hck : ChunkAt (w.setCells k (0 + l0.length * i.size) news) F (E.upd nm (some (k, 0)) (l0.length + l.length)) nm (.data i.size (l0 ++ l)) := by
            refine chunk_of_fl ((ho1.append hf).mono (fun _ h => h) hsame) (Env.upd_loc ..) (by rw [Env.upd_ln]; simp) k1 hnF (fun j hj => ?_)
            rw [k3, Nat.zero_add]
            rw [List.length_append, ho1.len] at hj
            by_cases c1 : l0.length * i.size ≤ j
            · rw [if_pos (by omega), List.getElem?_append_right (by rw [ho1.len]; exact c1), ho1.len]
            · rw [if_neg (by omega)]
              have hlt : j < olds.length := by rw [ho1.len]; omega
              rw [List.getElem?_append_left hlt, List.getElem?_eq_getElem hlt]
              have := ho2 j _ (List.getElem?_eq_getElem hlt)
              rwa [cell_of_row w k _ c T' _ hk] at this
          have g3 := g2.chunk nm hck (by simp) (fun k' q' e' => by
            rw [Env.upd_loc] at e'; simp only [Option.some.injEq, Prod.mk.injEq] at e'; obtain ⟨rfl, rfl⟩ := e'
            refine ⟨hown, fun b' c2 k2' q2 hne hc2 hl2 e2 ek => ?_, fun b' j hne hi => noinn b' j (innAt_drop (innAt_drop hi))⟩
            subst ek
            rw [Env.upd_loc_ne _ _ _ hne] at e2
            exact nolive b' c2 q2 (getElem?_set_none_ne hc2 hne) hl2 e2)
          rw [List.set_set] at g3
          refine ⟨F, _, g3.put o.dst ?_⟩
          exact row0 (c := c') (T := T') (fz := (0, 0)) (Env.upd_loc ..) (Env.upd_ln ..) k1 hrm (by rw [k2]; exact hroom)
        · obtain ⟨f1, f2⟩ := fits (l0.length + l.length) cap (by omega) hlen hby
          have hrun := run_append_grow_src (P := P) w T T o.type el i zv hT hi hzi (some ⟨k, 0, none⟩) l0.length cap olds (by
            have := run_firstCells_some (P := P) w.drew i.size l0.length ⟨k, 0, none⟩ l0.length cap olds ho1.len (fun j v hj => by rw [Addr.add_mid, Nat.zero_add]; exact ho2 j v hj)
            exact this) (a.eval z) l.length news hsrc (by omega) (by simpa using f2) f1
          unfold Step
          rw [append_op ho (by rw [hv]; exact hrun)]
          have hge := grownCap_ge w (l0.length + l.length) cap el
          exact sim_grown (hs.drop b) (nrs_drop nr) (ho1.append hf) (by simp) hge (by rw [List.length_append, ho1.len, hf.len, ← Nat.add_mul]; exact capsz _ _ hge) o.dst
      · cases hch with
        | empty =>
          obtain ⟨v, w', hrun, hsim⟩ := onto ad l news (h.set b .none) (hs.drop b) (nrs_drop nr) hv hf hsrc (by simpa using hlen) hby
          unfold Step; rw [hrun]; exact hsim
        | data _ h2 => rw [hloc] at h2; simp at h2
    · rename_i b sz off m e
      rw [e] at hxs
      split at hy
      case h_2 => exact hy.elim
      rename_i sz' l0 hc
      obtain ⟨⟨rfl, rfl, rfl⟩, hy⟩ := hy
      have hb := sub_get hsub hc trivial
      obtain ⟨l, news, ⟨⟨hlen, hby⟩, rfl, rfl⟩, hf, hsrc⟩ := src_sound hs hsub hz hT hy
      obtain ⟨k, q, cap, c, T', fz, hv, hloc, hqc, hk, hext, hroom⟩ := seesA_sub' hxs
      obtain ⟨vals, hl, hnF, hln, c2, T2, hk2⟩ := laid_chunk (hs.heap _ _ hb) hloc
      rw [hk] at hk2; simp only [Option.some.injEq, Obj.cells.injEq] at hk2
      obtain ⟨rfl, rfl, rfl⟩ := hk2
      rw [hln] at hext
      simp only [Nat.zero_mul, Nat.add_zero, Nat.zero_add] at hv hext hroom
      have hr1 : q + l0.length * i.size ≤ c.size := Nat.le_trans (Nat.add_le_add_left (Nat.mul_le_mul_right _ hext) _) hroom
      have hin : q + m * i.size + news.length ≤ c.size := by
        rw [hf.len, Nat.add_assoc, ← Nat.add_mul]
        exact Nat.le_trans (Nat.add_le_add_left (Nat.mul_le_mul_right _ hlen) _) hr1
      have hrun := run_append_room_src (P := P) w T T o.type el i hT hi k q m cap (a.eval z) l.length news hsrc (by omega) (fun j hj => by
        rw [cell_of_row w k _ c T' _ hk, Array.getElem?_eq_getElem (by omega)]; rfl) (fun j hj => by simp [World.frozen?, hk])
      obtain ⟨hsim, hz⟩ := sim_splice hs hb hloc hl hnF hln hk (off := m) hf hlen hr1
      unfold Step
      rw [append_op ho (by rw [hv]; exact hrun)]
      refine ⟨F, _, hsim.put o.dst ?_⟩
      obtain ⟨c', T2, fz2, k1, k2⟩ := hz _ _ _ _ hk
      have := SeesA.sub (W := w.setCells k (q + m * i.size) news) (F := F) (sz := i.size) (off := 0) (len := m + l.length) (cap := cap) hloc (by omega) k1 (by rw [hln]; omega) (by rw [k2, Nat.zero_add]; exact hroom)
      simpa using this
    · exact hy.elim
theorem tup0 : SeesA w F E (.tup []) (.tuple #[]) := .tup rfl (by simp)
theorem s_clr (hs : SimAt w0 wr F0 F E ⟨t, h⟩ a w) (hsub : Sub hm h) {x : Operand} {X : Opd} (hx : cOpd x = some X)
    {T el : TypeId} {zr : List D} (hT : P.underlying T = some (.slice el)) (hzr : tZero P el = some zr)
    (ho : o.op = .call { callee := .builtin .clear, args := #[x], argTypes := #[T] })
    {y : AV} {u : List (Nat × Chunk)} (hy : Y P (.clr zr X) nm t hm y u) : Step P w0 wr F0 o a w t h y u := by
  simp only [Y, XOp.eff] at hy
  have hxs := ev_sound hs hx
  obtain ⟨zv, hzv, hr, htsz⟩ := reads_zero (F := F) hzr
  have hvl := (hr w).len
  have clear_op : ∀ w', (Builtin.clear_ #[T] o.type #[a.eval x]).run P w = .ok (.tuple #[]) w' → (execOp a.eval o).run P w = .ok (.value (.tuple #[])) w' := fun w' hr => by
    simp [execOp, ho, resolve, invoke, builtin, hr]
  split at hy
  · rename_i sz l e
    rw [e] at hxs
    obtain ⟨rfl, rfl, rfl⟩ := hy
    rcases seesA_lst hxs with ⟨ad, cap, hv, _⟩ | ⟨k, q, cap, vals, hv, hF, hcap, hl⟩
    all_goals
      unfold Step
      rw [clear_op w (by rw [hv]; first | (cases ad <;> simp [Builtin.clear_, run_underlying hT]) | simp [Builtin.clear_, run_underlying hT])]
      exact ⟨F, E, hs.put o.dst tup0⟩
  · rename_i b sz off m e
    rw [e] at hxs
    split at hy
    case h_2 => exact hy.elim
    rename_i sz' l hc
    obtain ⟨⟨rfl, rfl, hpos, hlen⟩, rfl, rfl⟩ := hy
    have hb := sub_get hsub hc trivial
    obtain ⟨k, q, cap, c, T', fz, hv, hloc, hqc, hk, hext, hroom⟩ := seesA_sub' hxs
    obtain ⟨vals, hl, hnF, hln, c2, T2, hk2⟩ := laid_chunk (hs.heap _ _ hb) hloc
    rw [hk] at hk2; simp only [Option.some.injEq, Obj.cells.injEq] at hk2
    obtain ⟨rfl, rfl, rfl⟩ := hk2
    rw [hln] at hext
    have hr1 : q + l.length * zr.length ≤ c.size := Nat.le_trans (Nat.add_le_add_left (Nat.mul_le_mul_right _ hext) _) hroom
    have hzl : (Builtin.zeroCells zv.cells m).size = m * zr.length := by rw [size_zeroCells, hvl]
    have hzc : ∀ i j, i < m → j < zr.length → (Builtin.zeroCells zv.cells m)[i * zr.length + j]? = some (zv.cells.getD j undef) := by
      intro i j hi hj
      have hlt : j < zv.cells.size := by omega
      have hb1 := bound_el hi hj
      unfold Builtin.zeroCells
      rw [Array.getElem?_map, Array.getElem?_range, hvl, if_pos hb1]
      simp only [Option.map_some, Option.some.injEq]
      rw [Nat.mul_comm, Nat.mul_add_mod, Nat.mod_eq_of_lt hj, getElem!_pos zv.cells _ hlt, ← Array.getElem_eq_getD (h := hlt)]
    have split1 : ∀ p, p < m * zr.length → ∃ i j, i < m ∧ j < zr.length ∧ p = i * zr.length + j := fun p hp => by
      have hz0 : 0 < zr.length := by
        rcases Nat.eq_zero_or_pos zr.length with h0 | h0
        · rw [h0] at hp; omega
        · exact h0
      refine ⟨p / zr.length, p % zr.length, (Nat.div_lt_iff_lt_mul hz0).2 hp, Nat.mod_lt _ hz0, ?_⟩
      have := Nat.div_add_mod p zr.length
      rw [Nat.mul_comm] at this; omega
    have hf : FL w F zr.length (Builtin.zeroCells zv.cells m).toList (List.replicate m zr) := by
      refine ⟨by simp [hzl], fun v hv => ?_, fun i r hi => (replicate_some hi).2 ▸ rfl, fun i r j x v hi hj hv => ?_⟩
      · obtain ⟨p, hp, rfl⟩ := List.mem_iff_getElem.1 hv
        obtain ⟨i, j, hi, hj, rfl⟩ := split1 p (by simpa [hzl] using hp)
        have hlt : j < zv.cells.size := by omega
        have := hzc i j hi hj
        rw [Array.getElem?_eq_getElem (by rw [hzl]; exact bound_el hi hj)] at this
        simp only [Option.some.injEq] at this
        rw [Array.getElem_toList, this, ← Array.getElem_eq_getD (h := hlt)]
        exact (hr w).one j _ (Array.getElem?_eq_getElem hlt)
      · obtain ⟨hi2, rfl⟩ := replicate_some hi
        have hj' := (List.getElem?_eq_some_iff.1 hj).1
        have hlt : j < zv.cells.size := by omega
        rw [Array.getElem?_toList, hzc i j hi2 hj'] at hv
        simp only [Option.some.injEq] at hv; subst hv
        rw [← Array.getElem_eq_getD (h := hlt)]
        exact (hr w).sees j x _ hj (Array.getElem?_eq_getElem hlt)
    have hml : (List.replicate m zr).length = m := by simp
    have hin : q + off * zr.length + (Builtin.zeroCells zv.cells m).toList.length ≤ c.size := by
      rw [show (Builtin.zeroCells zv.cells m).toList.length = m * zr.length from by simpa using hzl, Nat.add_assoc, ← Nat.add_mul]
      exact Nat.le_trans (Nat.add_le_add_left (Nat.mul_le_mul_right _ hlen) _) hr1
    have hst := run_storeCells_cells (P := P) k (q + off * zr.length) (Builtin.zeroCells zv.cells m).toList 0 w (fun j hj => by
      rw [cell_of_row w k _ c T' _ hk, Array.getElem?_eq_getElem (by omega)]; rfl) (fun j hj => by simp [World.frozen?, hk]) hf.one
    obtain ⟨hsim, hz⟩ := sim_splice hs hb hloc hl hnF hln hk (off := off) hf (by rw [hml]; exact hlen) hr1
    rw [hml] at hsim
    unfold Step
    rw [clear_op (w.setCells k (q + off * zr.length) (Builtin.zeroCells zv.cells m).toList) (by
      rw [hv]
      obtain ⟨m', rfl⟩ : ∃ m', m = m' + 1 := ⟨m - 1, by omega⟩
      simp only [Nat.add_zero] at hst
      simp only [Builtin.clear_, List.getElem?_toArray, List.getElem?_cons_zero, Sem.run_bind, run_underlying hT, Result.andThen_ok, hzv, hst, Sem.run_pure])]
    exact ⟨F, E, hsim.put o.dst tup0⟩
  · exact hy.elim
end
end Go.X
