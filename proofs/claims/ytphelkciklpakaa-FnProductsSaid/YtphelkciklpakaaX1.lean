import Derived.Below
import Derived.Calls
import Derived.Orders
import Derived.Still
import Derived.Deep.MidRow
import Derived.Laws.AppendOwn
set_option linter.all false
namespace Go.X
open Go Go.RowKit
inductive D where
  | int (k : IntKind) (n : Int)
  | bool (b : Bool)
  | str (s : ByteArray)
  | agg (cs : List D)
  | lst (sz : Nat) (l : List (List D))
  | emp
  | pd (sz : Nat) (l : List (List D)) (e off : Nat)
  | fn (f : FuncId) (first cap : List D)
  | nilp
  | nilfn
  | undef
  | ownA (sz : Nat) (l : List (List D))
  deriving Inhabited
inductive AV where
  | d (x : D)
  | ptr (b sz e off : Nat)
  | row (b sz : Nat)
  | sub (b sz off len : Nat)
  | fn (f : FuncId) (first cap : List AV)
  | mix (cs : List AV)
  | tup (vs : List AV)
  | dead
  deriving Inhabited
inductive Chunk where
  | none
  | data (sz : Nat) (els : List (List D))
  | mix (cs : List AV)
  | nest (isz : Nat) (rs : List (List (List D))) (hole : Option (Nat × AV))
  deriving Inhabited
structure St where
  t : List AV
  h : List Chunk
inductive Sees (W : World) (F : Nat → Prop) : D → Value → Prop
  | int (k : IntKind) (n : Int) : Sees W F (.int k n) (.int k n)
  | bool (b : Bool) : Sees W F (.bool b) (.bool b)
  | str (s : ByteArray) : Sees W F (.str s) (.string s)
  | agg {cs : List D} {vs : Array Value} (hl : vs.size = cs.length) (h1 : ∀ (i : Nat) (v : Value), vs[i]? = some v → v.oneCell' = true)
      (h : ∀ (i : Nat) (x : D) (v : Value), cs[i]? = some x → vs[i]? = some v → Sees W F x v) : Sees W F (.agg cs) (.agg vs)
  | emp (a : Option Addr) : Sees W F .emp (.slice a 0 0)
  | lnil (sz : Nat) (a : Option Addr) (cap : Nat) : Sees W F (.lst sz []) (.slice a 0 cap)
  | lst {sz : Nat} {l : List (List D)} {k off cap : Nat} {c : Array Value} {T : TypeId} {fz : Nat × Nat} (vals : Nat → Nat → Value)
      (hF : F k) (hb : W.heap[k]? = some (.cells c T fz)) (hcap : l.length ≤ cap)
      (hc : ∀ (i : Nat) (els : List D), l[i]? = some els → els.length = sz ∧ ∀ j, j < sz → c[off + i * sz + j]? = some (vals i j) ∧ (vals i j).oneCell' = true)
      (hs : ∀ (i : Nat) (els : List D) (j : Nat) (x : D), l[i]? = some els → els[j]? = some x → Sees W F x (vals i j)) :
      Sees W F (.lst sz l) (.slice (some ⟨k, off, none⟩) l.length cap)
  | pd {sz : Nat} {l : List (List D)} {k o e off : Nat} {c : Array Value} {T : TypeId} {fz : Nat × Nat} (vals : Nat → Nat → Value)
      (hF : F k) (hb : W.heap[k]? = some (.cells c T fz))
      (hc : ∀ (i : Nat) (els : List D), l[i]? = some els → els.length = sz ∧ ∀ j, j < sz → c[o + i * sz + j]? = some (vals i j) ∧ (vals i j).oneCell' = true)
      (hs : ∀ (i : Nat) (els : List D) (j : Nat) (x : D), l[i]? = some els → els[j]? = some x → Sees W F x (vals i j)) :
      Sees W F (.pd sz l e off) (.pointer (some ⟨k, o + e * sz + off, none⟩))
  | fn {f : FuncId} {first cap : List D} {fv cv : Array Value} (h1 : fv.size = first.length) (h2 : cv.size = cap.length)
      (h3 : ∀ (i : Nat) (x : D) (v : Value), first[i]? = some x → fv[i]? = some v → Sees W F x v)
      (h4 : ∀ (i : Nat) (x : D) (v : Value), cap[i]? = some x → cv[i]? = some v → Sees W F x v) :
      Sees W F (.fn f first cap) (.func (.func f) fv cv)
  | nilp : Sees W F .nilp (.pointer none)
  | nilfn : Sees W F .nilfn .nilFunc
  | undef : Sees W F .undef Go.undef
def SameOn (F : Nat → Prop) (W W' : World) : Prop := ∀ k, F k → W'.heap[k]? = W.heap[k]?
theorem Sees.mono {W W' : World} {F F' : Nat → Prop} (hF : ∀ k, F k → F' k) (hs : SameOn F W W') {x : D} {v : Value}
    (h : Sees W F x v) : Sees W' F' x v := by
  induction h with
  | int k n => exact .int k n
  | bool b => exact .bool b
  | str s => exact .str s
  | agg hl h1 _ ih => exact .agg hl h1 ih
  | emp a => exact .emp a
  | lnil sz a cap => exact .lnil sz a cap
  | lst vals hk hb hcap hc _ ih => exact .lst vals (hF _ hk) (by rw [hs _ hk]; exact hb) hcap hc ih
  | pd vals hk hb hc _ ih => exact .pd vals (hF _ hk) (by rw [hs _ hk]; exact hb) hc ih
  | fn h1 h2 _ _ ih3 ih4 => exact .fn h1 h2 ih3 ih4
  | nilp => exact .nilp
  | nilfn => exact .nilfn
  | undef => exact .undef
inductive Flat : D → Prop
  | int (k : IntKind) (n : Int) : Flat (.int k n)
  | bool (b : Bool) : Flat (.bool b)
  | str (s : ByteArray) : Flat (.str s)
  | agg {cs : List D} (h : ∀ x ∈ cs, Flat x) : Flat (.agg cs)
  | emp : Flat .emp
  | lnil (sz : Nat) : Flat (.lst sz [])
  | nilp : Flat .nilp
  | nilfn : Flat .nilfn
  | undef : Flat .undef
theorem Sees.flat {W W' : World} {F F' : Nat → Prop} {x : D} {v : Value} (h : Sees W F x v) (hf : Flat x) : Sees W' F' x v := by
  induction h with
  | int k n => exact .int k n
  | bool b => exact .bool b
  | str s => exact .str s
  | agg hl h1 _ ih => cases hf with | agg h => exact .agg hl h1 fun i x v hx hv => ih i x v hx hv (h x (List.mem_of_getElem? hx))
  | emp a => exact .emp a
  | lnil sz a cap => exact .lnil sz a cap
  | lst vals hk hb hcap hc _ ih => cases hf; exact .lnil _ _ _
  | pd vals hk hb hc _ ih => cases hf
  | fn h1 h2 _ _ ih3 ih4 => cases hf
  | nilp => exact .nilp
  | nilfn => exact .nilfn
  | undef => exact .undef
structure Env where
  loc : Nat → Option (Nat × Nat)
  ln : Nat → Nat
  il : Nat → Nat → Option Nat
inductive SeesA (W : World) (F : Nat → Prop) (E : Env) : AV → Value → Prop
  | d {x : D} {v : Value} (h : Sees W F x v) : SeesA W F E (.d x) v
  | ptr {b sz e off k o : Nat} (h : E.loc b = some (k, o)) : SeesA W F E (.ptr b sz e off) (.pointer (some ⟨k, o + e * sz + off, none⟩))
  | row {b sz k cap : Nat} {c : Array Value} {T : TypeId} {fz : Nat × Nat} (h : E.loc b = some (k, 0)) (hb : W.heap[k]? = some (.cells c T fz))
      (hlen : E.ln b ≤ cap) (hroom : cap * sz ≤ c.size) : SeesA W F E (.row b sz) (.slice (some ⟨k, 0, none⟩) (E.ln b) cap)
  | rowE {b sz : Nat} {a : Option Addr} (h : E.loc b = none) (h0 : E.ln b = 0) : SeesA W F E (.row b sz) (.slice a 0 0)
  | sub {b sz off len k o cap : Nat} {c : Array Value} {T : TypeId} {fz : Nat × Nat} (h : E.loc b = some (k, o)) (hlen : len ≤ cap) (hb : W.heap[k]? = some (.cells c T fz))
      (hext : E.ln b ≤ off + cap) (hroom : o + (off + cap) * sz ≤ c.size) :
      SeesA W F E (.sub b sz off len) (.slice (some ⟨k, o + off * sz, none⟩) len cap)
  | fn {f : FuncId} {first cap : List AV} {fv cv : Array Value} (h1 : fv.size = first.length) (h2 : cv.size = cap.length)
      (h3 : ∀ (i : Nat) (x : AV) (v : Value), first[i]? = some x → fv[i]? = some v → SeesA W F E x v)
      (h4 : ∀ (i : Nat) (x : AV) (v : Value), cap[i]? = some x → cv[i]? = some v → SeesA W F E x v) :
      SeesA W F E (.fn f first cap) (.func (.func f) fv cv)
  | mix {cs : List AV} {vs : Array Value} (hl : vs.size = cs.length) (h1 : ∀ (i : Nat) (v : Value), vs[i]? = some v → v.oneCell' = true)
      (h : ∀ (i : Nat) (x : AV) (v : Value), cs[i]? = some x → vs[i]? = some v → SeesA W F E x v) : SeesA W F E (.mix cs) (.agg vs)
  | tup {cs : List AV} {vs : Array Value} (hl : vs.size = cs.length)
      (h : ∀ (i : Nat) (x : AV) (v : Value), cs[i]? = some x → vs[i]? = some v → SeesA W F E x v) : SeesA W F E (.tup cs) (.tuple vs)
  | dead (v : Value) : SeesA W F E .dead v
def Sizes (W W' : World) : Prop := ∀ (k : Nat) (c : Array Value) (T : TypeId) (fz : Nat × Nat), W.heap[k]? = some (.cells c T fz) →
  ∃ (c' : Array Value) (T' : TypeId) (fz' : Nat × Nat), W'.heap[k]? = some (.cells c' T' fz') ∧ c'.size = c.size
theorem Sizes.refl (W : World) : Sizes W W := fun _ c T fz h => ⟨c, T, fz, h, rfl⟩
theorem Sizes.trans {A B C : World} (h : Sizes A B) (g : Sizes B C) : Sizes A C := fun k c T fz hk =>
  let ⟨c', T', fz', h1, h2⟩ := h k c T fz hk
  let ⟨c'', T'', fz'', h3, h4⟩ := g k c' T' fz' h1
  ⟨c'', T'', fz'', h3, h4.trans h2⟩
theorem SeesA.mono {W W' : World} {F F' : Nat → Prop} {E : Env} (hF : ∀ k, F k → F' k) (hs : SameOn F W W') (hz : Sizes W W') {x : AV} {v : Value}
    (h : SeesA W F E x v) : SeesA W' F' E x v := by
  induction h with
  | d h => exact .d (h.mono hF hs)
  | ptr h => exact .ptr h
  | row h hb hlen hroom =>
    obtain ⟨c', T', fz', h1, h2⟩ := hz _ _ _ _ hb
    exact .row h h1 hlen (by rw [h2]; exact hroom)
  | rowE h h0 => exact .rowE h h0
  | sub h hlen hb hext hroom =>
    obtain ⟨c', T', fz', h1, h2⟩ := hz _ _ _ _ hb
    exact .sub h hlen h1 hext (by rw [h2]; exact hroom)
  | fn h1 h2 _ _ ih3 ih4 => exact .fn h1 h2 ih3 ih4
  | mix hl h1 _ ih => exact .mix hl h1 ih
  | tup hl _ ih => exact .tup hl ih
  | dead v => exact .dead v
inductive InRow (W : World) (F : Nat → Prop) (ob : Option Nat) (sz : Nat) (r : List (List D)) (v : Value) : Prop
  | nil (a : Option Addr) (h : ob = none) (h0 : r = []) (hv : v = .slice a 0 0)
  | row {k cap : Nat} {c : Array Value} {T : TypeId} (vals : Nat → Nat → Value) (h : ob = some k) (hb : W.heap[k]? = some (.cells c T (0, 0))) (hF : ¬ F k) (hcap : r.length ≤ cap) (hroom : cap * sz ≤ c.size)
      (hv : v = .slice (some ⟨k, 0, none⟩) r.length cap)
      (hc : ∀ (i : Nat) (l : List D), r[i]? = some l → l.length = sz ∧ ∀ j, j < sz → c[i * sz + j]? = some (vals i j) ∧ (vals i j).oneCell' = true)
      (hs : ∀ (i : Nat) (l : List D) (j : Nat) (x : D), r[i]? = some l → l[j]? = some x → Sees W F x (vals i j))
inductive ChunkAt (W : World) (F : Nat → Prop) (E : Env) (b : Nat) : Chunk → Prop
  | none : ChunkAt W F E b .none
  | empty (sz : Nat) (h : E.loc b = none) (h0 : E.ln b = 0) : ChunkAt W F E b (.data sz [])
  | data {sz : Nat} {els : List (List D)} {k o : Nat} {c : Array Value} {T : TypeId} (vals : Nat → Nat → Value) (h : E.loc b = some (k, o))
      (hn : E.ln b = els.length) (hb : W.heap[k]? = some (.cells c T (0, 0))) (hF : ¬ F k)
      (hc : ∀ (i : Nat) (l : List D), els[i]? = some l → l.length = sz ∧ ∀ j, j < sz → c[o + i * sz + j]? = some (vals i j) ∧ (vals i j).oneCell' = true)
      (hs : ∀ (i : Nat) (l : List D) (j : Nat) (x : D), els[i]? = some l → l[j]? = some x → Sees W F x (vals i j)) : ChunkAt W F E b (.data sz els)
  | mix {cs : List AV} {k o : Nat} {c : Array Value} {T : TypeId} (vals : Nat → Value) (h : E.loc b = some (k, o))
      (hb : W.heap[k]? = some (.cells c T (0, 0))) (hF : ¬ F k)
      (hc : ∀ j, j < cs.length → c[o + j]? = some (vals j) ∧ (vals j).oneCell' = true)
      (hs : ∀ (j : Nat) (x : AV), cs[j]? = some x → SeesA W F E x (vals j)) : ChunkAt W F E b (.mix cs)
  | nestE (isz : Nat) (hole : Option (Nat × AV)) (h : E.loc b = none) (h0 : E.ln b = 0) : ChunkAt W F E b (.nest isz [] hole)
  | nest {isz : Nat} {rs : List (List (List D))} {hole : Option (Nat × AV)} {k o : Nat} {c : Array Value} {T : TypeId} (vals : Nat → Value) (h : E.loc b = some (k, o)) (hn : E.ln b = rs.length)
      (hb : W.heap[k]? = some (.cells c T (0, 0))) (hF : ¬ F k)
      (hc : ∀ j, j < rs.length → c[o + j]? = some (vals j) ∧ (vals j).oneCell' = true)
      (ho : ∀ (j : Nat) (x : AV), hole = some (j, x) → SeesA W F E x (vals j))
      (hi : ∀ (j : Nat) (r : List (List D)), rs[j]? = some r → (∀ x, hole ≠ some (j, x)) → InRow W F (E.il b j) isz r (vals j)) : ChunkAt W F E b (.nest isz rs hole)
def InnAt (h : List Chunk) (E : Env) (b i k : Nat) : Prop := ∃ isz rs hole r, h[b]? = some (Chunk.nest isz rs hole) ∧ rs[i]? = some r ∧ (∀ x, hole ≠ some (i, x)) ∧ E.il b i = some k
structure Wr where
  p : Nat → Prop
  q : Nat
  one : Prop
instance : CoeFun Wr (fun _ => Nat → Prop) := ⟨Wr.p⟩
structure Fr (wr : Wr) (w w' : World) : Prop where
  os : w'.os = w.os
  tape : w'.tape = w.tape
  output : w'.output = w.output
  size : w.heap.size ≤ w'.heap.size
  block : ∀ k, k < w.heap.size → ¬ wr k → w'.heap[k]? = w.heap[k]?
  sizes : Sizes w w'
theorem Fr.refl (wr : Wr) (w : World) : Fr wr w w := ⟨rfl, rfl, rfl, Nat.le_refl _, fun _ _ _ => rfl, Sizes.refl w⟩
def Chunk.live : Chunk → Prop
  | .none => False
  | _ => True
def PinAt (wr : Wr) (E : Env) : Prop := (∀ k q, E.loc 0 = some (k, q) → wr k ∧ q = wr.q) ∧ (wr.one → ∀ k, wr k → E.loc 0 = some (k, wr.q))
theorem PinAt.eq {wr : Wr} {E E' : Env} (h : PinAt wr E) (e : E'.loc 0 = E.loc 0) : PinAt wr E' := by unfold PinAt at h ⊢; rw [e]; exact h
structure SimAt (w0 : World) (wr : Wr) (F0 : Nat → Prop) (F : Nat → Prop) (E : Env) (st : St) (a : Act) (w : World) : Prop where
  len : a.tmps.size = st.t.length
  tmps : ∀ (i : Nat) (x : AV) (v : Value), st.t[i]? = some x → a.tmps[i]? = some v → SeesA w F E x v
  heap : ∀ (b : Nat) (c : Chunk), st.h[b]? = some c → ChunkAt w F E b c
  excl : ∀ (b b' : Nat) (c c' : Chunk) (k o o' : Nat), st.h[b]? = some c → st.h[b']? = some c' → c.live → c'.live → E.loc b = some (k, o) → E.loc b' = some (k, o') → b = b'
  own : ∀ (b : Nat) (c : Chunk) (k o : Nat), st.h[b]? = some c → c.live → E.loc b = some (k, o) → w0.heap.size ≤ k ∨ wr k
  inn : ∀ b i k, InnAt st.h E b i k → (w0.heap.size ≤ k ∨ wr k) ∧ (∀ b' c' o', st.h[b']? = some c' → c'.live → E.loc b' ≠ some (k, o')) ∧ ∀ b' i', InnAt st.h E b' i' k → b' = b ∧ i' = i
  fin : ∀ k, F k → k < w.heap.size
  orig : ∀ k, F k → F0 k ∨ w0.heap.size ≤ k
  frame : Fr wr w0 w
  defers : a.defers = []
  pin : PinAt wr E
def Sim (w0 : World) (wr : Wr) (F0 : Nat → Prop) (st : St) (a : Act) (w : World) : Prop := ∃ F E, SimAt w0 wr F0 F E st a w
end Go.X
namespace Go.X
open Go Go.RowKit
inductive Opd where
  | t (n : Nat)
  | c (x : D)
  | f (g : FuncId)
  deriving Inhabited
inductive Ar where
  | add | sub | mul | quo | rem | and | or | xor | andNot | shl | shr
  deriving DecidableEq
inductive Cm where
  | lss | leq | gtr | geq | eql | neq
  deriving DecidableEq
inductive SK where
  | int (k : IntKind)
  | bool
  | str
  deriving DecidableEq, Inhabited
inductive IsK : SK → D → Prop
  | int (k : IntKind) (n : Int) : IsK (.int k) (.int k n)
  | bool (b : Bool) : IsK .bool (.bool b)
  | str (s : ByteArray) : IsK .str (.str s)
def Conf (ks : List SK) (a : List D) : Prop := a.length = ks.length ∧ ∀ (i : Nat) (k : SK) (x : D), ks[i]? = some k → a[i]? = some x → IsK k x
inductive XOp where
  | mov (x : Opd)
  | pick (c a b : Opd)
  | alloc (z : List D)
  | box (x : Opd)
  | build (z : List D) (parts : List (Nat × Nat × Opd))
  | bslice (sz : Nat) (parts : List Opd)
  | load (g : Option Nat) (p : Opd)
  | loadS (p : Opd)
  | store (g : Option Nat) (p x : Opd)
  | nilchk (x : Opd)
  | arith (o : Ar) (x y : Opd)
  | cmp (o : Cm) (x y : Opd)
  | cmpB (ng : Bool) (x y : Opd)
  | eqa (neg : Bool) (ks : List SK) (x y : Opd)
  | not (x : Opd)
  | neg (x : Opd)
  | conv (k : IntKind) (x : Opd)
  | faddr (off : Nat) (x : Opd)
  | field (off : Nat) (g : Option Nat) (x : Opd)
  | iaddrA (len esz : Nat) (x i : Opd)
  | iaddrS (esz : Nat) (x i : Opd)
  | idx (len esz : Nat) (g : Option Nat) (x i : Opd)
  | idxS (x i : Opd)
  | slc (esz : Nat) (x : Opd) (lo hi : Option Opd)
  | slcA (len esz : Nat) (x : Opd) (lo hi : Option Opd)
  | mkrow (esz bytes : Nat) (z : List D) (n : Opd)
  | app (esz bytes : Nat) (x y : Opd)
  | len (x : Opd)
  | lenS (x : Opd)
  | mm (mx : Bool) (x z : Opd)
  | slcS (x : Opd) (lo hi : Option Opd)
  | lenA (n : Nat)
  | call (f : FuncId) (args : List Opd)
  | callM (f : FuncId) (x : Opd) (args : List Opd)
  | callV (x : Opd) (args : List Opd)
  | mkfn (f : FuncId) (first cap : List Opd)
  | extract (x : Opd) (i : Nat)
  | slc3 (esz : Nat) (x : Opd) (lo hi mx : Opd)
  | isNil (ng : Bool) (x : Opd)
  | clr (z : List D) (x : Opd)
  | b2s (x : Opd)
  | bsliceD (sz : Nat) (parts : List Opd)
  deriving Inhabited
def cellI : List D → Int
  | [.int _ n] => n
  | _ => 0
def strOf (l : List (List D)) : ByteArray := (l.map cellI).foldl (fun r n => r.push (UInt8.ofNat n.toNat)) ByteArray.empty
def BytL (l : List (List D)) : Prop := ∀ r ∈ l, ∃ n, r = [.int .u8 n]
def XOp.mk : XOp → Bool
  | .loadS _ | .alloc _ | .box _ | .bslice _ _ | .bsliceD _ _ | .mkrow _ _ _ _ | .app _ _ _ _ | .call _ _ | .callM _ _ _ | .callV _ _ => true
  | _ => false
def getL : List AV → Nat → AV
  | [], _ => .dead
  | x :: _, 0 => x
  | _ :: xs, n + 1 => getL xs n
def getC : List Chunk → Nat → Chunk
  | [], _ => .none
  | x :: _, 0 => x
  | _ :: xs, n + 1 => getC xs n
def setK : List AV → Nat → AV → (List AV → Prop) → Prop
  | [], _, _, k => k []
  | _ :: xs, 0, v, k => k (v :: xs)
  | x :: xs, n + 1, v, k => setK xs n v fun xs' => k (x :: xs')
def setCK : List Chunk → Nat → Chunk → (List Chunk → Prop) → Prop
  | [], _, _, k => k []
  | _ :: xs, 0, v, k => k (v :: xs)
  | x :: xs, n + 1, v, k => setCK xs n v fun xs' => k (x :: xs')
def updK : List (Nat × Chunk) → List Chunk → (List Chunk → Prop) → Prop
  | [], h, k => k h
  | (b, c) :: u, h, k => setCK h b c fun h' => updK u h' k
def updL : List (Nat × Chunk) → List Chunk → List Chunk
  | [], h => h
  | (b, c) :: u, h => updL u (h.set b c)
theorem setK_eq (l : List AV) (n : Nat) (v : AV) (k : List AV → Prop) : setK l n v k = k (l.set n v) := by
  induction l generalizing n k with
  | nil => rfl
  | cons x xs ih => cases n with
    | zero => rfl
    | succ n => exact ih n _
theorem setCK_eq (l : List Chunk) (n : Nat) (v : Chunk) (k : List Chunk → Prop) : setCK l n v k = k (l.set n v) := by
  induction l generalizing n k with
  | nil => rfl
  | cons x xs ih => cases n with
    | zero => rfl
    | succ n => exact ih n _
theorem updK_eq (u : List (Nat × Chunk)) (h : List Chunk) (k : List Chunk → Prop) : updK u h k = k (updL u h) := by
  induction u generalizing h with
  | nil => rfl
  | cons p u ih => obtain ⟨b, c⟩ := p; show setCK h b c _ = _; rw [setCK_eq]; exact ih _
theorem getL_eq (l : List AV) (n : Nat) : getL l n = (l[n]?).getD .dead := by
  induction l generalizing n with
  | nil => simp [getL]
  | cons x xs ih => cases n with
    | zero => simp [getL]
    | succ n => simpa [getL] using ih n
theorem getC_eq (l : List Chunk) (n : Nat) : getC l n = (l[n]?).getD .none := by
  induction l generalizing n with
  | nil => simp [getC]
  | cons x xs ih => cases n with
    | zero => simp [getC]
    | succ n => simpa [getC] using ih n
def Opd.ev (t : List AV) : Opd → AV
  | .t n => getL t n
  | .c x => .d x
  | .f g => .d (.fn g [] [])
def force (x : AV) (k : AV → Prop) : Prop :=
  match x with
  | .d y => k (.d y)
  | .ptr b sz e off => k (.ptr b sz e off)
  | .row b sz => k (.row b sz)
  | .sub b sz off len => k (.sub b sz off len)
  | .fn f a c => k (.fn f a c)
  | .mix cs => k (.mix cs)
  | .tup vs => k (.tup vs)
  | .dead => k .dead
theorem force_eq (x : AV) (k : AV → Prop) : force x k = k x := by cases x <;> rfl
def D.scalar : D → Bool
  | .agg _ => false
  | .undef => false
  | _ => true
def AV.scalar : AV → Bool
  | .d y => y.scalar
  | .ptr _ _ _ _ => true
  | .row _ _ => true
  | .sub _ _ _ _ => true
  | .fn _ _ _ => true
  | _ => false
def get2 (l : List (List D)) (e off : Nat) : Option D := (l[e]?).bind fun r => r[off]?
def cut (r : List D) (off n : Nat) : Option (List D) := if off + n ≤ r.length then some ((r.drop off).take n) else none
def sub2 (l : List (List D)) (e off n : Nat) : Option (List D) := (l[e]?).bind fun r => cut r off n
def splice (r : List D) (off : Nat) (cs : List D) : List D := r.take off ++ (cs ++ r.drop (off + cs.length))
def nestD (isz : Nat) (rs : List (List (List D))) : List (List D) := rs.map fun r => [.lst isz r]
def toDK (h : List Chunk) (x : AV) (k : D → Prop) : Prop :=
  match x with
  | .d y => k y
  | .ptr b sz e off => match getC h b with
    | .data sz' l => sz' = sz ∧ k (.pd sz l e off)
    | _ => False
  | .row b sz => match getC h b with
    | .data sz' l => sz' = sz ∧ k (.lst sz l)
    | .nest isz rs none => sz = 1 ∧ k (.lst 1 (nestD isz rs))
    | _ => False
  | .sub b sz off len => match getC h b with
    | .data sz' l => (sz' = sz ∧ off + len ≤ l.length) ∧ k (.lst sz ((l.drop off).take len))
    | _ => False
  | _ => False
def toDsK (h : List Chunk) : List AV → (List D → Prop) → Prop
  | [], k => k []
  | x :: xs, k => toDK h x fun y => toDsK h xs fun ys => k (y :: ys)
def toAK (h : List Chunk) (x : AV) (k : D → Prop) : Prop :=
  match x with
  | .fn f a c => toDsK h a fun a' => toDsK h c fun c' => k (.fn f a' c')
  | x => toDK h x k
def toAsK (h : List Chunk) : List AV → (List D → Prop) → Prop
  | [], k => k []
  | x :: xs, k => toAK h x fun y => toAsK h xs fun ys => k (y :: ys)
def allD : List AV → Bool
  | [] => true
  | x :: xs => match x with
    | .d _ => allD xs
    | _ => false
inductive Res where
  | val (x : D)
  | own (sz : Nat) (l : List (List D))
  | ownN (isz : Nat) (rs : List (List (List D)))
  | ownB (sz : Nat) (l : List (List D))
  | tup (vs : List D)
  | tupO (sz : Nat) (l : List (List D)) (before after : List D)
  | post (p : Option (List (List D))) (r : Res)
  | postB (sz : Nat) (l l' : List (List D)) (r : Res)
  | postN (isz : Nat) (rs : List (List (List D))) (x : D)
abbrev Eff := AV → List (Nat × Chunk) → Prop
def rd (h : List Chunk) (p : AV) (kd : List (List D) → Nat → Nat → Prop) (km : List AV → Nat → Prop) : Prop :=
  match p with
  | .d (.pd _ l e off) => kd l e off
  | .ptr b sz e off => match getC h b with
    | .data sz' l => sz' = sz ∧ kd l e off
    | .mix cs => e = 0 ∧ km cs off
    | _ => False
  | _ => False
inductive wrapK (k : IntKind) (n : Int) (K : Int → Prop) : Prop
  | mk (h : K (k.wrap n)) : wrapK k n K
theorem wrapK_eq (k : IntKind) (n : Int) : wrapK k n = fun K => K (k.wrap n) := funext fun _ => propext ⟨fun h => by cases h; assumption, .mk⟩
def Ar.intD (o : Ar) (k : IntKind) (x y : Int) (K : Int → Prop) : Prop :=
  match o with
  | .add => K (k.wrap (x + y))
  | .sub => K (k.wrap (x - y))
  | .mul => K (k.wrap (x * y))
  | .quo => y ≠ 0 ∧ K (k.wrap (x.tdiv y))
  | .rem => y ≠ 0 ∧ K (x.tmod y)
  | .and => K (k.wrap (BitVec.ofInt k.bits x &&& BitVec.ofInt k.bits y).toNat)
  | .or => K (k.wrap (BitVec.ofInt k.bits x ||| BitVec.ofInt k.bits y).toNat)
  | .xor => K (k.wrap (BitVec.ofInt k.bits x ^^^ BitVec.ofInt k.bits y).toNat)
  | .andNot => K (k.wrap (BitVec.ofInt k.bits x &&& ~~~ BitVec.ofInt k.bits y).toNat)
  | .shl => 0 ≤ y ∧ K (k.wrap (x * 2 ^ (min y.toNat k.bits)))
  | .shr => 0 ≤ y ∧ K (x.fdiv (2 ^ (min y.toNat k.bits)))
inductive Ar.int (o : Ar) (k : IntKind) (x y : Int) (K : Int → Prop) : Prop
  | mk (h : o.intD k x y K) : Ar.int o k x y K
theorem Ar.int_eq (o : Ar) (k : IntKind) (x y : Int) : o.int k x y = o.intD k x y := funext fun _ => propext ⟨fun h => by cases h; assumption, .mk⟩
def Cm.int (o : Cm) (x y : Int) : Bool :=
  match o with
  | .lss => decide (x < y)
  | .leq => decide (x ≤ y)
  | .gtr => decide (x > y)
  | .geq => decide (x ≥ y)
  | .eql => x == y
  | .neq => x != y
def optI (t : List AV) (o : Option Opd) (dflt : Int) (k : Int → Prop) : Prop :=
  match o with
  | none => k dflt
  | some x => match x.ev t with
    | .d (.int _ n) => k n
    | _ => False
def partK (t : List AV) : List (Nat × Nat × Opd) → List D → (List D → Prop) → Prop
  | [], cs, k => k cs
  | (off, n, x) :: r, cs, k => match x.ev t with
    | .d (.agg ys) => (ys.length = n ∧ off + n ≤ cs.length) ∧ partK t r (splice cs off ys) k
    | .d y => (n = 1 ∧ off < cs.length ∧ y.scalar = true) ∧ partK t r (cs.set off y) k
    | _ => False
def elemsK (t : List AV) (sz : Nat) : List Opd → (List (List D) → Prop) → Prop
  | [], k => k []
  | x :: r, k => match x.ev t with
    | .d (.agg ys) => ys.length = sz ∧ elemsK t sz r fun l => k (ys :: l)
    | .d y => (sz = 1 ∧ y.scalar = true) ∧ elemsK t sz r fun l => k ([y] :: l)
    | _ => False
def mapEv (t : List AV) : List Opd → List AV
  | [] => []
  | x :: r => x.ev t :: mapEv t r
def single (t : List AV) : List Opd → Option (Nat × AV)
  | [x] => match x.ev t with
    | .row b isz => some (isz, .row b isz)
    | _ => none
  | _ => none
def nestOf (h : List Chunk) (y : AV) : Option (Nat × List (List D) × AV) :=
  match y with
  | .row b _ => match getC h b with
    | .nest isz [r] (some (0, v)) => some (isz, r, v)
    | _ => none
  | _ => none
def srcK (h : List Chunk) (esz : Nat) (y : AV) (k : List (List D) → Prop) : Prop :=
  match y with
  | .d (.lst sz l) => sz = esz ∧ k l
  | .d .emp => k []
  | .row b sz => match getC h b with
    | .data sz' l => (sz' = esz ∧ sz = esz) ∧ k l
    | _ => False
  | .sub b sz off len => match getC h b with
    | .data sz' l => (sz' = esz ∧ sz = esz ∧ off + len ≤ l.length) ∧ k ((l.drop off).take len)
    | _ => False
  | _ => False
def maxRow : Nat := 2 ^ 32
variable (Can : FuncId → List D → Res → Prop)
def callK (h : List Chunk) (nm : Nat) (f : FuncId) (args : List AV) (K : Eff) : Prop :=
  toAsK h args fun as => ∃ r, Can f as r ∧
    match r with
    | .val x => (allD args = true ∨ Flat x) ∧ K (.d x) []
    | .own sz l => (allD args = true ∨ ∀ e ∈ l, ∀ x ∈ e, Flat x) ∧ K (.row nm sz) [(nm, .data sz l)]
    | .ownN isz rs => (allD args = true ∨ ∀ r ∈ rs, ∀ e ∈ r, ∀ x ∈ e, Flat x) ∧ K (.row nm 1) [(nm, .nest isz rs none)]
    | .tup vs => (allD args = true ∨ ∀ x ∈ vs, Flat x) ∧ K (.tup (vs.map .d)) []
    | .tupO sz l b a => (allD args = true ∨ ((∀ e ∈ l, ∀ x ∈ e, Flat x) ∧ ∀ x ∈ b ++ a, Flat x)) ∧ K (.tup (b.map .d ++ .row nm sz :: a.map .d)) [(nm, .data sz l)]
    | .ownB sz l => (allD args = true ∨ ∀ e ∈ l, ∀ x ∈ e, Flat x) ∧ K (.ptr nm sz 0 0) [(nm, .data sz l)]
    | .post _ _ => False
    | .postB _ _ _ _ => False
    | .postN _ _ _ => False
def postC (sz : Nat) (p : Option (List (List D))) : Chunk :=
  match p with
  | some l => .data sz l
  | none => .none
def callMK (h : List Chunk) (nm b sz : Nat) (l : List (List D)) (f : FuncId) (args : List AV) (K : Eff) : Prop :=
  allD args = true ∧ toAsK h args fun as => ∃ p r, Can f (.ownA sz l :: as) (.post p r) ∧
    match r with
    | .val x => K (.d x) [(b, postC sz p)]
    | .own sz2 l2 => K (.row nm sz2) [(b, postC sz p), (nm, .data sz2 l2)]
    | .tup vs => K (.tup (vs.map .d)) [(b, postC sz p)]
    | _ => False
def callBK (h : List Chunk) (nm b sz : Nat) (l : List (List D)) (f : FuncId) (args : List AV) (K : Eff) : Prop :=
  allD args = true ∧ toAsK h args fun as => ∃ l' r, Can f as (.postB sz l l' r) ∧
    match r with
    | .val x => K (.d x) [(b, .data sz l')]
    | .tup vs => K (.tup (vs.map .d)) [(b, .data sz l')]
    | _ => False
def callNK (h : List Chunk) (b isz : Nat) (rs : List (List (List D))) (f : FuncId) (args : List AV) (K : Eff) : Prop :=
  allD args = true ∧ toAsK h args fun as => ∃ x, Can f as (.postN isz rs x) ∧ K (.d x) [(b, .none)]
def loadSK (h : List Chunk) (nm : Nat) (p : AV) (K : Eff) : Prop :=
  match p with
  | .ptr b sz e off => match getC h b with
    | .nest isz rs none => (sz = 1 ∧ off = 0) ∧ ∃ r, rs[e]? = some r ∧ K (.row nm isz) [(b, .nest isz rs (some (e, .row nm isz))), (nm, .data isz r)]
    | _ => rd h (.ptr b sz e off) (fun l e off => ∃ x, get2 l e off = some x ∧ K (.d x) []) (fun cs o => ∃ x, cs[o]? = some x ∧ K x [])
  | p => rd h p (fun l e off => ∃ x, get2 l e off = some x ∧ K (.d x) []) (fun cs o => ∃ x, cs[o]? = some x ∧ K x [])
def appD (h : List Chunk) (nm esz bytes : Nat) (x y : AV) (K : Eff) : Prop :=
  match x with
  | .d .emp => srcK h esz y fun l => (l.length ≤ maxRow ∧ 0 < esz ∧ bytes ≤ 4096) ∧ K (.row nm esz) [(nm, .data esz l)]
  | .row b sz => match getC h b with
    | .data sz' l0 => (sz' = esz ∧ sz = esz) ∧ srcK h esz y fun l => (l0.length + l.length ≤ maxRow ∧ 0 < esz ∧ bytes ≤ 4096) ∧ K (.row nm esz) [(b, .none), (nm, .data esz (l0 ++ l))]
    | _ => False
  | .sub b sz off m => match getC h b with
    | .data sz' l0 => (sz' = esz ∧ sz = esz ∧ off = 0) ∧ srcK h esz y fun l => (m + l.length ≤ l0.length ∧ bytes ≤ 4096) ∧ K (.sub b esz 0 (m + l.length)) [(b, .data esz (l0.take m ++ (l ++ l0.drop (m + l.length))))]
    | _ => False
  | _ => False
def subK (b sz a m n : Nat) (K : Eff) : Prop := (a < n → K (.sub b sz a m) []) ∧ (n ≤ a → K (.d (.lst sz [])) [])
theorem subK_eq (b sz a m n : Nat) (K : Eff) : subK b sz a m n K = K (if a < n then .sub b sz a m else .d (.lst sz [])) [] := by
  unfold subK
  apply propext
  by_cases h : a < n
  · rw [if_pos h]; exact ⟨fun g => g.1 h, fun g => ⟨fun _ => g, fun g' => by omega⟩⟩
  · rw [if_neg h]; exact ⟨fun g => g.2 (by omega), fun g => ⟨fun g' => absurd g' h, fun _ => g⟩⟩
def appN (h : List Chunk) (nm esz bytes : Nat) (x : AV) (isz : Nat) (r : List (List D)) (v : AV) (K : Eff) : Prop :=
  (esz = 1 ∧ bytes ≤ 4096) ∧ match x with
  | .d .emp => K (.row nm 1) [(nm, .nest isz [r] (some (0, v)))]
  | .row b sz => match getC h b with
    | .data sz' [] => (sz = 1 ∧ sz' = 1) ∧ K (.row nm 1) [(b, .none), (nm, .nest isz [r] (some (0, v)))]
    | .nest isz' rs none => (sz = 1 ∧ isz' = isz ∧ rs.length + 1 ≤ maxRow) ∧ K (.row nm 1) [(b, .none), (nm, .nest isz (rs ++ [r]) (some (rs.length, v)))]
    | _ => False
  | _ => False
def storeN (b sz e off isz : Nat) (rs : List (List (List D))) (hole : Option (Nat × AV)) (v : AV) (K : Eff) : Prop :=
  (v.scalar = true ∧ sz = 1 ∧ off = 0 ∧ e < rs.length ∧ ∀ p, hole = some p → p.1 = e) ∧ K (.d .undef) [(b, .nest isz rs (some (e, v)))]
def XOp.eff (o : XOp) (nm : Nat) (t : List AV) (h : List Chunk) (K : Eff) : Prop :=
  match o with
  | .mov x => force (x.ev t) fun v => K v []
  | .pick c a b => match c.ev t with
    | .d (.bool true) => force (a.ev t) fun v => K v []
    | .d (.bool false) => force (b.ev t) fun v => K v []
    | _ => False
  | .alloc z => K (.ptr nm z.length 0 0) [(nm, .data z.length [z])]
  | .box x => match x.ev t with
    | .d (.agg cs) => K (.ptr nm cs.length 0 0) [(nm, .data cs.length [cs])]
    | .d y => y.scalar = true ∧ K (.ptr nm 1 0 0) [(nm, .data 1 [[y]])]
    | .ptr b sz e off => K (.ptr nm 1 0 0) [(nm, .mix [.ptr b sz e off])]
    | .row b sz => K (.ptr nm 1 0 0) [(nm, .mix [.row b sz])]
    | .sub b sz off q => K (.ptr nm 1 0 0) [(nm, .mix [.sub b sz off q])]
    | .fn f a c => K (.ptr nm 1 0 0) [(nm, .mix [.fn f a c])]
    | .mix cs => K (.ptr nm cs.length 0 0) [(nm, .mix cs)]
    | _ => False
  | .build z parts => partK t parts z fun cs => K (.d (.agg cs)) []
  | .bslice sz parts => match single t parts with
    | some (isz, v) => sz = 1 ∧ K (.row nm 1) [(nm, .nest isz [[]] (some (0, v)))]
    | none => elemsK t sz parts fun l => K (.row nm sz) [(nm, .data sz l)]
  | .bsliceD sz parts => elemsK t sz parts fun l => K (.d (.lst sz l)) []
  | .load g p => match g with
    | none => rd h (p.ev t) (fun l e off => ∃ x, get2 l e off = some x ∧ K (.d x) []) (fun cs o => ∃ x, cs[o]? = some x ∧ K x [])
    | some n => rd h (p.ev t) (fun l e off => ∃ cs, sub2 l e off n = some cs ∧ K (.d (.agg cs)) [])
        (fun cs o => o + n ≤ cs.length ∧ K (.mix ((cs.drop o).take n)) [])
  | .store g p x => match p.ev t with
    | .ptr b sz e off => match getC h b with
      | .data sz' l => sz' = sz ∧ match g, x.ev t with
        | some n, .d (.agg ys) => ys.length = n ∧ ∃ r, l[e]? = some r ∧ off + n ≤ r.length ∧ K (.d .undef) [(b, .data sz (l.set e (splice r off ys)))]
        | none, .d y => y.scalar = true ∧ ∃ r, l[e]? = some r ∧ off < r.length ∧ K (.d .undef) [(b, .data sz (l.set e (r.set off y)))]
        | none, v => v.scalar = true ∧ e = 0 ∧ ∃ r, l = [r] ∧ off < r.length ∧ K (.d .undef) [(b, .mix ((r.map .d).set off v))]
        | _, _ => False
      | .mix cs => e = 0 ∧ match g, x.ev t with
        | none, v => v.scalar = true ∧ off < cs.length ∧ K (.d .undef) [(b, .mix (cs.set off v))]
        | some n, .d (.agg ys) => (ys.length = n ∧ off + n ≤ cs.length) ∧ K (.d .undef) [(b, .mix (cs.take off ++ (ys.map .d ++ cs.drop (off + n))))]
        | some n, .mix ys => (ys.length = n ∧ off + n ≤ cs.length) ∧ K (.d .undef) [(b, .mix (cs.take off ++ (ys ++ cs.drop (off + n))))]
        | _, _ => False
      | .nest isz rs hole => match g with
        | none => storeN b sz e off isz rs hole (x.ev t) K
        | some _ => False
      | .none => False
    | _ => False
  | .loadS p => loadSK h nm (p.ev t) K
  | .nilchk x => match x.ev t with
    | .d (.pd sz l e off) => K (.d (.pd sz l e off)) []
    | .d (.fn f a c) => K (.d (.fn f a c)) []
    | .ptr b sz e off => K (.ptr b sz e off) []
    | .fn f a c => K (.fn f a c) []
    | _ => False
  | .arith o x y => match x.ev t, y.ev t with
    | .d (.int k a), .d (.int k' b) => match o with
      | .shl => o.int k a b fun r => K (.d (.int k r)) []
      | .shr => o.int k a b fun r => K (.d (.int k r)) []
      | _ => k' = k ∧ o.int k a b fun r => K (.d (.int k r)) []
    | .d (.str a), .d (.str b) => match o with
      | .add => a.size + b.size ≤ maxRow ∧ K (.d (.str (a ++ b))) []
      | _ => False
    | _, _ => False
  | .cmp o x y => match x.ev t, y.ev t with
    | .d (.int k a), .d (.int k' b) => k' = k ∧ K (.d (.bool (o.int a b))) []
    | .d (.str a), .d (.str b) => match o with
      | .eql => K (.d (.bool (a.toList == b.toList))) []
      | .neq => K (.d (.bool (!(a.toList == b.toList)))) []
      | _ => False
    | _, _ => False
  | .cmpB ng x y => match x.ev t, y.ev t with
    | .d (.bool a), .d (.bool b) => K (.d (.bool (if ng then !(a == b) else a == b))) []
    | _, _ => False
  | .eqa ng ks x y => match x.ev t, y.ev t with
    | .d (.agg a), .d (.agg b) => (Conf ks a ∧ Conf ks b) ∧ ∃ r : Bool, (r = true ↔ a = b) ∧ K (.d (.bool (if ng then !r else r))) []
    | _, _ => False
  | .not x => match x.ev t with
    | .d (.bool b) => K (.d (.bool (!b))) []
    | _ => False
  | .neg x => match x.ev t with
    | .d (.int k n) => wrapK k (0 - n) fun r => K (.d (.int k r)) []
    | _ => False
  | .conv k x => match x.ev t with
    | .d (.int _ n) => wrapK k n fun r => K (.d (.int k r)) []
    | _ => False
  | .faddr off x => match x.ev t with
    | .d (.pd sz l e o) => K (.d (.pd sz l e (o + off))) []
    | .ptr b sz e o => K (.ptr b sz e (o + off)) []
    | _ => False
  | .field off g x => match x.ev t with
    | .d (.agg cs) => match g with
      | none => ∃ y, cs[off]? = some y ∧ K (.d y) []
      | some n => ∃ ys, cut cs off n = some ys ∧ K (.d (.agg ys)) []
    | .mix cs => match g with
      | none => ∃ y, cs[off]? = some y ∧ K y []
      | some n => off + n ≤ cs.length ∧ K (.mix ((cs.drop off).take n)) []
    | _ => False
  | .iaddrA q esz x i => match i.ev t with
    | .d (.int _ n) => match x.ev t with
      | .d (.pd sz l e o) => (0 ≤ n ∧ n < (q : Int)) ∧ K (.d (.pd sz l e (o + n.toNat * esz))) []
      | .ptr b sz e o => (0 ≤ n ∧ n < (q : Int)) ∧ K (.ptr b sz e (o + n.toNat * esz)) []
      | _ => False
    | _ => False
  | .iaddrS esz x i => match i.ev t with
    | .d (.int _ n) => match x.ev t with
      | .d (.lst sz l) => (sz = esz ∧ 0 ≤ n ∧ n < (l.length : Int)) ∧ K (.d (.pd sz l n.toNat 0)) []
      | .row b sz => match getC h b with
        | .data _ l => (sz = esz ∧ 0 ≤ n ∧ n < (l.length : Int)) ∧ K (.ptr b sz n.toNat 0) []
        | .nest _ rs _ => (sz = esz ∧ 0 ≤ n ∧ n < (rs.length : Int)) ∧ K (.ptr b sz n.toNat 0) []
        | _ => False
      | .sub b sz off m => (sz = esz ∧ 0 ≤ n ∧ n < (m : Int)) ∧ K (.ptr b sz (off + n.toNat) 0) []
      | _ => False
    | _ => False
  | .idx q esz g x i => match i.ev t, x.ev t with
    | .d (.int _ n), .d (.agg cs) => (0 ≤ n ∧ n < (q : Int)) ∧ match g with
      | none => ∃ y, cs[n.toNat * esz]? = some y ∧ K (.d y) []
      | some m => ∃ ys, cut cs (n.toNat * esz) m = some ys ∧ K (.d (.agg ys)) []
    | _, _ => False
  | .idxS x i => match i.ev t, x.ev t with
    | .d (.int _ n), .d (.str s) => (0 ≤ n ∧ n < (s.size : Int)) ∧ ∃ y : UInt8, s[n.toNat]? = some y ∧ K (.d (.int .u8 y.toNat)) []
    | _, _ => False
  | .slc esz x lo hi => match x.ev t with
    | .d (.lst sz l) => optI t hi l.length fun b => optI t lo 0 fun a => (sz = esz ∧ 0 ≤ a ∧ a ≤ b ∧ b ≤ (l.length : Int)) ∧ K (.d (.lst sz ((l.drop a.toNat).take (b.toNat - a.toNat)))) []
    | .d .emp => optI t hi 0 fun b => optI t lo 0 fun a => (a = 0 ∧ b = 0) ∧ K (.d .emp) []
    | .row b' sz => match getC h b' with
      | .data _ l => optI t hi l.length fun b => optI t lo 0 fun a => (sz = esz ∧ 0 ≤ a ∧ a ≤ b ∧ b ≤ (l.length : Int)) ∧ subK b' sz a.toNat (b.toNat - a.toNat) l.length K
      | _ => False
    | .sub b' sz off m => match getC h b' with
      | .data _ l => optI t hi m fun b => optI t lo 0 fun a => (sz = esz ∧ 0 ≤ a ∧ a ≤ b ∧ (off : Int) + b ≤ (l.length : Int)) ∧ subK b' sz (off + a.toNat) (b.toNat - a.toNat) l.length K
      | _ => False
    | _ => False
  | .slcS x lo hi => match x.ev t with
    | .d (.str s) => optI t hi s.size fun b => optI t lo 0 fun a => (0 ≤ a ∧ a ≤ b ∧ b ≤ (s.size : Int)) ∧ K (.d (.str (s.extract a.toNat b.toNat))) []
    | _ => False
  | .slcA q esz x lo hi => match x.ev t with
    | .d (.pd _ l e off) => optI t hi q fun b => optI t lo 0 fun a => (0 ≤ a ∧ a ≤ b ∧ b ≤ (q : Int)) ∧
        ∃ ls : List (List D), ls.length = (b - a).toNat ∧ (∀ i r, ls[i]? = some r → sub2 l e (off + (a.toNat + i) * esz) esz = some r) ∧ K (.d (.lst esz ls)) []
    | _ => False
  | .mkrow esz bytes z n => match n.ev t with
    | .d (.int k m) => (k = .i64 ∧ z.length = esz ∧ 0 < esz ∧ 0 ≤ m ∧ m ≤ maxRow ∧ bytes ≤ 4096) ∧ K (.row nm esz) [(nm, .data esz (List.replicate m.toNat z))]
    | _ => False
  | .app esz bytes x y => match nestOf h (y.ev t) with
    | some (isz, r, v) => appN h nm esz bytes (x.ev t) isz r v K
    | none => appD h nm esz bytes (x.ev t) (y.ev t) K
  | .len x => match x.ev t with
    | .d (.lst _ l) => K (.d (.int .i64 l.length)) []
    | .d .emp => K (.d (.int .i64 0)) []
    | .row b _ => match getC h b with
      | .data _ l => K (.d (.int .i64 l.length)) []
      | .nest _ rs _ => K (.d (.int .i64 rs.length)) []
      | _ => False
    | .sub _ _ _ m => K (.d (.int .i64 m)) []
    | _ => False
  | .lenS x => match x.ev t with
    | .d (.str s) => K (.d (.int .i64 s.size)) []
    | _ => False
  | .mm mx x z => match x.ev t, z.ev t with
    | .d (.int k a), .d (.int _ b) => K (.d (.int k (if mx then (if b > a then b else a) else (if b < a then b else a)))) []
    | _, _ => False
  | .lenA n => K (.d (.int .i64 n)) []
  | .call f args => callK Can h nm f (mapEv t args) K
  | .callM f x args => match x.ev t with
    | .row b sz => match getC h b with
      | .data sz' l => sz' = sz ∧ callMK Can h nm b sz l f (mapEv t args) K
      | .nest isz rs hole => (sz = 1 ∧ hole = none) ∧ callNK Can h b isz rs f (mapEv t args) K
      | _ => False
    | .ptr b sz e off => match getC h b with
      | .data sz' l => (sz' = sz ∧ e = 0 ∧ off = 0) ∧ callBK Can h nm b sz l f (mapEv t args) K
      | _ => False
    | _ => False
  | .callV x args => match x.ev t with
    | .d (.fn f a c) => callK Can h nm f (a.map .d ++ (mapEv t args ++ c.map .d)) K
    | .fn f a c => callK Can h nm f (a ++ (mapEv t args ++ c)) K
    | _ => False
  | .mkfn f a c => if allD (mapEv t a) && allD (mapEv t c) then toDsK h (mapEv t a) fun a' => toDsK h (mapEv t c) fun c' => K (.d (.fn f a' c')) []
      else K (.fn f (mapEv t a) (mapEv t c)) []
  | .extract x i => match x.ev t with
    | .tup vs => ∃ y, vs[i]? = some y ∧ K y []
    | _ => False
  | .slc3 esz x lo hi mx => match x.ev t with
    | .row b' sz => match getC h b' with
      | .data _ l => optI t (some mx) 0 fun c => optI t (some hi) 0 fun b => optI t (some lo) 0 fun a => (sz = esz ∧ 0 ≤ a ∧ a ≤ b ∧ b ≤ c ∧ c ≤ (l.length : Int)) ∧ K .dead []
      | _ => False
    | _ => False
  | .isNil ng x => match x.ev t with
    | .d (.lst _ l) => 0 < l.length ∧ K (.d (.bool ng)) []
    | .row b' _ => match getC h b' with
      | .data _ l => 0 < l.length ∧ K (.d (.bool ng)) []
      | _ => False
    | _ => False
  | .clr z x => match x.ev t with
    | .d (.lst _ l) => l = [] ∧ K (.tup []) []
    | .sub b' sz off m => match getC h b' with
      | .data sz' l => (sz' = sz ∧ sz = z.length ∧ 0 < m ∧ off + m ≤ l.length) ∧ K (.tup []) [(b', .data sz (l.take off ++ (List.replicate m z ++ l.drop (off + m))))]
      | _ => False
    | _ => False
  | .b2s x => match x.ev t with
    | .d .emp => K (.d (.str ByteArray.empty)) []
    | .d (.lst sz l) => (sz = 1 ∧ BytL l) ∧ K (.d (.str (strOf l))) []
    | .row b' _ => match getC h b' with
      | .data sz l => (sz = 1 ∧ BytL l) ∧ K (.d (.str (strOf l))) []
      | _ => False
    | _ => False
end Go.X
namespace Go.X
open Go Go.RowKit
inductive NR (b : Nat) : AV → Prop
  | d (x : D) : NR b (.d x)
  | ptr {b' sz e off : Nat} (h : b' ≠ b) : NR b (.ptr b' sz e off)
  | row {b' sz : Nat} (h : b' ≠ b) : NR b (.row b' sz)
  | sub {b' sz off len : Nat} (h : b' ≠ b) : NR b (.sub b' sz off len)
  | fn {f : FuncId} {a c : List AV} (h1 : ∀ x ∈ a, NR b x) (h2 : ∀ x ∈ c, NR b x) : NR b (.fn f a c)
  | mix {cs : List AV} (h : ∀ x ∈ cs, NR b x) : NR b (.mix cs)
  | tup {cs : List AV} (h : ∀ x ∈ cs, NR b x) : NR b (.tup cs)
  | dead : NR b .dead
def NRc (b : Nat) : Chunk → Prop
  | .mix cs => ∀ x ∈ cs, NR b x
  | .nest _ _ hole => ∀ j x, hole = some (j, x) → NR b x
  | _ => True
structure NRs (b : Nat) (t : List AV) (h : List Chunk) : Prop where
  t : ∀ x ∈ t, NR b x
  h : ∀ c ∈ h, NRc b c
  ne : b ≠ 0
def Env.upd (E : Env) (b : Nat) (pl : Option (Nat × Nat)) (n : Nat) : Env :=
  { loc := fun b' => if b' = b then pl else E.loc b', ln := fun b' => if b' = b then n else E.ln b', il := E.il }
theorem Env.upd_loc_ne (E : Env) {b b' : Nat} (pl : Option (Nat × Nat)) (n : Nat) (h : b' ≠ b) : (E.upd b pl n).loc b' = E.loc b' := by simp [Env.upd, h]
theorem Env.upd_ln_ne (E : Env) {b b' : Nat} (pl : Option (Nat × Nat)) (n : Nat) (h : b' ≠ b) : (E.upd b pl n).ln b' = E.ln b' := by simp [Env.upd, h]
theorem Env.upd_loc (E : Env) (b : Nat) (pl : Option (Nat × Nat)) (n : Nat) : (E.upd b pl n).loc b = pl := by simp [Env.upd]
theorem Env.upd_ln (E : Env) (b : Nat) (pl : Option (Nat × Nat)) (n : Nat) : (E.upd b pl n).ln b = n := by simp [Env.upd]
theorem SeesA.env {W : World} {F : Nat → Prop} {E : Env} {b : Nat} (pl : Option (Nat × Nat)) (n : Nat) {x : AV} {v : Value} (h : SeesA W F E x v) (hn : NR b x) :
    SeesA W F (E.upd b pl n) x v := by
  induction h with
  | d h => exact .d h
  | ptr h => cases hn with | ptr hb => exact .ptr (by rw [Env.upd_loc_ne _ _ _ hb]; exact h)
  | row h hb hlen hroom =>
    cases hn with
    | row hne =>
      have e := Env.upd_ln_ne E pl n hne
      rw [← e]
      exact .row (by rw [Env.upd_loc_ne _ _ _ hne]; exact h) hb (by rw [e]; exact hlen) hroom
  | rowE h h0 => cases hn with | row hne => exact .rowE (by rw [Env.upd_loc_ne _ _ _ hne]; exact h) (by rw [Env.upd_ln_ne _ _ _ hne]; exact h0)
  | sub h hlen hb hext hroom => cases hn with | sub hne => exact .sub (by rw [Env.upd_loc_ne _ _ _ hne]; exact h) hlen hb (by rw [Env.upd_ln_ne _ _ _ hne]; exact hext) hroom
  | fn h1 h2 _ _ ih3 ih4 =>
    cases hn with
    | fn g1 g2 => exact .fn h1 h2 (fun i x v hx hv => ih3 i x v hx hv (g1 x (List.mem_of_getElem? hx))) (fun i x v hx hv => ih4 i x v hx hv (g2 x (List.mem_of_getElem? hx)))
  | mix hl h1 _ ih => cases hn with | mix g => exact .mix hl h1 fun i x v hx hv => ih i x v hx hv (g x (List.mem_of_getElem? hx))
  | tup hl _ ih => cases hn with | tup g => exact .tup hl fun i x v hx hv => ih i x v hx hv (g x (List.mem_of_getElem? hx))
  | dead v => exact .dead v
theorem ChunkAt.env {W : World} {F : Nat → Prop} {E : Env} {b b' : Nat} (pl : Option (Nat × Nat)) (n : Nat) {c : Chunk} (hne : b' ≠ b) (h : ChunkAt W F E b' c) (hn : NRc b c) :
    ChunkAt W F (E.upd b pl n) b' c := by
  cases h with
  | none => exact .none
  | empty sz h h0 => exact .empty sz (by rw [Env.upd_loc_ne _ _ _ hne]; exact h) (by rw [Env.upd_ln_ne _ _ _ hne]; exact h0)
  | data vals h hn' hb hF hc hs => exact .data vals (by rw [Env.upd_loc_ne _ _ _ hne]; exact h) (by rw [Env.upd_ln_ne _ _ _ hne]; exact hn') hb hF hc hs
  | mix vals h hb hF hc hs => exact .mix vals (by rw [Env.upd_loc_ne _ _ _ hne]; exact h) hb hF hc fun j x hx => (hs j x hx).env pl n (hn x (List.mem_of_getElem? hx))
  | nestE isz hole h h0 => exact .nestE isz hole (by rw [Env.upd_loc_ne _ _ _ hne]; exact h) (by rw [Env.upd_ln_ne _ _ _ hne]; exact h0)
  | nest vals h hn' hb hF hc ho hi => exact .nest vals (by rw [Env.upd_loc_ne _ _ _ hne]; exact h) (by rw [Env.upd_ln_ne _ _ _ hne]; exact hn') hb hF hc (fun j x hx => (ho j x hx).env pl n (hn j x hx)) hi
theorem InRow.mono {W W' : World} {F F' : Nat → Prop} {ob : Option Nat} {sz : Nat} {r : List (List D)} {v : Value} (hF : ∀ k, F k → F' k) (hs : SameOn F W W')
    (hk : ∀ k, ob = some k → (¬ F k) → k < W.heap.size → ¬ F' k ∧ W'.heap[k]? = W.heap[k]?) (h : InRow W F ob sz r v) : InRow W' F' ob sz r v := by
  cases h with
  | nil a h h0 hv => exact .nil a h h0 hv
  | row vals h hb hF1 hcap hroom hv hc hsee =>
    have := hk _ h hF1 (Array.getElem?_eq_some_iff.1 hb).1
    exact .row vals h (by rw [this.2]; exact hb) this.1 hcap hroom hv hc fun i l j x h1 h2 => (hsee i l j x h1 h2).mono hF hs
theorem ChunkAt.mono {W W' : World} {F F' : Nat → Prop} {E : Env} {b : Nat} {c : Chunk} (hF : ∀ k, F k → F' k) (hs : SameOn F W W') (hz : Sizes W W')
    (hk : ∀ k o, c.live → E.loc b = some (k, o) → (¬ F k) → k < W.heap.size → ¬ F' k ∧ W'.heap[k]? = W.heap[k]?)
    (hki : ∀ isz rs hole i r k, c = .nest isz rs hole → rs[i]? = some r → (∀ x, hole ≠ some (i, x)) → E.il b i = some k → (¬ F k) → k < W.heap.size → ¬ F' k ∧ W'.heap[k]? = W.heap[k]?) (h : ChunkAt W F E b c) : ChunkAt W' F' E b c := by
  cases h with
  | none => exact .none
  | empty sz h h0 => exact .empty sz h h0
  | data vals h hn hb hF1 hc hsee =>
    have := hk _ _ trivial h hF1 (Array.getElem?_eq_some_iff.1 hb).1
    exact .data vals h hn (by rw [this.2]; exact hb) this.1 hc fun i l j x h1 h2 => (hsee i l j x h1 h2).mono hF hs
  | mix vals h hb hF1 hc hsee =>
    have := hk _ _ trivial h hF1 (Array.getElem?_eq_some_iff.1 hb).1
    exact .mix vals h (by rw [this.2]; exact hb) this.1 hc fun j x h1 => (hsee j x h1).mono hF hs hz
  | nestE isz hole h h0 => exact .nestE isz hole h h0
  | nest vals h hn hb hF1 hc ho hi =>
    have := hk _ _ trivial h hF1 (Array.getElem?_eq_some_iff.1 hb).1
    exact .nest vals h hn (by rw [this.2]; exact hb) this.1 hc (fun j x h1 => (ho j x h1).mono hF hs hz) fun j r h1 h2 => (hi j r h1 h2).mono hF hs fun k e => hki _ _ _ j r k rfl h1 h2 e
theorem sizes_below {w w' : World} (h : Below w.heap.size w w') : Sizes w w' := fun k c T fz hk =>
  ⟨c, T, fz, by rw [h.block k (Array.getElem?_eq_some_iff.1 hk).1]; exact hk, rfl⟩
section
variable {w0 : World} {wr : Wr} {F0 F : Nat → Prop} {E : Env} {t : List AV} {h : List Chunk} {a : Act} {w w' : World}
def setO (t : List AV) (d : Option Nat) (y : AV) : List AV := match d with | some d => t.set d y | none => t
theorem SimAt.put (hs : SimAt w0 wr F0 F E ⟨t, h⟩ a w) (d : Option Nat) {y : AV} {v : Value} (hy : SeesA w F E y v) : SimAt w0 wr F0 F E ⟨setO t d y, h⟩ (a.put d v) w := by
  cases d with
  | none => exact hs
  | some d =>
    refine ⟨by simpa [Act.put, setO] using hs.len, ?_, hs.heap, hs.excl, hs.own, hs.inn, hs.fin, hs.orig, hs.frame, hs.defers, hs.pin⟩
    intro i x u hx hu
    simp only [setO, List.getElem?_set] at hx
    simp only [Act.put, Array.getElem?_setIfInBounds] at hu
    by_cases e : d = i
    · subst e
      have hl := hs.len
      simp only [if_true] at hx hu
      by_cases hlt : d < t.length
      · simp only [hlt, if_true, Option.some.injEq] at hx
        have : d < a.tmps.size := by rw [hl]; exact hlt
        simp only [this, if_true, Option.some.injEq] at hu
        subst hx; subst hu; exact hy
      · simp [hlt] at hx
    · simp only [e, if_false] at hx hu
      exact hs.tmps i x u hx hu
theorem SimAt.ext (hs : SimAt w0 wr F0 F E ⟨t, h⟩ a w) (hw : Below w.heap.size w w') (F' : Nat → Prop) (hF : ∀ k, F k → F' k)
    (hF' : ∀ k, F' k → F k ∨ (w.heap.size ≤ k ∧ k < w'.heap.size)) : SimAt w0 wr F0 F' E ⟨t, h⟩ a w' := by
  have hsame : SameOn F w w' := fun k hk => hw.block k (hs.fin k hk)
  have hz := sizes_below hw
  refine ⟨hs.len, fun i x v hx hv => (hs.tmps i x v hx hv).mono hF hsame hz, ?_, hs.excl, hs.own, hs.inn, ?_, ?_, ?_, hs.defers, hs.pin⟩
  · intro b c hc
    have key : ∀ k, ¬ F k → k < w.heap.size → ¬ F' k ∧ w'.heap[k]? = w.heap[k]? := fun k hnF hlt => ⟨fun hF'k => by
      rcases hF' k hF'k with h1 | h1
      · exact hnF h1
      · omega, hw.block k hlt⟩
    exact (hs.heap b c hc).mono hF hsame hz (fun k o _ _ => key k) (fun _ _ _ _ _ k _ _ _ _ => key k)
  · intro k hk
    rcases hF' k hk with h1 | h1
    · exact Nat.lt_of_lt_of_le (hs.fin k h1) hw.size
    · exact h1.2
  · intro k hk
    rcases hF' k hk with h1 | h1
    · exact hs.orig k h1
    · exact .inr (Nat.le_trans hs.frame.size h1.1)
  · exact ⟨hw.os.trans hs.frame.os, hw.tape.trans hs.frame.tape, hw.output.trans hs.frame.output, Nat.le_trans hs.frame.size hw.size,
      fun k hk hn => (hw.block k (Nat.lt_of_lt_of_le hk hs.frame.size)).trans (hs.frame.block k hk hn), hs.frame.sizes.trans hz⟩
theorem mem_set_of {α : Type} {l : List α} {n : Nat} {c x : α} (h : x ∈ l.set n c) : x = c ∨ x ∈ l := by
  rcases List.mem_or_eq_of_mem_set h with h | h
  · exact .inr h
  · exact .inl h
theorem inn_mono {E E' : Env} {h' : List Chunk} {own : Nat → Prop} (hinn : ∀ b i k, InnAt h E b i k → own k ∧ (∀ b' c' o', h[b']? = some c' → c'.live → E.loc b' ≠ some (k, o')) ∧ ∀ b' i', InnAt h E b' i' k → b' = b ∧ i' = i)
    (h1 : ∀ b i k, InnAt h' E' b i k → InnAt h E b i k) (h2 : ∀ (b' : Nat) (c' : Chunk) (k o' : Nat), h'[b']? = some c' → c'.live → E'.loc b' = some (k, o') → ∃ b'' c'' o'', h[b'']? = some c'' ∧ c''.live ∧ E.loc b'' = some (k, o'')) :
    ∀ b i k, InnAt h' E' b i k → own k ∧ (∀ b' c' o', h'[b']? = some c' → c'.live → E'.loc b' ≠ some (k, o')) ∧ ∀ b' i', InnAt h' E' b' i' k → b' = b ∧ i' = i := by
  intro b i k hi
  obtain ⟨g1, g2, g3⟩ := hinn b i k (h1 b i k hi)
  refine ⟨g1, fun b' c' o' hc hl e => ?_, fun b' i' hi' => g3 b' i' (h1 b' i' k hi')⟩
  obtain ⟨b'', c'', o'', e1, e2, e3⟩ := h2 b' c' k o' hc hl e
  exact g2 b'' c'' o'' e1 e2 e3
theorem innAt_set {b b' i k : Nat} {c : Chunk} (hi : InnAt (h.set b c) E b' i k) : (b' = b ∧ ∃ isz rs hole r, c = .nest isz rs hole ∧ rs[i]? = some r ∧ (∀ x, hole ≠ some (i, x)) ∧ E.il b i = some k) ∨ (b' ≠ b ∧ InnAt h E b' i k) := by
  obtain ⟨isz, rs, hole, r, h1, h2, h3, h4⟩ := hi
  rw [List.getElem?_set] at h1
  by_cases e : b = b'
  · subst e; simp only [if_true] at h1; split at h1
    · simp only [Option.some.injEq] at h1; exact .inl ⟨rfl, isz, rs, hole, r, h1, h2, h3, h4⟩
    · simp at h1
  · simp only [e, if_false] at h1; exact .inr ⟨fun h => e h.symm, isz, rs, hole, r, h1, h2, h3, h4⟩
theorem innAt_drop {b b' i k : Nat} (hi : InnAt (h.set b .none) E b' i k) : InnAt h E b' i k := by
  rcases innAt_set hi with ⟨_, _, _, _, _, h1, _⟩ | ⟨_, h1⟩
  · cases h1
  · exact h1
theorem SimAt.drop (hs : SimAt w0 wr F0 F E ⟨t, h⟩ a w) (b : Nat) : SimAt w0 wr F0 F E ⟨t, h.set b .none⟩ a w := by
  have key : ∀ (b' : Nat) (c : Chunk), (h.set b .none)[b']? = some c → c = .none ∨ (b' ≠ b ∧ h[b']? = some c) := by
    intro b' c hc
    rw [List.getElem?_set] at hc
    by_cases e : b = b'
    · subst e; simp only [if_true] at hc; split at hc
      · simp only [Option.some.injEq] at hc; exact .inl hc.symm
      · simp at hc
    · simp only [e, if_false] at hc; exact .inr ⟨fun h => e h.symm, hc⟩
  refine ⟨hs.len, hs.tmps, ?_, ?_, ?_, ?_, hs.fin, hs.orig, hs.frame, hs.defers, hs.pin⟩
  · intro b' c hc
    rcases key b' c hc with rfl | ⟨_, h1⟩
    · exact .none
    · exact hs.heap b' c h1
  · intro b1 b2 c1 c2 k o o' h1 h2 l1 l2 e1 e2
    rcases key b1 c1 h1 with rfl | ⟨_, h1⟩
    · exact l1.elim
    rcases key b2 c2 h2 with rfl | ⟨_, h2⟩
    · exact l2.elim
    exact hs.excl b1 b2 c1 c2 k o o' h1 h2 l1 l2 e1 e2
  · intro b1 c1 k o h1 l1 e1
    rcases key b1 c1 h1 with rfl | ⟨_, h1⟩
    · exact l1.elim
    exact hs.own b1 c1 k o h1 l1 e1
  · refine inn_mono hs.inn (fun b i k hi => innAt_drop hi) fun b' c' k o' hc hl e => ?_
    rcases key b' c' hc with rfl | ⟨_, h1⟩
    · exact hl.elim
    · exact ⟨b', c', o', h1, hl, e⟩
def NestAt (E : Env) (b : Nat) (ck : Chunk) (i k : Nat) : Prop := ∃ isz rs hole r, ck = .nest isz rs hole ∧ rs[i]? = some r ∧ (∀ x, hole ≠ some (i, x)) ∧ E.il b i = some k
theorem SimAt.chunkN (hs : SimAt w0 wr F0 F E ⟨t, h⟩ a w) (b : Nat) {ck : Chunk} (hck : ChunkAt w F E b ck)
    (hnew : ∀ k o, E.loc b = some (k, o) → (w0.heap.size ≤ k ∨ wr k) ∧ (∀ b' c k' o', b' ≠ b → h[b']? = some c → c.live → E.loc b' = some (k', o') → k' ≠ k) ∧ ∀ b' i, b' ≠ b → ¬ InnAt h E b' i k)
    (hin : ∀ i k, NestAt E b ck i k → (w0.heap.size ≤ k ∨ wr k) ∧ (∀ b' c o', b' ≠ b → h[b']? = some c → c.live → E.loc b' ≠ some (k, o')) ∧ (∀ o, E.loc b ≠ some (k, o)) ∧
      (∀ b' i', b' ≠ b → ¬ InnAt h E b' i' k) ∧ ∀ i', NestAt E b ck i' k → i' = i) :
    SimAt w0 wr F0 F E ⟨t, h.set b ck⟩ a w := by
  have key : ∀ (b' : Nat) (c : Chunk), (h.set b ck)[b']? = some c → (b' = b ∧ c = ck) ∨ (b' ≠ b ∧ h[b']? = some c) := by
    intro b' c hc
    rw [List.getElem?_set] at hc
    by_cases e : b = b'
    · subst e; simp only [if_true] at hc; split at hc
      · simp only [Option.some.injEq] at hc; exact .inl ⟨rfl, hc.symm⟩
      · simp at hc
    · simp only [e, if_false] at hc; exact .inr ⟨fun h => e h.symm, hc⟩
  refine ⟨hs.len, hs.tmps, ?_, ?_, ?_, ?_, hs.fin, hs.orig, hs.frame, hs.defers, hs.pin⟩
  · intro b' c hc
    rcases key b' c hc with ⟨rfl, rfl⟩ | ⟨_, h1⟩
    · exact hck
    · exact hs.heap b' c h1
  · intro b1 b2 c1 c2 k o o' h1 h2 l1 l2 e1 e2
    rcases key b1 c1 h1 with ⟨p1, q1⟩ | ⟨n1, g1⟩ <;> rcases key b2 c2 h2 with ⟨p2, q2⟩ | ⟨n2, g2⟩
    · rw [p1, p2]
    · subst p1; exact absurd rfl ((hnew k o e1).2.1 b2 c2 k o' n2 g2 l2 e2)
    · subst p2; exact absurd rfl ((hnew k o' e2).2.1 b1 c1 k o n1 g1 l1 e1)
    · exact hs.excl b1 b2 c1 c2 k o o' g1 g2 l1 l2 e1 e2
  · intro b1 c1 k o h1 l1 e1
    rcases key b1 c1 h1 with ⟨rfl, rfl⟩ | ⟨_, h1⟩
    · exact (hnew k o e1).1
    · exact hs.own b1 c1 k o h1 l1 e1
  · intro b1 i k hi0
    rcases innAt_set hi0 with ⟨rfl, hi⟩ | ⟨n1, hi⟩
    · obtain ⟨g1, g2, g3, g4, g5⟩ := hin i k hi
      refine ⟨g1, fun b' c' o' hc hl e => ?_, fun b' i' hi' => ?_⟩
      · rcases key b' c' hc with ⟨rfl, rfl⟩ | ⟨n, hc⟩
        · exact g3 _ e
        · exact g2 b' c' o' n hc hl e
      · rcases innAt_set hi' with ⟨rfl, hi'⟩ | ⟨n, hi'⟩
        · exact ⟨rfl, g5 i' hi'⟩
        · exact absurd hi' (g4 b' i' n)
    · obtain ⟨g1, g2, g3⟩ := hs.inn b1 i k hi
      refine ⟨g1, fun b' c' o' hc hl e => ?_, fun b' i' hi' => ?_⟩
      · rcases key b' c' hc with ⟨p, q⟩ | ⟨n, hc⟩
        · subst p; exact (hnew k o' e).2.2 b1 i n1 hi
        · exact g2 b' c' o' hc hl e
      · rcases innAt_set hi' with ⟨p, hi''⟩ | ⟨n, hi''⟩
        · subst p; exact absurd hi ((hin i' k hi'').2.2.2.1 b1 i n1)
        · exact g3 b' i' hi''
theorem SimAt.chunk (hs : SimAt w0 wr F0 F E ⟨t, h⟩ a w) (b : Nat) {ck : Chunk} (hck : ChunkAt w F E b ck) (hnn : ∀ isz rs hole, ck ≠ .nest isz rs hole)
    (hnew : ∀ k o, E.loc b = some (k, o) → (w0.heap.size ≤ k ∨ wr k) ∧ (∀ b' c k' o', b' ≠ b → h[b']? = some c → c.live → E.loc b' = some (k', o') → k' ≠ k) ∧ ∀ b' i, b' ≠ b → ¬ InnAt h E b' i k) :
    SimAt w0 wr F0 F E ⟨t, h.set b ck⟩ a w :=
  hs.chunkN b hck hnew fun _ _ ⟨isz, rs, hole, _, e, _⟩ => absurd e (hnn isz rs hole)
theorem SimAt.re (hs : SimAt w0 wr F0 F E ⟨t, h⟩ a w) {b : Nat} (nr : NRs b t h) (pl : Option (Nat × Nat)) (n : Nat) : SimAt w0 wr F0 F (E.upd b pl n) ⟨t, h.set b .none⟩ a w := by
  have hd := hs.drop b
  have nb : ∀ (b' : Nat) (c : Chunk), (h.set b .none)[b']? = some c → c.live → b' ≠ b := by
    intro b' c hc hl e
    subst e
    rw [List.getElem?_set] at hc
    simp only [if_true] at hc
    split at hc
    · simp only [Option.some.injEq] at hc; subst hc; exact hl
    · simp at hc
  refine ⟨hd.len, fun i x v hx hv => (hd.tmps i x v hx hv).env pl n (nr.t x (List.mem_of_getElem? hx)), ?_, ?_, ?_, ?_, hd.fin, hd.orig, hd.frame, hd.defers, hd.pin.eq (Env.upd_loc_ne _ _ _ (Ne.symm nr.ne))⟩
  · intro b' c hc
    by_cases hl : c.live
    · have hne := nb b' c hc hl
      refine (hd.heap b' c hc).env pl n hne ?_
      rcases mem_set_of (List.mem_of_getElem? hc) with rfl | hm
      · exact trivial
      · exact nr.h c hm
    · cases c with
      | none => exact .none
      | data sz els => exact (hl trivial).elim
      | mix cs => exact (hl trivial).elim
      | nest isz rs hole => exact (hl trivial).elim
  · intro b1 b2 c1 c2 k o o' h1 h2 l1 l2 e1 e2
    rw [Env.upd_loc_ne _ _ _ (nb _ _ h1 l1)] at e1
    rw [Env.upd_loc_ne _ _ _ (nb _ _ h2 l2)] at e2
    exact hd.excl b1 b2 c1 c2 k o o' h1 h2 l1 l2 e1 e2
  · intro b1 c1 k o h1 l1 e1
    rw [Env.upd_loc_ne _ _ _ (nb _ _ h1 l1)] at e1
    exact hd.own b1 c1 k o h1 l1 e1
  · exact inn_mono hd.inn (fun b i k hi => hi) fun b' c' k o' hc hl e => ⟨b', c', o', hc, hl, by rwa [Env.upd_loc_ne _ _ _ (nb _ _ hc hl)] at e⟩
theorem SeesA.same {W : World} {F : Nat → Prop} {E E' : Env} (h1 : E'.loc = E.loc) (h2 : E'.ln = E.ln) {x : AV} {v : Value} (h : SeesA W F E x v) : SeesA W F E' x v := by
  induction h with
  | d h => exact .d h
  | ptr h => exact .ptr (by rw [h1]; exact h)
  | row h hb hlen hroom => rw [← h2]; exact .row (by rw [h1]; exact h) hb (by rw [h2]; exact hlen) hroom
  | rowE h h0 => exact .rowE (by rw [h1]; exact h) (by rw [h2]; exact h0)
  | sub h hlen hb hext hroom => exact .sub (by rw [h1]; exact h) hlen hb (by rw [h2]; exact hext) hroom
  | fn e1 e2 _ _ ih3 ih4 => exact .fn e1 e2 ih3 ih4
  | mix hl g1 _ ih => exact .mix hl g1 ih
  | tup hl _ ih => exact .tup hl ih
  | dead v => exact .dead v
def Env.updI (E : Env) (b : Nat) (f : Nat → Option Nat) : Env := { E with il := fun b' => if b' = b then f else E.il b' }
theorem ChunkAt.updI {W : World} {F : Nat → Prop} {E : Env} {b b' : Nat} {c : Chunk} (f : Nat → Option Nat) (hn : b' ≠ b ∨ ∀ isz rs hole, c ≠ .nest isz rs hole) (h : ChunkAt W F E b' c) : ChunkAt W F (E.updI b f) b' c := by
  cases h with
  | none => exact .none
  | empty sz h h0 => exact .empty sz h h0
  | data vals h hn' hb hF hc hs => exact .data vals h hn' hb hF hc hs
  | mix vals h hb hF hc hs => exact .mix vals h hb hF hc fun j x hx => SeesA.same (E := E) (E' := E.updI b f) rfl rfl (hs j x hx)
  | nestE isz hole h h0 => exact .nestE isz hole h h0
  | nest vals h hn' hb hF hc ho hi =>
    refine .nest vals h hn' hb hF hc (fun j x hx => SeesA.same (E := E) (E' := E.updI b f) rfl rfl (ho j x hx)) fun j r hj hj2 => ?_
    have : (E.updI b f).il b' j = E.il b' j := by
      rcases hn with hn | hn
      · simp [Env.updI, hn]
      · exact absurd rfl (hn _ _ _)
    rw [this]; exact hi j r hj hj2
theorem SimAt.updI (hs : SimAt w0 wr F0 F E ⟨t, h⟩ a w) {b : Nat} (f : Nat → Option Nat) (hb : ∀ isz rs hole, h[b]? ≠ some (.nest isz rs hole)) : SimAt w0 wr F0 F (E.updI b f) ⟨t, h⟩ a w := by
  refine ⟨hs.len, fun i x v hx hv => SeesA.same (E := E) (E' := E.updI b f) rfl rfl (hs.tmps i x v hx hv), fun b' c hc => (hs.heap b' c hc).updI f ?_, hs.excl, hs.own, ?_, hs.fin, hs.orig, hs.frame, hs.defers, hs.pin⟩
  · by_cases e : b' = b
    · subst e; exact .inr fun isz rs hole e' => by subst e'; exact hb isz rs hole hc
    · exact .inl e
  · refine inn_mono hs.inn (fun b' i k hi => ?_) fun b' c' k o' hc hl e => ⟨b', c', o', hc, hl, e⟩
    obtain ⟨isz, rs, hole, r, h1, h2, h3, h4⟩ := hi
    have hne : b' ≠ b := fun e => by subst e; exact hb isz rs hole h1
    exact ⟨isz, rs, hole, r, h1, h2, h3, by simpa [Env.updI, hne] using h4⟩
theorem SimAt.other (hs : SimAt w0 wr F0 F E ⟨t, h⟩ a w) {k : Nat} (hz : Sizes w w') (hk : ¬ F k) (hwr : w0.heap.size ≤ k ∨ wr k)
    (hno : ∀ b c o, h[b]? = some c → c.live → E.loc b ≠ some (k, o)) (hni : ∀ b i, ¬ InnAt h E b i k)
    (hos : w'.os = w.os) (htape : w'.tape = w.tape) (hout : w'.output = w.output) (hsize : w.heap.size ≤ w'.heap.size) (hblk : ∀ j, j < w.heap.size → j ≠ k → w'.heap[j]? = w.heap[j]?) :
    SimAt w0 wr F0 F E ⟨t, h⟩ a w' := by
  have hsame : SameOn F w w' := fun j hj => hblk j (hs.fin j hj) (fun e => hk (e ▸ hj))
  refine ⟨hs.len, fun i x v hx hv => (hs.tmps i x v hx hv).mono (fun _ h => h) hsame hz, ?_, hs.excl, hs.own, hs.inn, fun j hj => Nat.lt_of_lt_of_le (hs.fin j hj) hsize, hs.orig, ?_, hs.defers, hs.pin⟩
  · intro b c hc
    refine (hs.heap b c hc).mono (fun _ h => h) hsame hz (fun j o hl e hnF hlt => ⟨hnF, hblk j hlt fun ejk => ?_⟩) fun isz rs hole i r j ec hi hh e hnF hlt => ⟨hnF, hblk j hlt fun ejk => ?_⟩
    · subst ejk
      exact hno b c o hc hl e
    · subst ejk; subst ec
      exact hni b i ⟨isz, rs, hole, r, hc, hi, hh, e⟩
  · refine ⟨hos.trans hs.frame.os, htape.trans hs.frame.tape, hout.trans hs.frame.output, Nat.le_trans hs.frame.size hsize, fun j hj hn => ?_, hs.frame.sizes.trans hz⟩
    refine (hblk j (Nat.lt_of_lt_of_le hj hs.frame.size) fun e => ?_).trans (hs.frame.block j hj hn)
    subst e
    rcases hwr with h1 | h1
    · omega
    · exact hn h1
end
end Go.X
namespace Go.X
open Go Go.RowKit
def OwnAt (w w' : World) (G : Nat → Prop) (sz : Nat) (l : List (List D)) (v : Value) : Prop :=
  (∃ a, v = .slice a 0 0 ∧ l = []) ∨
  ∃ (k cap : Nat) (c : Array Value) (T : TypeId) (vals : Nat → Nat → Value), v = .slice (some ⟨k, 0, none⟩) l.length cap ∧ w.heap.size ≤ k ∧ ¬ G k ∧
    w'.heap[k]? = some (.cells c T (0, 0)) ∧ l.length ≤ cap ∧ cap * sz ≤ c.size ∧
    (∀ (i : Nat) (r : List D), l[i]? = some r → r.length = sz ∧ ∀ j, j < sz → c[i * sz + j]? = some (vals i j) ∧ (vals i j).oneCell' = true) ∧
    (∀ (i : Nat) (r : List D) (j : Nat) (x : D), l[i]? = some r → r[j]? = some x → Sees w' G x (vals i j))
def OwnN (w w' : World) (G : Nat → Prop) (isz : Nat) (rs : List (List (List D))) (v : Value) : Prop :=
  (∃ a, v = .slice a 0 0 ∧ rs = []) ∨
  ∃ (k cap : Nat) (c : Array Value) (T : TypeId) (vals : Nat → Value) (il : Nat → Option Nat), v = .slice (some ⟨k, 0, none⟩) rs.length cap ∧ w.heap.size ≤ k ∧ ¬ G k ∧
    w'.heap[k]? = some (.cells c T (0, 0)) ∧ rs.length ≤ cap ∧ cap * 1 ≤ c.size ∧
    (∀ j, j < rs.length → c[j]? = some (vals j) ∧ (vals j).oneCell' = true) ∧
    (∀ (j : Nat) (r : List (List D)), rs[j]? = some r → InRow w' G (il j) isz r (vals j)) ∧
    (∀ (j k' : Nat), j < rs.length → il j = some k' → w.heap.size ≤ k' ∧ k' ≠ k ∧ ∀ j', j' < rs.length → il j' = some k' → j' = j)
def OwnBx (w w' : World) (G : Nat → Prop) (sz : Nat) (l : List (List D)) (v : Value) : Prop :=
  ∃ (k q : Nat) (c : Array Value) (T : TypeId) (vals : Nat → Nat → Value), v = .pointer (some ⟨k, q, none⟩) ∧ w.heap.size ≤ k ∧ ¬ G k ∧ w'.heap[k]? = some (.cells c T (0, 0)) ∧
    (∀ (i : Nat) (r : List D), l[i]? = some r → r.length = sz ∧ ∀ j, j < sz → c[q + i * sz + j]? = some (vals i j) ∧ (vals i j).oneCell' = true) ∧
    (∀ (i : Nat) (r : List D) (j : Nat) (x : D), l[i]? = some r → r[j]? = some x → Sees w' G x (vals i j))
def ResG (w w' : World) (G : Nat → Prop) : Res → Value → Prop
  | .val x, v => Sees w' G x v
  | .own sz l, v => OwnAt w w' G sz l v
  | .ownN isz rs, v => OwnN w w' G isz rs v
  | .ownB sz l, v => OwnBx w w' G sz l v
  | .post _ _, _ => False
  | .postB _ _ _ _, _ => False
  | .postN _ _ _, _ => False
  | .tup xs, v => ∃ vs : Array Value, v = .tuple vs ∧ vs.size = xs.length ∧ ∀ (i : Nat) (x : D) (u : Value), xs[i]? = some x → vs[i]? = some u → Sees w' G x u
  | .tupO sz l b a, v => ∃ vs : Array Value, v = .tuple vs ∧ vs.size = b.length + 1 + a.length ∧ (∀ u, vs[b.length]? = some u → OwnAt w w' G sz l u) ∧
      (∀ (i : Nat) (x : D) (u : Value), b[i]? = some x → vs[i]? = some u → Sees w' G x u) ∧
      (∀ (i : Nat) (x : D) (u : Value), a[i]? = some x → vs[b.length + 1 + i]? = some u → Sees w' G x u)
def ResAt (w w' : World) (F : Nat → Prop) (r : Res) (v : Value) : Prop :=
  ∃ G, (∀ k, G k → F k ∨ (w.heap.size ≤ k ∧ k < w'.heap.size)) ∧ ResG w w' G r v
def Plain (P : Program) (f : FuncId) : Prop := ∃ fn, P.funcs[f]? = some fn ∧ (fn.name == "runtime.NumGoroutine") = false ∧ fn.body.isNone = false
def Goes (P : Program) (f : FuncId) (vs : Array Value) (w : World) (R : Ending → World → Prop) : Prop :=
  match (callFunc f vs).run P w with
  | .ok (.value v) w' => R (.returned v) w'
  | .ok (.enter g args) w' => Calls P g args w' R
  | _ => False
theorem Goes.mono {P : Program} {f : FuncId} {vs : Array Value} {w : World} {R R' : Ending → World → Prop} (h : Goes P f vs w R) (hr : ∀ e w', R e w' → R' e w') : Goes P f vs w R' := by
  unfold Goes at h ⊢
  split at h
  · exact hr _ _ h
  · exact Calls.mono h hr
  · exact h.elim
def There (P : Program) (f : FuncId) : Prop := ∃ fn, P.funcs[f]? = some fn
def CanD (P : Program) (f : FuncId) (args : List D) (r : Res) : Prop :=
  There P f ∧ ∀ (w : World) (F : Nat → Prop) (vs : Array Value), (∀ k, F k → k < w.heap.size) → vs.size = args.length →
    (∀ (i : Nat) (x : D) (v : Value), args[i]? = some x → vs[i]? = some v → Sees w F x v) →
    Goes P f vs w fun e w' => ∃ v, e = .returned v ∧ Below w.heap.size w w' ∧ ResAt w w' F r v
structure BelowBut (ob : Option Nat) (w w' : World) : Prop where
  os : w'.os = w.os
  tape : w'.tape = w.tape
  output : w'.output = w.output
  size : w.heap.size ≤ w'.heap.size
  block : ∀ k, k < w.heap.size → ob ≠ some k → w'.heap[k]? = w.heap[k]?
  sizes : Sizes w w'
def ResM (w w' : World) (G : Nat → Prop) (ob : Option Nat) (p : Option (List (List D))) (r : Res) (v : Value) : Prop :=
  match r with
  | .own sz l => OwnAt w w' G sz l v ∨ (p = none ∧ InRow w' G ob sz l v)
  | r => ResG w w' G r v
def CanM (P : Program) (f : FuncId) (sz : Nat) (l : List (List D)) (args : List D) (p : Option (List (List D))) (r : Res) : Prop :=
  Plain P f ∧ ∀ (w : World) (F : Nat → Prop) (ob : Option Nat) (v0 : Value) (vs : Array Value), (∀ k, F k → k < w.heap.size) → vs.size = args.length →
    (∀ (i : Nat) (x : D) (v : Value), args[i]? = some x → vs[i]? = some v → Sees w F x v) → InRow w F ob sz l v0 →
    Calls P f (#[v0] ++ vs) w fun e w' => ∃ v, e = .returned v ∧ BelowBut ob w w' ∧ ∃ G : Nat → Prop, (∀ k, G k → F k ∨ (w.heap.size ≤ k ∧ k < w'.heap.size)) ∧ (∀ l', p = some l' → InRow w' G ob sz l' v0) ∧ ResM w w' G ob p r v
inductive InBox (W : World) (F : Nat → Prop) (k q sz : Nat) (l : List (List D)) (v : Value) : Prop
  | mk {c : Array Value} {T : TypeId} (vals : Nat → Nat → Value) (hb : W.heap[k]? = some (.cells c T (0, 0))) (hF : ¬ F k) (hv : v = .pointer (some ⟨k, q, none⟩))
      (hc : ∀ (i : Nat) (r : List D), l[i]? = some r → r.length = sz ∧ ∀ j, j < sz → c[q + i * sz + j]? = some (vals i j) ∧ (vals i j).oneCell' = true)
      (hs : ∀ (i : Nat) (r : List D) (j : Nat) (x : D), l[i]? = some r → r[j]? = some x → Sees W F x (vals i j))
def CanB (P : Program) (f : FuncId) (sz : Nat) (l : List (List D)) (args : List D) (l' : List (List D)) (r : Res) : Prop :=
  l'.length = l.length ∧ Plain P f ∧ ∀ (w : World) (F : Nat → Prop) (k q : Nat) (v0 : Value) (vs : Array Value), (∀ k, F k → k < w.heap.size) → vs.size = args.length →
    (∀ (i : Nat) (x : D) (v : Value), args[i]? = some x → vs[i]? = some v → Sees w F x v) → InBox w F k q sz l v0 →
    Calls P f (#[v0] ++ vs) w fun e w' => ∃ v, e = .returned v ∧ BelowBut (some k) w w' ∧ ∃ G : Nat → Prop, (∀ k, G k → F k ∨ (w.heap.size ≤ k ∧ k < w'.heap.size)) ∧ InBox w' G k q sz l' v0 ∧ ResG w w' G r v
structure BelowS (S : Nat → Prop) (w w' : World) : Prop where
  os : w'.os = w.os
  tape : w'.tape = w.tape
  output : w'.output = w.output
  size : w.heap.size ≤ w'.heap.size
  block : ∀ k, k < w.heap.size → ¬ S k → w'.heap[k]? = w.heap[k]?
  sizes : Sizes w w'
inductive InNest (W : World) (F : Nat → Prop) (ob : Option Nat) (il : Nat → Option Nat) (isz : Nat) (rs : List (List (List D))) (v : Value) : Prop
  | nil (a : Option Addr) (h : ob = none) (h0 : rs = []) (hv : v = .slice a 0 0)
  | row {k cap : Nat} {c : Array Value} {T : TypeId} (vals : Nat → Value) (h : ob = some k) (hb : W.heap[k]? = some (.cells c T (0, 0))) (hF : ¬ F k) (hcap : rs.length ≤ cap) (hroom : cap * 1 ≤ c.size)
      (hv : v = .slice (some ⟨k, 0, none⟩) rs.length cap)
      (hc : ∀ j, j < rs.length → c[j]? = some (vals j) ∧ (vals j).oneCell' = true)
      (hi : ∀ (j : Nat) (r : List (List D)), rs[j]? = some r → InRow W F (il j) isz r (vals j))
      (hd : ∀ (j k' : Nat), j < rs.length → il j = some k' → k' ≠ k ∧ ∀ j', j' < rs.length → il j' = some k' → j' = j)
def NestS (ob : Option Nat) (il : Nat → Option Nat) (n k : Nat) : Prop := ob = some k ∨ ∃ j, j < n ∧ il j = some k
def CanN (P : Program) (f : FuncId) (isz : Nat) (rs : List (List (List D))) (args : List D) (x : D) : Prop :=
  Plain P f ∧ ∀ (w : World) (F : Nat → Prop) (ob : Option Nat) (il : Nat → Option Nat) (v0 : Value) (vs : Array Value), (∀ k, F k → k < w.heap.size) → vs.size = args.length →
    (∀ (i : Nat) (x : D) (v : Value), args[i]? = some x → vs[i]? = some v → Sees w F x v) → InNest w F ob il isz rs v0 →
    Calls P f (#[v0] ++ vs) w fun e w' => ∃ v, e = .returned v ∧ BelowS (NestS ob il rs.length) w w' ∧ ∃ G : Nat → Prop, (∀ k, G k → F k ∨ (w.heap.size ≤ k ∧ k < w'.heap.size)) ∧ Sees w' G x v
def Can (P : Program) (f : FuncId) (args : List D) (r : Res) : Prop :=
  match r with
  | .post p r => match args with
    | .ownA sz l :: as => CanM P f sz l as p r
    | _ => False
  | .postB sz l l' r => CanB P f sz l args l' r
  | .postN isz rs x => CanN P f isz rs args x
  | r => CanD P f args r
def Res.isPost : Res → Bool
  | .post _ _ => true
  | .postB _ _ _ _ => true
  | .postN _ _ _ => true
  | _ => false
theorem Can.toD {P : Program} {f : FuncId} {args : List D} {r : Res} (h : Can P f args r) (hr : r.isPost = false) : CanD P f args r := by
  cases r <;> first | exact h | (simp [Res.isPost] at hr)
theorem CanD.can {P : Program} {f : FuncId} {args : List D} {r : Res} (h : CanD P f args r) (hr : r.isPost = false) : Can P f args r := by
  cases r <;> first | exact h | (simp [Res.isPost] at hr)
theorem Plain.run {P : Program} {f : FuncId} (h : Plain P f) (args : Array Value) (w : World) : (callFunc f args).run P w = .ok (.enter f args) w := by
  obtain ⟨fn, h1, h2, h3⟩ := h
  unfold callFunc
  rw [Sem.run_bind]
  show ((Result.ok P w).andThen _) = _
  rw [Result.andThen_ok]
  simp only [h1, h2, h3, Bool.false_eq_true, if_false]
  rfl
theorem Plain.goes {P : Program} {f : FuncId} (h : Plain P f) {vs : Array Value} {w : World} {R : Ending → World → Prop} (hc : Calls P f vs w R) : Goes P f vs w R := by
  unfold Goes; rw [h.run]; exact hc
theorem Plain.calls {P : Program} {f : FuncId} (h : Plain P f) {vs : Array Value} {w : World} {R : Ending → World → Prop} (hc : Goes P f vs w R) : Calls P f vs w R := by
  unfold Goes at hc; rw [h.run] at hc; exact hc
def dOf : Value → Option D
  | .int k n => some (.int k n)
  | .bool b => some (.bool b)
  | .string s => some (.str s)
  | .pointer none => some .nilp
  | .slice none 0 0 => some .emp
  | .nilFunc => some .nilfn
  | _ => none
def cOpd : Operand → Option Opd
  | .tmp n => some (.t n)
  | .const v => (dOf v).map .c
  | .func f => some (.f f)
  | .global _ => none
def cOpds : List Operand → Option (List Opd)
  | [] => some []
  | x :: r => do let y ← cOpd x; let ys ← cOpds r; pure (y :: ys)
theorem dOf_sees {W : World} {F : Nat → Prop} {v : Value} {x : D} (h : dOf v = some x) : Sees W F x v := by
  unfold dOf at h
  split at h <;> first | (simp only [Option.some.injEq] at h; subst h; constructor) | (simp at h)
section
variable {P : Program} {w0 : World} {wr : Wr} {F0 F : Nat → Prop} {E : Env} {t : List AV} {h : List Chunk} {a : Act} {w w' : World}
theorem ev_sound (hs : SimAt w0 wr F0 F E ⟨t, h⟩ a w) {x : Operand} {X : Opd} (hx : cOpd x = some X) : SeesA w F E (X.ev t) (a.eval x) := by
  cases x with
  | tmp n =>
    simp only [cOpd, Option.some.injEq] at hx; subst hx
    simp only [Opd.ev, getL_eq, Act.eval]
    cases hn : t[n]? with
    | none => exact .dead _
    | some y =>
      have hlt : n < a.tmps.size := by rw [hs.len]; exact (List.getElem?_eq_some_iff.1 hn).1
      simp only [Option.getD_some]
      rw [← Array.getElem_eq_getD (h := hlt)]
      exact hs.tmps n y _ hn (Array.getElem?_eq_getElem hlt)
  | const v =>
    simp only [cOpd, Option.map_eq_some_iff] at hx
    obtain ⟨d, hd, rfl⟩ := hx
    exact .d (dOf_sees hd)
  | func f =>
    simp only [cOpd, Option.some.injEq] at hx; subst hx
    exact .d (.fn rfl rfl (by simp) (by simp))
  | global g => simp [cOpd] at hx
theorem evs_sound (hs : SimAt w0 wr F0 F E ⟨t, h⟩ a w) : ∀ {xs : List Operand} {Xs : List Opd}, cOpds xs = some Xs →
    Xs.length = xs.length ∧ (mapEv t Xs).length = xs.length ∧ ∀ (i : Nat) (x : AV) (y : Operand), (mapEv t Xs)[i]? = some x → xs[i]? = some y → SeesA w F E x (a.eval y)
  | [], Xs, hx => by simp only [cOpds, Option.some.injEq] at hx; subst hx; simp [mapEv]
  | y :: r, Xs, hx => by
    simp only [cOpds, Option.pure_def, Option.bind_eq_bind, Option.bind_eq_some_iff, Option.some.injEq] at hx
    obtain ⟨Y, hY, Ys, hYs, rfl⟩ := hx
    obtain ⟨h1, h2, h3⟩ := evs_sound hs hYs
    refine ⟨by simp [h1], by simp [mapEv, h2], ?_⟩
    intro i x z hi hz
    cases i with
    | zero => simp only [mapEv, List.getElem?_cons_zero, Option.some.injEq] at hi hz; subst hi; subst hz; exact ev_sound hs hY
    | succ i => simp only [mapEv, List.getElem?_cons_succ] at hi hz; exact h3 i x z hi hz
def Sub (hm h : List Chunk) : Prop := ∀ (b : Nat) (c : Chunk), hm[b]? = some c → c.live → h[b]? = some c
theorem sub_get {hm h : List Chunk} (hsub : Sub hm h) {b : Nat} {c : Chunk} (hc : getC hm b = c) (hl : c.live) : h[b]? = some c := by
  rw [getC_eq] at hc
  cases hb : hm[b]? with
  | none => rw [hb] at hc; simp at hc; subst hc; exact hl.elim
  | some c' => rw [hb] at hc; simp at hc; subst hc; exact hsub b _ hb hl
def tAgg (P : Program) (T : TypeId) : Option Bool :=
  match P.underlying T with
  | some (.struct _) | some (.array _ _) => some true
  | some _ => some false
  | none => none
def tSize (P : Program) (T : TypeId) : Option Nat := (P.info? T).map (·.size)
def grp (P : Program) (T : TypeId) : Option (Option Nat) :=
  match tAgg P T, tSize P T with
  | some true, some (n + 1) => some (some (n + 1))
  | some false, some 1 => some none
  | _, _ => none
theorem run_isAgg {T : TypeId} {b : Bool} (hT : tAgg P T = some b) (w : World) : (isAgg T).run P w = .ok b w := by
  unfold tAgg at hT
  unfold isAgg
  rw [Sem.run_bind]
  cases hu : P.underlying T with
  | none => rw [hu] at hT; simp at hT
  | some d =>
    rw [hu] at hT
    rw [run_underlying hu]
    cases d <;> simp_all
theorem run_sizeOf {T : TypeId} {n : Nat} (hT : tSize P T = some n) (w : World) : (sizeOf T).run P w = .ok n w := by
  unfold tSize at hT
  unfold sizeOf typeInfo
  cases hi : P.info? T with
  | none => rw [hi] at hT; simp at hT
  | some i =>
    rw [hi] at hT; simp at hT
    rw [Sem.run_bind, Sem.run_bind]
    show (((Result.ok P w).andThen _).andThen _) = _
    rw [Result.andThen_ok]
    simp [hi, hT]
theorem grp_some {T : TypeId} {n : Nat} (hT : grp P T = some (some n)) : tAgg P T = some true ∧ tSize P T = some n := by
  unfold grp at hT; split at hT <;> simp_all
theorem grp_pos {T : TypeId} {n : Nat} (hT : grp P T = some (some n)) : 0 < n := by
  unfold grp at hT; split at hT <;> simp at hT; omega
theorem grp_none {T : TypeId} (hT : grp P T = some none) : tAgg P T = some false ∧ tSize P T = some 1 := by
  unfold grp at hT; split at hT <;> simp_all
def Step (P : Program) (w0 : World) (wr : Wr) (F0 : Nat → Prop) (o : Oper) (a : Act) (w : World) (t : List AV) (h : List Chunk) (y : AV) (u : List (Nat × Chunk)) : Prop :=
  match (execOp a.eval o).run P w with
  | .ok (.value v) w' => Sim w0 wr F0 ⟨setO t o.dst y, updL u h⟩ (a.put o.dst v) w'
  | .ok .skip w' => Sim w0 wr F0 ⟨setO t o.dst y, updL u h⟩ (a.put o.dst undef) w'
  | .ok (.enter f args) w' => Calls P f args w' fun e w'' => ∃ v, e = .returned v ∧ Sim w0 wr F0 ⟨setO t o.dst y, updL u h⟩ (a.put o.dst v) w''
  | _ => False
theorem Step.value (hs : SimAt w0 wr F0 F E ⟨t, h⟩ a w) {o : Oper} {y : AV} {v : Value} (hrun : (execOp a.eval o).run P w = .ok (.value v) w) (hy : SeesA w F E y v) :
    Step P w0 wr F0 o a w t h y [] := by
  unfold Step; rw [hrun]; exact ⟨F, E, hs.put o.dst hy⟩
theorem Step.goes {o : Oper} {y : AV} {u : List (Nat × Chunk)} {f : FuncId} {vs : Array Value} (hrun : (execOp a.eval o).run P w = (callFunc f vs).run P w)
    (hg : Goes P f vs w fun e w'' => ∃ v, e = .returned v ∧ Sim w0 wr F0 ⟨setO t o.dst y, updL u h⟩ (a.put o.dst v) w'') : Step P w0 wr F0 o a w t h y u := by
  unfold Step; rw [hrun]
  unfold Goes at hg
  generalize (callFunc f vs).run P w = r at hg ⊢
  split at hg
  · obtain ⟨v, e, hs⟩ := hg; cases e; exact hs
  · exact hg
  · exact hg.elim
theorem seesA_scalar {x : AV} {v : Value} (h : SeesA w F E x v) (h1 : ∀ cs, x ≠ .d (.agg cs)) (h2 : x ≠ .d .undef) (h3 : ∀ cs, x ≠ .mix cs) (h4 : ∀ cs, x ≠ .tup cs) (h5 : x ≠ .dead) :
    v.oneCell' = true ∧ v.cells = #[v] := by
  cases h with
  | d h => cases h <;> first | exact ⟨rfl, rfl⟩ | (exact absurd rfl (h1 _)) | (exact absurd rfl h2)
  | ptr h => exact ⟨rfl, rfl⟩
  | row h => exact ⟨rfl, rfl⟩
  | rowE h => exact ⟨rfl, rfl⟩
  | sub h => exact ⟨rfl, rfl⟩
  | fn => exact ⟨rfl, rfl⟩
  | mix => exact absurd rfl (h3 _)
  | tup => exact absurd rfl (h4 _)
  | dead => exact absurd rfl h5
structure Laid (W : World) (F : Nat → Prop) (k o sz : Nat) (l : List (List D)) (vals : Nat → Nat → Value) : Prop where
  c : ∃ (c : Array Value) (T : TypeId) (fz : Nat × Nat), W.heap[k]? = some (.cells c T fz) ∧
    ∀ (i : Nat) (r : List D), l[i]? = some r → r.length = sz ∧ ∀ j, j < sz → c[o + i * sz + j]? = some (vals i j) ∧ (vals i j).oneCell' = true
  s : ∀ (i : Nat) (r : List D) (j : Nat) (x : D), l[i]? = some r → r[j]? = some x → Sees W F x (vals i j)
theorem Laid.get {W : World} {k o sz : Nat} {l : List (List D)} {vals : Nat → Nat → Value} (hl : Laid W F k o sz l vals) {e off : Nat} {x : D} (hx : get2 l e off = some x) :
    W.cell? ⟨k, o + e * sz + off, none⟩ = some (vals e off) ∧ (vals e off).oneCell' = true ∧ Sees W F x (vals e off) := by
  simp only [get2, Option.bind_eq_some_iff] at hx
  obtain ⟨r, hr, hxr⟩ := hx
  obtain ⟨c, T, fz, hc, hcc⟩ := hl.c
  obtain ⟨h1, h2⟩ := hcc e r hr
  have hlt : off < sz := by rw [← h1]; exact (List.getElem?_eq_some_iff.1 hxr).1
  refine ⟨?_, (h2 off hlt).2, hl.s e r off x hr hxr⟩
  rw [cell_of_row W k _ c T fz hc]
  exact (h2 off hlt).1
theorem cut_some {r cs : List D} {off n : Nat} (h : cut r off n = some cs) : cs.length = n ∧ off + n ≤ r.length ∧ ∀ j, j < n → cs[j]? = r[off + j]? := by
  unfold cut at h
  split at h
  · simp only [Option.some.injEq] at h; subst h
    refine ⟨by simp; omega, by assumption, fun j hj => ?_⟩
    rw [List.getElem?_take, if_pos hj, List.getElem?_drop]
  · simp at h
theorem Laid.sub {W : World} {k o sz : Nat} {l : List (List D)} {vals : Nat → Nat → Value} (hl : Laid W F k o sz l vals) {e off n : Nat} {cs : List D} (hx : sub2 l e off n = some cs) :
    cs.length = n ∧ off + n ≤ sz ∧ (∀ j, j < n → W.cell? ⟨k, o + e * sz + off + j, none⟩ = some (vals e (off + j)) ∧ (vals e (off + j)).oneCell' = true) ∧
      ∀ j x, cs[j]? = some x → Sees W F x (vals e (off + j)) := by
  simp only [sub2, Option.bind_eq_some_iff] at hx
  obtain ⟨r, hr, hcut⟩ := hx
  obtain ⟨h0, h1, h2⟩ := cut_some hcut
  obtain ⟨c, T, fz, hc, hcc⟩ := hl.c
  obtain ⟨g1, g2⟩ := hcc e r hr
  refine ⟨h0, by omega, fun j hj => ?_, fun j x hx => ?_⟩
  · have := g2 (off + j) (by omega)
    rw [cell_of_row W k _ c T fz hc, show o + e * sz + off + j = o + e * sz + (off + j) from by omega]
    exact this
  · have hj : j < n := by rw [← h0]; exact (List.getElem?_eq_some_iff.1 hx).1
    rw [h2 j hj] at hx
    exact hl.s e r (off + j) x hr hx
theorem laid_agg {W : World} {k q n : Nat} {f : Nat → Value} {cs : List D} (hlen : cs.length = n)
    (hc : ∀ j, j < n → W.cell? ⟨k, q + j, none⟩ = some (f j) ∧ (f j).oneCell' = true) (hs : ∀ j x, cs[j]? = some x → Sees W F x (f j)) :
    W.rangeAt k q ((List.range n).map f) ∧ Sees W F (.agg cs) (.agg ((List.range n).map f).toArray) := by
  refine ⟨fun j v hv => ?_, .agg (by simp [hlen]) (fun i v hv => ?_) fun i x v hx hv => ?_⟩
  · simp only [List.getElem?_map, Option.map_eq_some_iff] at hv
    obtain ⟨m, hm, rfl⟩ := hv
    have hj := (List.getElem?_eq_some_iff.1 hm).1
    simp at hj
    rw [List.getElem?_range hj] at hm
    simp only [Option.some.injEq] at hm; subst hm
    exact (hc j hj).1
  · simp only [List.getElem?_toArray, List.getElem?_map, Option.map_eq_some_iff] at hv
    obtain ⟨m, hm, rfl⟩ := hv
    have hj := (List.getElem?_eq_some_iff.1 hm).1
    simp at hj
    rw [List.getElem?_range hj] at hm
    simp only [Option.some.injEq] at hm; subst hm
    exact (hc i hj).2
  · simp only [List.getElem?_toArray, List.getElem?_map, Option.map_eq_some_iff] at hv
    obtain ⟨m, hm, rfl⟩ := hv
    have hj := (List.getElem?_eq_some_iff.1 hm).1
    simp at hj
    rw [List.getElem?_range hj] at hm
    simp only [Option.some.injEq] at hm; subst hm
    exact hs i x hx
theorem laid_pd {sz : Nat} {l : List (List D)} {e off : Nat} {v : Value} (h : Sees w F (.pd sz l e off) v) :
    ∃ k o vals, v = .pointer (some ⟨k, o + e * sz + off, none⟩) ∧ F k ∧ Laid w F k o sz l vals := by
  cases h with
  | pd vals hF hb hc hs => exact ⟨_, _, vals, rfl, hF, ⟨_, _, _, hb, hc⟩, hs⟩
theorem laid_chunk {b sz : Nat} {l : List (List D)} {k o : Nat} (h : ChunkAt w F E b (.data sz l)) (hloc : E.loc b = some (k, o)) :
    ∃ vals, Laid w F k o sz l vals ∧ ¬ F k ∧ E.ln b = l.length ∧ ∃ c T, w.heap[k]? = some (.cells c T (0, 0)) := by
  cases h with
  | empty sz h h0 => rw [hloc] at h; simp at h
  | data vals h hn hb hF hc hs =>
    rw [hloc] at h; simp only [Option.some.injEq, Prod.mk.injEq] at h
    obtain ⟨rfl, rfl⟩ := h
    exact ⟨vals, ⟨⟨_, _, _, hb, hc⟩, hs⟩, hF, hn, _, _, hb⟩
end
end Go.X
namespace Go.X
open Go Go.RowKit
section
variable {P : Program} {w0 : World} {wr : Wr} {F0 F : Nat → Prop} {E : Env} {t : List AV} {h hm : List Chunk} {a : Act} {w w' : World} {o : Oper} {nm : Nat}
abbrev Y (P : Program) (x : XOp) (nm : Nat) (t : List AV) (h : List Chunk) (y : AV) (u : List (Nat × Chunk)) : Prop :=
  x.eff (Can P) nm t h fun y' u' => y' = y ∧ u' = u
theorem s_mov (hs : SimAt w0 wr F0 F E ⟨t, h⟩ a w) {x : Operand} {X : Opd} (hx : cOpd x = some X) (ho : o.op = .move x ∨ o.op = .assign x) {y : AV} {u : List (Nat × Chunk)}
    (hy : Y P (.mov X) nm t hm y u) : Step P w0 wr F0 o a w t h y u := by
  simp only [Y, XOp.eff, force_eq] at hy
  obtain ⟨rfl, rfl⟩ := hy
  refine Step.value hs (v := a.eval x) ?_ (ev_sound hs hx)
  rcases ho with ho | ho <;> simp [execOp, ho]
theorem seesA_bool {v : Value} {b : Bool} (h : SeesA w F E (.d (.bool b)) v) : v = .bool b := by
  cases h with | d h => cases h; rfl
theorem seesA_int {v : Value} {k : IntKind} {n : Int} (h : SeesA w F E (.d (.int k n)) v) : v = .int k n := by
  cases h with | d h => cases h; rfl
theorem seesA_str {v : Value} {s : ByteArray} (h : SeesA w F E (.d (.str s)) v) : v = .string s := by
  cases h with | d h => cases h; rfl
theorem s_pick (hs : SimAt w0 wr F0 F E ⟨t, h⟩ a w) {c x z : Operand} {C X Z : Opd} (hc : cOpd c = some C) (hx : cOpd x = some X) (hz : cOpd z = some Z) (ho : o.op = .pick c x z)
    {y : AV} {u : List (Nat × Chunk)} (hy : Y P (.pick C X Z) nm t hm y u) : Step P w0 wr F0 o a w t h y u := by
  simp only [Y, XOp.eff] at hy
  have hcs := ev_sound hs hc
  split at hy
  · rename_i e; rw [e] at hcs; have hcv := seesA_bool hcs
    rw [force_eq] at hy; obtain ⟨rfl, rfl⟩ := hy
    exact Step.value hs (v := a.eval x) (by simp [execOp, ho, hcv, asBool]) (ev_sound hs hx)
  · rename_i e; rw [e] at hcs; have hcv := seesA_bool hcs
    rw [force_eq] at hy; obtain ⟨rfl, rfl⟩ := hy
    exact Step.value hs (v := a.eval z) (by simp [execOp, ho, hcv, asBool]) (ev_sound hs hz)
  · exact hy.elim
theorem s_not (hs : SimAt w0 wr F0 F E ⟨t, h⟩ a w) {x : Operand} {X : Opd} (hx : cOpd x = some X) {T : TypeId} (ho : o.op = .unOp .not T x)
    {y : AV} {u : List (Nat × Chunk)} (hy : Y P (.not X) nm t hm y u) : Step P w0 wr F0 o a w t h y u := by
  simp only [Y, XOp.eff] at hy
  have hxs := ev_sound hs hx
  split at hy
  · rename_i b e; rw [e] at hxs; have hv := seesA_bool hxs
    obtain ⟨rfl, rfl⟩ := hy
    exact Step.value hs (v := .bool !b) (by simp [execOp, ho, hv, Op.unary]) (.d (.bool _))
  · exact hy.elim
theorem s_neg (hs : SimAt w0 wr F0 F E ⟨t, h⟩ a w) {x : Operand} {X : Opd} (hx : cOpd x = some X) {T : TypeId} (ho : o.op = .unOp .neg T x)
    {y : AV} {u : List (Nat × Chunk)} (hy : Y P (.neg X) nm t hm y u) : Step P w0 wr F0 o a w t h y u := by
  simp only [Y, XOp.eff] at hy
  have hxs := ev_sound hs hx
  split at hy
  · rename_i k n e; rw [e] at hxs; have hv := seesA_int hxs
    rw [wrapK_eq] at hy
    obtain ⟨rfl, rfl⟩ := hy
    exact Step.value hs (v := .int k (k.wrap (0 - n))) (by simp [execOp, ho, hv, Op.unary, Op.intArith]) (.d (.int _ _))
  · exact hy.elim
theorem s_conv (hs : SimAt w0 wr F0 F E ⟨t, h⟩ a w) {x : Operand} {X : Opd} (hx : cOpd x = some X) {S T : TypeId} {k : IntKind} (hT : P.underlying T = some (.int k)) (hS : (P.underlying S).isSome = true) (ho : o.op = .convert S T x)
    {y : AV} {u : List (Nat × Chunk)} (hy : Y P (.conv k X) nm t hm y u) : Step P w0 wr F0 o a w t h y u := by
  simp only [Y, XOp.eff] at hy
  have hxs := ev_sound hs hx
  split at hy
  · rename_i k' n e; rw [e] at hxs; have hv := seesA_int hxs
    rw [wrapK_eq] at hy
    obtain ⟨rfl, rfl⟩ := hy
    obtain ⟨ds, hds⟩ := Option.isSome_iff_exists.1 hS
    refine Step.value hs (v := .int k (k.wrap n)) ?_ (.d (.int _ _))
    have e1 := fun w => run_underlying hT w
    have e2 := fun w => run_underlying hds w
    cases ds <;> simp [execOp, ho, hv, convert, e1, e2, Conv.intToInt]
  · exact hy.elim
theorem run_guard (op : BinOp) (T : TypeId) (x y : Operand) (u v : Value) (h1 : ∀ c, u ≠ .agg c) (h2 : u ≠ .nilIface) : (eqGuard op T x y u v).run P w = .ok () w := by
  unfold eqGuard
  cases op <;> cases u <;> first | rfl | exact absurd rfl (h1 _) | exact absurd rfl h2
theorem run_bin {op : BinOp} {T T' : TypeId} {x y : Operand} (ho : o.op = .binOp op T x y T') {v : Value} (hg : ∀ c, a.eval x ≠ .agg c) (hg2 : a.eval x ≠ .nilIface)
    (hr : (binOp op T (a.eval x) (a.eval y)).run P w = .ok v w) : (execOp a.eval o).run P w = .ok (.value v) w := by
  simp [execOp, ho, run_guard op T x y (a.eval x) (a.eval y) hg hg2, hr]
def arOf : BinOp → Option Ar
  | .add => some .add | .sub => some .sub | .mul => some .mul | .quo => some .quo | .rem => some .rem
  | .and => some .and | .or => some .or | .xor => some .xor | .andNot => some .andNot | .shl => some .shl | .shr => some .shr
  | _ => none
def cmOf : BinOp → Option Cm
  | .lss => some .lss | .leq => some .leq | .gtr => some .gtr | .geq => some .geq | .eql => some .eql | .neq => some .neq
  | _ => none
theorem run_arith {op : BinOp} {r : Ar} (hr : arOf op = some r) {T : TypeId} {k k' : IntKind} {p q : Int} {K : Int → Prop} (hk : (r ≠ .shl ∧ r ≠ .shr) → k' = k) (h : r.int k p q K) :
    ∃ n, K n ∧ (binOp op T (.int k p) (.int k' q)).run P w = .ok (.int k n) w := by
  rw [Ar.int_eq] at h
  cases op <;> simp only [arOf, Option.some.injEq, reduceCtorEq] at hr <;> subst hr
  case add => cases hk (by simp); exact ⟨_, h, by simp [binOp, Op.intArith]⟩
  case sub => cases hk (by simp); exact ⟨_, h, by simp [binOp, Op.intArith]⟩
  case mul => cases hk (by simp); exact ⟨_, h, by simp [binOp, Op.intArith]⟩
  case quo => cases hk (by simp); exact ⟨_, h.2, by simp [binOp, Op.intDiv, h.1]⟩
  case rem => cases hk (by simp); exact ⟨_, h.2, by simp [binOp, Op.intDiv, h.1]⟩
  case and => cases hk (by simp); exact ⟨_, h, by simp [binOp, Op.intBits]⟩
  case or => cases hk (by simp); exact ⟨_, h, by simp [binOp, Op.intBits]⟩
  case xor => cases hk (by simp); exact ⟨_, h, by simp [binOp, Op.intBits]⟩
  case andNot => cases hk (by simp); exact ⟨_, h, by simp [binOp, Op.intBits]⟩
  case shl => exact ⟨_, h.2, by have := h.1; simp [binOp, Op.shift, show ¬ q < 0 from by omega]⟩
  case shr => exact ⟨_, h.2, by have := h.1; simp [binOp, Op.shift, show ¬ q < 0 from by omega]⟩
theorem s_arith (hs : SimAt w0 wr F0 F E ⟨t, h⟩ a w) {op : BinOp} {r : Ar} (hr : arOf op = some r) {x z : Operand} {X Z : Opd} (hx : cOpd x = some X) (hz : cOpd z = some Z) {T T' : TypeId} (ho : o.op = .binOp op T x z T')
    {y : AV} {u : List (Nat × Chunk)} (hy : Y P (.arith r X Z) nm t hm y u) : Step P w0 wr F0 o a w t h y u := by
  simp only [Y, XOp.eff] at hy
  have hxs := ev_sound hs hx
  have hzs := ev_sound hs hz
  split at hy
  · rename_i k p k' q e1 e2
    rw [e1] at hxs; have hv := seesA_int hxs
    rw [e2] at hzs; have hv2 := seesA_int hzs
    have key : (r ≠ .shl ∧ r ≠ .shr → k' = k) ∧ r.int k p q (fun n => AV.d (.int k n) = y ∧ [] = u) := by
      split at hy
      · exact ⟨fun h => absurd rfl h.1, hy⟩
      · exact ⟨fun h => absurd rfl h.2, hy⟩
      · exact ⟨fun _ => hy.1, hy.2⟩
    obtain ⟨n, ⟨rfl, rfl⟩, hrun⟩ := run_arith (P := P) (w := w) (T := T) hr key.1 key.2
    refine Step.value hs (v := .int k n) (run_bin ho (by simp [hv]) (by simp [hv]) (by rw [hv, hv2]; exact hrun)) (.d (.int _ _))
  · rename_i p q e1 e2
    rw [e1] at hxs; have hv := seesA_str hxs
    rw [e2] at hzs; have hv2 := seesA_str hzs
    split at hy
    · obtain ⟨hsz, rfl, rfl⟩ := hy
      cases op <;> simp only [arOf, Option.some.injEq, reduceCtorEq] at hr
      refine Step.value hs (v := .string (p ++ q)) (run_bin ho (by simp [hv]) (by simp [hv]) ?_) (.d (.str _))
      have : ¬ (((p.size + q.size : Nat) : Int) > IntKind.i64.max) := by
        unfold maxRow at hsz
        have : IntKind.i64.max = 9223372036854775807 := by decide
        omega
      rw [hv, hv2]
      simp only [binOp, Op.stringOp, this, if_false]
      rfl
    · exact hy.elim
  · exact hy.elim
theorem s_cmp (hs : SimAt w0 wr F0 F E ⟨t, h⟩ a w) {op : BinOp} {r : Cm} (hr : cmOf op = some r) {x z : Operand} {X Z : Opd} (hx : cOpd x = some X) (hz : cOpd z = some Z) {T T' : TypeId} (ho : o.op = .binOp op T x z T')
    {y : AV} {u : List (Nat × Chunk)} (hy : Y P (.cmp r X Z) nm t hm y u) : Step P w0 wr F0 o a w t h y u := by
  simp only [Y, XOp.eff] at hy
  have hxs := ev_sound hs hx
  have hzs := ev_sound hs hz
  split at hy
  · rename_i k p k' q e1 e2
    rw [e1] at hxs; have hv := seesA_int hxs
    rw [e2] at hzs; have hv2 := seesA_int hzs
    obtain ⟨rfl, rfl, rfl⟩ := hy
    refine Step.value hs (v := .bool (r.int p q)) (run_bin ho (by simp [hv]) (by simp [hv]) ?_) (.d (.bool _))
    rw [hv, hv2]
    cases op <;> simp only [cmOf, Option.some.injEq, reduceCtorEq] at hr <;> subst hr <;> simp [binOp, Op.intCmp, Cm.int]
  · rename_i p q e1 e2
    rw [e1] at hxs; have hv := seesA_str hxs
    rw [e2] at hzs; have hv2 := seesA_str hzs
    split at hy
    · obtain ⟨rfl, rfl⟩ := hy
      cases op <;> simp only [cmOf, Option.some.injEq, reduceCtorEq] at hr
      exact Step.value hs (v := .bool (p.toList == q.toList)) (run_bin ho (by simp [hv]) (by simp [hv]) (by rw [hv, hv2]; rfl)) (.d (.bool _))
    · obtain ⟨rfl, rfl⟩ := hy
      cases op <;> simp only [cmOf, Option.some.injEq, reduceCtorEq] at hr
      exact Step.value hs (v := .bool (!(p.toList == q.toList))) (run_bin ho (by simp [hv]) (by simp [hv]) (by rw [hv, hv2]; rfl)) (.d (.bool _))
    · exact hy.elim
  · exact hy.elim
theorem s_cmpB (hs : SimAt w0 wr F0 F E ⟨t, h⟩ a w) {op : BinOp} {ng : Bool} (hop : op = if ng then .neq else .eql) {x z : Operand} {X Z : Opd} (hx : cOpd x = some X) (hz : cOpd z = some Z) {T T' : TypeId} (ho : o.op = .binOp op T x z T')
    (hT : P.underlying T = some .bool) {y : AV} {u : List (Nat × Chunk)} (hy : Y P (.cmpB ng X Z) nm t hm y u) : Step P w0 wr F0 o a w t h y u := by
  simp only [Y, XOp.eff] at hy
  have hxs := ev_sound hs hx
  have hzs := ev_sound hs hz
  split at hy
  · rename_i p q e1 e2
    rw [e1] at hxs; have hv := seesA_bool hxs
    rw [e2] at hzs; have hv2 := seesA_bool hzs
    obtain ⟨rfl, rfl⟩ := hy
    refine Step.value hs (v := .bool (if ng then !(p == q) else p == q)) (run_bin ho (by simp [hv]) (by simp [hv]) ?_) (.d (.bool _))
    rw [hv, hv2]
    have e : (Op.equal T (.bool p) (.bool q)).run P w = .ok (p == q) w := by
      unfold Op.equal Op.maxDepth
      show (Op.equalIn (9999 + 1) T (.bool p) (.bool q)).run P w = _
      rw [Op.equalIn, Sem.run_bind, run_underlying hT]
      rfl
    cases ng <;> subst hop <;> simp [binOp, e]
  · exact hy.elim
theorem seesA_pd {v : Value} {sz : Nat} {l : List (List D)} {e off : Nat} (h : SeesA w F E (.d (.pd sz l e off)) v) :
    ∃ k q vals, v = .pointer (some ⟨k, q + e * sz + off, none⟩) ∧ F k ∧ Laid w F k q sz l vals := by
  cases h with | d h => exact laid_pd h
theorem seesA_ptr {v : Value} {b sz e off : Nat} (h : SeesA w F E (.ptr b sz e off) v) : ∃ k q, v = .pointer (some ⟨k, q + e * sz + off, none⟩) ∧ E.loc b = some (k, q) := by
  cases h with | ptr h => exact ⟨_, _, rfl, h⟩
theorem seesA_fnd {v : Value} {f : FuncId} {c d : List D} (h : SeesA w F E (.d (.fn f c d)) v) : ∃ fv cv, v = .func (.func f) fv cv ∧ fv.size = c.length ∧ cv.size = d.length ∧
    (∀ (i : Nat) (x : D) (v : Value), c[i]? = some x → fv[i]? = some v → Sees w F x v) ∧ (∀ (i : Nat) (x : D) (v : Value), d[i]? = some x → cv[i]? = some v → Sees w F x v) := by
  cases h with | d h => cases h with | fn h1 h2 h3 h4 => exact ⟨_, _, rfl, h1, h2, h3, h4⟩
theorem seesA_fn {v : Value} {f : FuncId} {c d : List AV} (h : SeesA w F E (.fn f c d) v) : ∃ fv cv, v = .func (.func f) fv cv ∧ fv.size = c.length ∧ cv.size = d.length ∧
    (∀ (i : Nat) (x : AV) (v : Value), c[i]? = some x → fv[i]? = some v → SeesA w F E x v) ∧ (∀ (i : Nat) (x : AV) (v : Value), d[i]? = some x → cv[i]? = some v → SeesA w F E x v) := by
  cases h with | fn h1 h2 h3 h4 => exact ⟨_, _, rfl, h1, h2, h3, h4⟩
theorem seesA_agg {v : Value} {c : List D} (h : SeesA w F E (.d (.agg c)) v) : ∃ vs, v = .agg vs ∧ vs.size = c.length ∧ (∀ (i : Nat) (v : Value), vs[i]? = some v → v.oneCell' = true) ∧
    ∀ (i : Nat) (x : D) (v : Value), c[i]? = some x → vs[i]? = some v → Sees w F x v := by
  cases h with | d h => cases h with | agg h1 h2 h3 => exact ⟨_, rfl, h1, h2, h3⟩
theorem seesA_mix {v : Value} {c : List AV} (h : SeesA w F E (.mix c) v) : ∃ vs, v = .agg vs ∧ vs.size = c.length ∧ (∀ (i : Nat) (v : Value), vs[i]? = some v → v.oneCell' = true) ∧
    ∀ (i : Nat) (x : AV) (v : Value), c[i]? = some x → vs[i]? = some v → SeesA w F E x v := by
  cases h with | mix h1 h2 h3 => exact ⟨_, rfl, h1, h2, h3⟩
theorem seesA_tup {v : Value} {c : List AV} (h : SeesA w F E (.tup c) v) : ∃ vs, v = .tuple vs ∧ vs.size = c.length ∧
    ∀ (i : Nat) (x : AV) (v : Value), c[i]? = some x → vs[i]? = some v → SeesA w F E x v := by
  cases h with | tup h1 h3 => exact ⟨_, rfl, h1, h3⟩
theorem seesA_row {v : Value} {b sz : Nat} (h : SeesA w F E (.row b sz) v) : (∃ k cap c T fz, v = .slice (some ⟨k, 0, none⟩) (E.ln b) cap ∧ E.loc b = some (k, 0) ∧ w.heap[k]? = some (.cells c T fz) ∧ E.ln b ≤ cap ∧ cap * sz ≤ c.size) ∨
    ∃ ad, v = .slice ad 0 0 ∧ E.loc b = none ∧ E.ln b = 0 := by
  cases h with
  | row h hb hlen hroom => exact .inl ⟨_, _, _, _, _, rfl, h, hb, hlen, hroom⟩
  | rowE h h0 => exact .inr ⟨_, rfl, h, h0⟩
theorem seesA_sub {v : Value} {b sz off m : Nat} (h : SeesA w F E (.sub b sz off m) v) : ∃ k q cap, v = .slice (some ⟨k, q + off * sz, none⟩) m cap ∧ E.loc b = some (k, q) ∧ m ≤ cap := by
  cases h with | sub h1 h2 => exact ⟨_, _, _, rfl, h1, h2⟩
theorem seesA_sub' {v : Value} {b sz off m : Nat} (h : SeesA w F E (.sub b sz off m) v) : ∃ k q cap c T fz, v = .slice (some ⟨k, q + off * sz, none⟩) m cap ∧ E.loc b = some (k, q) ∧ m ≤ cap ∧ w.heap[k]? = some (.cells c T fz) ∧ E.ln b ≤ off + cap ∧ q + (off + cap) * sz ≤ c.size := by
  cases h with | sub h1 h2 h3 h4 h5 => exact ⟨_, _, _, _, _, _, rfl, h1, h2, h3, h4, h5⟩
theorem seesA_emp {v : Value} (h : SeesA w F E (.d .emp) v) : ∃ ad, v = .slice ad 0 0 := by
  cases h with | d h => cases h; exact ⟨_, rfl⟩
theorem seesA_lst {v : Value} {sz : Nat} {l : List (List D)} (h : SeesA w F E (.d (.lst sz l)) v) : (∃ ad cap, v = .slice ad 0 cap ∧ l = []) ∨
    ∃ k q cap vals, v = .slice (some ⟨k, q, none⟩) l.length cap ∧ F k ∧ l.length ≤ cap ∧ Laid w F k q sz l vals := by
  cases h with
  | d h =>
    cases h with
    | lnil sz ad cap => exact .inl ⟨_, _, rfl, rfl⟩
    | lst vals hF hb hcap hc hs => exact .inr ⟨_, _, _, vals, rfl, hF, hcap, ⟨_, _, _, hb, hc⟩, hs⟩
theorem s_nilchk (hs : SimAt w0 wr F0 F E ⟨t, h⟩ a w) {x : Operand} {X : Opd} (hx : cOpd x = some X) (ho : o.op = .nilCheck x)
    {y : AV} {u : List (Nat × Chunk)} (hy : Y P (.nilchk X) nm t hm y u) : Step P w0 wr F0 o a w t h y u := by
  simp only [Y, XOp.eff] at hy
  have hxs := ev_sound hs hx
  split at hy
  · rename_i sz l e off e1
    rw [e1] at hxs
    obtain ⟨rfl, rfl⟩ := hy
    refine Step.value hs (v := a.eval x) ?_ hxs
    obtain ⟨k, q, _, hv, _⟩ := seesA_pd hxs
    simp [execOp, ho, hv]
  · rename_i f c d e1
    rw [e1] at hxs
    obtain ⟨rfl, rfl⟩ := hy
    refine Step.value hs (v := a.eval x) ?_ hxs
    obtain ⟨_, _, hv, _⟩ := seesA_fnd hxs
    simp [execOp, ho, hv]
  · rename_i b sz e off e1
    rw [e1] at hxs
    obtain ⟨rfl, rfl⟩ := hy
    refine Step.value hs (v := a.eval x) ?_ hxs
    obtain ⟨k, q, hv, _⟩ := seesA_ptr hxs
    simp [execOp, ho, hv]
  · rename_i f c d e1
    rw [e1] at hxs
    obtain ⟨rfl, rfl⟩ := hy
    refine Step.value hs (v := a.eval x) ?_ hxs
    obtain ⟨_, _, hv, _⟩ := seesA_fn hxs
    simp [execOp, ho, hv]
  · exact hy.elim
end
end Go.X
namespace Go.X
open Go Go.RowKit
section
variable {P : Program} {w0 : World} {wr : Wr} {F0 F : Nat → Prop} {E : Env} {t : List AV} {h hm : List Chunk} {a : Act} {w w' : World} {o : Oper} {nm : Nat}
theorem pd_of_laid {k q sz : Nat} {l : List (List D)} {vals : Nat → Nat → Value} (hF : F k) (hl : Laid w F k q sz l vals) (e off : Nat) :
    Sees w F (.pd sz l e off) (.pointer (some ⟨k, q + e * sz + off, none⟩)) := by
  obtain ⟨c, T, fz, hc, hcc⟩ := hl.c
  exact .pd vals hF hc hcc hl.s
theorem lst_of_laid {k q sz cap : Nat} {l : List (List D)} {vals : Nat → Nat → Value} (hF : F k) (hl : Laid w F k q sz l vals) (hcap : l.length ≤ cap) :
    Sees w F (.lst sz l) (.slice (some ⟨k, q, none⟩) l.length cap) := by
  obtain ⟨c, T, fz, hc, hcc⟩ := hl.c
  exact .lst vals hF hc hcap hcc hl.s
theorem s_faddr (hs : SimAt w0 wr F0 F E ⟨t, h⟩ a w) {x : Operand} {X : Opd} (hx : cOpd x = some X) {T : TypeId} {i : Nat} {fs : Array Field} {f : Field} {n : Nat} (hT : P.underlying T = some (.struct fs))
    (hf : fs[i]? = some f) (hn : tSize P f.type = some n) (hn0 : n ≠ 0) (ho : o.op = .fieldAddr T x i)
    {y : AV} {u : List (Nat × Chunk)} (hy : Y P (.faddr f.offset X) nm t hm y u) : Step P w0 wr F0 o a w t h y u := by
  simp only [Y, XOp.eff] at hy
  have hxs := ev_sound hs hx
  have run : ∀ k q, a.eval x = .pointer (some ⟨k, q, none⟩) → (execOp a.eval o).run P w = .ok (.value (.pointer (some ⟨k, q + f.offset, none⟩))) w := by
    intro k q hv
    simp [execOp, ho, hv, Instr.fieldAt, run_underlying hT, hf, Instr.sureAddr, fieldPlace, run_sizeOf hn, hn0, Addr.add_mid]
  split at hy
  · rename_i sz l e off e1
    rw [e1] at hxs
    obtain ⟨rfl, rfl⟩ := hy
    obtain ⟨k, q, vals, hv, hF, hl⟩ := seesA_pd hxs
    refine Step.value hs (run _ _ hv) (.d ?_)
    rw [Nat.add_assoc]
    exact pd_of_laid hF hl e (off + f.offset)
  · rename_i b sz e off e1
    rw [e1] at hxs
    obtain ⟨rfl, rfl⟩ := hy
    obtain ⟨k, q, hv, hloc⟩ := seesA_ptr hxs
    refine Step.value hs (run _ _ hv) ?_
    rw [Nat.add_assoc]
    exact .ptr hloc
  · exact hy.elim
theorem s_iaddrA (hs : SimAt w0 wr F0 F E ⟨t, h⟩ a w) {x i : Operand} {X I : Opd} (hx : cOpd x = some X) (hi : cOpd i = some I) {T el : TypeId} {len esz : Nat} (hT : P.underlying T = some (.array len el))
    (hn : tSize P el = some esz) (ho : o.op = .indexAddr T x i)
    {y : AV} {u : List (Nat × Chunk)} (hy : Y P (.iaddrA len esz X I) nm t hm y u) : Step P w0 wr F0 o a w t h y u := by
  simp only [Y, XOp.eff] at hy
  have hxs := ev_sound hs hx
  have his := ev_sound hs hi
  have run : ∀ k q kk n, a.eval x = .pointer (some ⟨k, q, none⟩) → a.eval i = .int kk n → 0 ≤ n → n < (len : Int) →
      (execOp a.eval o).run P w = .ok (.value (.pointer (some ⟨k, q + n.toNat * esz, none⟩))) w := by
    intro k q kk n hv hn' h0 h1
    simp [execOp, ho, hv, hn', Instr.indexAt, asIntOf, run_underlying hT, Instr.sureAddr, h0, h1, run_sizeOf hn, Addr.add_mid]
  split at hy
  · rename_i kk n e2
    rw [e2] at his; have hiv := seesA_int his
    split at hy
    · rename_i sz l e off e1
      rw [e1] at hxs
      obtain ⟨⟨h0, h1⟩, rfl, rfl⟩ := hy
      obtain ⟨k, q, vals, hv, hF, hl⟩ := seesA_pd hxs
      refine Step.value hs (run _ _ _ _ hv hiv h0 h1) (.d ?_)
      rw [Nat.add_assoc]
      exact pd_of_laid hF hl e _
    · rename_i b sz e off e1
      rw [e1] at hxs
      obtain ⟨⟨h0, h1⟩, rfl, rfl⟩ := hy
      obtain ⟨k, q, hv, hloc⟩ := seesA_ptr hxs
      refine Step.value hs (run _ _ _ _ hv hiv h0 h1) ?_
      rw [Nat.add_assoc]
      exact .ptr hloc
    · exact hy.elim
  · exact hy.elim
theorem s_iaddrS (hs : SimAt w0 wr F0 F E ⟨t, h⟩ a w) (hsub : Sub hm h) {x i : Operand} {X I : Opd} (hx : cOpd x = some X) (hi : cOpd i = some I) {T el : TypeId} {esz : Nat} (hT : P.underlying T = some (.slice el))
    (hn : tSize P el = some esz) (ho : o.op = .indexAddr T x i)
    {y : AV} {u : List (Nat × Chunk)} (hy : Y P (.iaddrS esz X I) nm t hm y u) : Step P w0 wr F0 o a w t h y u := by
  simp only [Y, XOp.eff] at hy
  have hxs := ev_sound hs hx
  have his := ev_sound hs hi
  have run : ∀ k q len cap kk n, a.eval x = .slice (some ⟨k, q, none⟩) len cap → a.eval i = .int kk n → 0 ≤ n → n < (len : Int) →
      (execOp a.eval o).run P w = .ok (.value (.pointer (some ⟨k, q + n.toNat * esz, none⟩))) w := by
    intro k q len cap kk n hv hn' h0 h1
    simp [execOp, ho, hv, hn', Instr.indexAt, asIntOf, run_underlying hT, h0, h1, run_sizeOf hn, Addr.add_mid]
  split at hy
  · rename_i kk n e2
    rw [e2] at his; have hiv := seesA_int his
    split at hy
    · rename_i sz l e1
      rw [e1] at hxs
      obtain ⟨⟨rfl, h0, h1⟩, rfl, rfl⟩ := hy
      rcases seesA_lst hxs with ⟨ad, cap, hv, rfl⟩ | ⟨k, q, cap, vals, hv, hF, hcap, hl⟩
      · simp at h1; omega
      · refine Step.value hs (run _ _ _ _ _ _ hv hiv h0 h1) (.d ?_)
        exact pd_of_laid hF hl n.toNat 0
    · rename_i b sz e1
      rw [e1] at hxs
      split at hy
      · rename_i l hc
        obtain ⟨⟨rfl, h0, h1⟩, rfl, rfl⟩ := hy
        have hch := sub_get hsub hc trivial
        rcases seesA_row hxs with ⟨k, cap, c, T', fz, hv, hloc, hb, hlen, hroom⟩ | ⟨ad, hv, hloc, h0'⟩
        · obtain ⟨vals, hl, _, hln, _⟩ := laid_chunk (hs.heap _ _ hch) hloc
          rw [hln] at hv
          have h1' : n < (l.length : Int) := h1
          refine Step.value hs (run _ _ _ _ _ _ hv hiv h0 h1') ?_
          exact .ptr hloc
        · exfalso
          have := hs.heap _ _ hch
          cases this with
          | empty => simp at h1; omega
          | data _ hl2 => rw [hloc] at hl2; simp at hl2
      · rename_i isz rs hole hc
        obtain ⟨⟨rfl, h0, h1⟩, rfl, rfl⟩ := hy
        have hch := sub_get hsub hc trivial
        rcases seesA_row hxs with ⟨k, cap, c, T', fz, hv, hloc, hb, hlen, hroom⟩ | ⟨ad, hv, hloc, h0'⟩
        · have hln : E.ln b = rs.length := by
            cases hs.heap _ _ hch with
            | nestE _ _ h2 => rw [hloc] at h2; simp at h2
            | nest _ _ hn => exact hn
          rw [hln] at hv
          have h1' : n < (rs.length : Int) := h1
          refine Step.value hs (run _ _ _ _ _ _ hv hiv h0 h1') ?_
          exact .ptr hloc
        · exfalso
          have := hs.heap _ _ hch
          cases this with
          | nestE => simp at h1; omega
          | nest _ hl2 => rw [hloc] at hl2; simp at hl2
      · exact hy.elim
    · rename_i b sz off m e1
      rw [e1] at hxs
      obtain ⟨⟨rfl, h0, h1⟩, rfl, rfl⟩ := hy
      obtain ⟨k, q, cap, hv, hloc, hm1⟩ := seesA_sub hxs
      refine Step.value hs (run _ _ _ _ _ _ hv hiv h0 h1) ?_
      have e3 : q + off * sz + n.toNat * sz = q + (off + n.toNat) * sz + 0 := by rw [Nat.add_mul]; omega
      rw [e3]
      exact .ptr hloc
    · exact hy.elim
  · exact hy.elim
theorem run_load_one {T : TypeId} (hT : tAgg P T = some false) {x : Operand} (ho : o.op = .load T x) {k q : Nat} {v : Value} (hv : a.eval x = .pointer (some ⟨k, q, none⟩)) (hc : w.cell? ⟨k, q, none⟩ = some v) :
    (execOp a.eval o).run P w = .ok (.value v) w := by
  simp [execOp, ho, hv, Instr.loadAt, Instr.sureAddr, loadVar, run_isAgg hT, hc]
theorem run_load_agg {T : TypeId} {n : Nat} (hT : grp P T = some (some n)) {x : Operand} (ho : o.op = .load T x) {k q : Nat} {cs : List Value} (hv : a.eval x = .pointer (some ⟨k, q, none⟩)) (hlen : cs.length = n)
    (hc : w.rangeAt k q cs) : (execOp a.eval o).run P w = .ok (.value (.agg cs.toArray)) w := by
  obtain ⟨h1, h2⟩ := grp_some hT
  have hl : (loadCells ⟨k, q, none⟩ n).run P w = .ok cs.toArray w := by
    rw [← hlen]
    exact run_loadCells_list (P := P) w ⟨k, q, none⟩ cs (fun j v hv => by rw [Addr.add_mid]; exact hc j v hv)
  simp [execOp, ho, hv, Instr.loadAt, Instr.sureAddr, loadVar, run_isAgg h1, run_sizeOf h2, hl]
theorem chunk_mix {b : Nat} {cs : List AV} {k q : Nat} (h : ChunkAt w F E b (.mix cs)) (hloc : E.loc b = some (k, q)) :
    ∃ vals : Nat → Value, ¬ F k ∧ (∀ j, j < cs.length → w.cell? ⟨k, q + j, none⟩ = some (vals j) ∧ (vals j).oneCell' = true) ∧ (∀ j x, cs[j]? = some x → SeesA w F E x (vals j)) ∧
      ∃ c T, w.heap[k]? = some (.cells c T (0, 0)) ∧ ∀ j, j < cs.length → c[q + j]? = some (vals j) := by
  cases h with
  | mix vals hl hb hF hc hs =>
    rw [hloc] at hl; simp only [Option.some.injEq, Prod.mk.injEq] at hl
    obtain ⟨rfl, rfl⟩ := hl
    exact ⟨vals, hF, fun j hj => ⟨by rw [cell_of_row _ _ _ _ _ _ hb]; exact (hc j hj).1, (hc j hj).2⟩, hs, _, _, hb, fun j hj => (hc j hj).1⟩
theorem s_load (hs : SimAt w0 wr F0 F E ⟨t, h⟩ a w) (hsub : Sub hm h) {x : Operand} {X : Opd} (hx : cOpd x = some X) {T : TypeId} {g : Option Nat} (hT : grp P T = some g) (ho : o.op = .load T x)
    {y : AV} {u : List (Nat × Chunk)} (hy : Y P (.load g X) nm t hm y u) : Step P w0 wr F0 o a w t h y u := by
  simp only [Y, XOp.eff] at hy
  have hxs := ev_sound hs hx
  cases g with
  | none =>
    obtain ⟨hT1, hT2⟩ := grp_none hT
    simp only [rd] at hy
    split at hy
    · rename_i sz l e off e1
      rw [e1] at hxs
      obtain ⟨d, hd, rfl, rfl⟩ := hy
      obtain ⟨k, q, vals, hv, hF, hl⟩ := seesA_pd hxs
      obtain ⟨g1, g2, g3⟩ := hl.get hd
      exact Step.value hs (run_load_one hT1 ho hv g1) (.d g3)
    · rename_i b sz e off e1
      rw [e1] at hxs
      obtain ⟨k, q, hv, hloc⟩ := seesA_ptr hxs
      split at hy
      · rename_i sz' l hc
        obtain ⟨rfl, d, hd, rfl, rfl⟩ := hy
        obtain ⟨vals, hl, _⟩ := laid_chunk (hs.heap _ _ (sub_get hsub hc trivial)) hloc
        obtain ⟨g1, g2, g3⟩ := hl.get hd
        exact Step.value hs (run_load_one hT1 ho hv g1) (.d g3)
      · rename_i cs hc
        obtain ⟨rfl, d, hd, rfl, rfl⟩ := hy
        obtain ⟨vals, _, h1, h2, _⟩ := chunk_mix (hs.heap _ _ (sub_get hsub hc trivial)) hloc
        have hlt := (List.getElem?_eq_some_iff.1 hd).1
        simp only [Nat.zero_mul, Nat.add_zero] at hv
        exact Step.value hs (run_load_one hT1 ho hv (h1 off hlt).1) (h2 off d hd)
      · exact hy.elim
    · exact hy.elim
  | some n =>
    simp only [rd] at hy
    split at hy
    · rename_i sz l e off e1
      rw [e1] at hxs
      obtain ⟨cs, hd, rfl, rfl⟩ := hy
      obtain ⟨k, q, vals, hv, hF, hl⟩ := seesA_pd hxs
      obtain ⟨g1, g2, g3, g4⟩ := hl.sub hd
      obtain ⟨r1, r2⟩ := laid_agg g1 g3 g4
      exact Step.value hs (run_load_agg hT ho hv (by simp) r1) (.d r2)
    · rename_i b sz e off e1
      rw [e1] at hxs
      obtain ⟨k, q, hv, hloc⟩ := seesA_ptr hxs
      split at hy
      · rename_i sz' l hc
        obtain ⟨rfl, cs, hd, rfl, rfl⟩ := hy
        obtain ⟨vals, hl, _⟩ := laid_chunk (hs.heap _ _ (sub_get hsub hc trivial)) hloc
        obtain ⟨g1, g2, g3, g4⟩ := hl.sub hd
        obtain ⟨r1, r2⟩ := laid_agg g1 g3 g4
        exact Step.value hs (run_load_agg hT ho hv (by simp) r1) (.d r2)
      · rename_i cs hc
        obtain ⟨rfl, hlen, rfl, rfl⟩ := hy
        obtain ⟨vals, _, h1, h2, _⟩ := chunk_mix (hs.heap _ _ (sub_get hsub hc trivial)) hloc
        simp only [Nat.zero_mul, Nat.add_zero] at hv
        have hr : w.rangeAt k (q + off) ((List.range n).map fun j => vals (off + j)) := by
          intro j v hv
          simp only [List.getElem?_map, Option.map_eq_some_iff] at hv
          obtain ⟨m, hm', rfl⟩ := hv
          have hj := (List.getElem?_eq_some_iff.1 hm').1
          simp at hj
          rw [List.getElem?_range hj] at hm'
          simp only [Option.some.injEq] at hm'; subst hm'
          have := (h1 (off + j) (by omega)).1
          rwa [Nat.add_assoc]
        refine Step.value hs (run_load_agg hT ho hv (by simp) hr) (.mix (by simp; omega) (fun j v hv => ?_) fun j x v hx hv => ?_)
        · simp only [List.getElem?_toArray, List.getElem?_map, Option.map_eq_some_iff] at hv
          obtain ⟨m, hm', rfl⟩ := hv
          have hj := (List.getElem?_eq_some_iff.1 hm').1
          simp at hj
          rw [List.getElem?_range hj] at hm'
          simp only [Option.some.injEq] at hm'; subst hm'
          exact (h1 (off + j) (by omega)).2
        · simp only [List.getElem?_toArray, List.getElem?_map, Option.map_eq_some_iff] at hv
          obtain ⟨m, hm', rfl⟩ := hv
          have hj := (List.getElem?_eq_some_iff.1 hm').1
          simp at hj
          rw [List.getElem?_range hj] at hm'
          simp only [Option.some.injEq] at hm'; subst hm'
          rw [List.getElem?_take, if_pos hj, List.getElem?_drop] at hx
          exact h2 _ _ hx
      · exact hy.elim
    · exact hy.elim
theorem run_part {T : TypeId} {g : Option Nat} (hT : grp P T = some g) (cs : Array Value) (off : Nat) :
    (part T cs off).run P w = match g with
      | some n => .ok (.agg (cs.extract off (off + n))) w
      | none => match cs[off]? with
        | some v => .ok v w
        | none => .halt (.stuck "part: no such cell") w := by
  unfold part
  cases g with
  | some n => obtain ⟨h1, h2⟩ := grp_some hT; simp [run_isAgg h1, run_sizeOf h2]
  | none =>
    obtain ⟨h1, h2⟩ := grp_none hT
    simp only [Sem.run_bind, run_isAgg h1, Result.andThen_ok, Bool.false_eq_true, if_false]
    cases cs[off]? <;> rfl
def PartD (g : Option Nat) (cs : List D) (off : Nat) (y : D) : Prop :=
  match g with
  | none => cs[off]? = some y
  | some n => ∃ ys, cut cs off n = some ys ∧ y = .agg ys
theorem part_d {T : TypeId} {g : Option Nat} (hT : grp P T = some g) {vs : Array Value} {cs : List D} {off : Nat} {y : D} (h1 : vs.size = cs.length) (h2 : ∀ (i : Nat) (v : Value), vs[i]? = some v → v.oneCell' = true)
    (h3 : ∀ (i : Nat) (x : D) (v : Value), cs[i]? = some x → vs[i]? = some v → Sees w F x v)
    (hy : PartD g cs off y) :
    ∃ v, (part T vs off).run P w = .ok v w ∧ Sees w F y v := by
  rw [run_part hT]
  cases g with
  | none =>
    have hlt : off < vs.size := by rw [h1]; exact (List.getElem?_eq_some_iff.1 hy).1
    have e := Array.getElem?_eq_getElem hlt
    simp only [e]
    exact ⟨_, rfl, h3 off y _ hy e⟩
  | some n =>
    obtain ⟨ys, hc, rfl⟩ := hy
    obtain ⟨c1, c2, c3⟩ := cut_some hc
    refine ⟨_, rfl, .agg (by simp; omega) (fun i v hv => ?_) fun i x v hx hv => ?_⟩
    · rw [Array.getElem?_extract] at hv
      split at hv
      · exact h2 _ _ hv
      · simp at hv
    · have hi : i < n := by rw [← c1]; exact (List.getElem?_eq_some_iff.1 hx).1
      rw [c3 i hi] at hx
      rw [Array.getElem?_extract] at hv
      split at hv
      · exact h3 _ _ _ hx hv
      · simp at hv
theorem s_field (hs : SimAt w0 wr F0 F E ⟨t, h⟩ a w) {x : Operand} {X : Opd} (hx : cOpd x = some X) {T : TypeId} {i : Nat} {fs : Array Field} {f : Field} {g : Option Nat} (hT : P.underlying T = some (.struct fs))
    (hf : fs[i]? = some f) (hg : grp P f.type = some g) (ho : o.op = .field T x i)
    {y : AV} {u : List (Nat × Chunk)} (hy : Y P (.field f.offset g X) nm t hm y u) : Step P w0 wr F0 o a w t h y u := by
  simp only [Y, XOp.eff] at hy
  have hxs := ev_sound hs hx
  split at hy
  · rename_i cs e1
    rw [e1] at hxs
    obtain ⟨vs, hv, h1, h2, h3⟩ := seesA_agg hxs
    have key : ∃ z, y = .d z ∧ u = [] ∧ PartD g cs f.offset z := by
      split at hy
      · obtain ⟨z, hz, rfl, rfl⟩ := hy; exact ⟨z, rfl, rfl, hz⟩
      · obtain ⟨z, hz, rfl, rfl⟩ := hy; exact ⟨_, rfl, rfl, z, hz, rfl⟩
    obtain ⟨z, rfl, rfl, hz⟩ := key
    obtain ⟨v, hr, hsee⟩ := part_d (P := P) hg h1 h2 h3 hz
    refine Step.value hs (v := v) ?_ (.d hsee)
    simp [execOp, ho, hv, Instr.field, run_underlying hT, hf, asAgg, hr]
  · rename_i cs e1
    rw [e1] at hxs
    obtain ⟨vs, hv, h1, h2, h3⟩ := seesA_mix hxs
    have hrun : ∀ v, (part f.type vs f.offset).run P w = .ok v w → (execOp a.eval o).run P w = .ok (.value v) w := fun v hr => by
      simp [execOp, ho, hv, Instr.field, run_underlying hT, hf, asAgg, hr]
    have hp := run_part (P := P) (w := w) hg vs f.offset
    split at hy
    · obtain ⟨z, hz, rfl, rfl⟩ := hy
      have hlt : f.offset < vs.size := by rw [h1]; exact (List.getElem?_eq_some_iff.1 hz).1
      have e := Array.getElem?_eq_getElem hlt
      simp only [e] at hp
      exact Step.value hs (hrun _ hp) (h3 _ _ _ hz e)
    · obtain ⟨hlen, rfl, rfl⟩ := hy
      refine Step.value hs (hrun _ hp) (.mix (by simp; omega) (fun i v hv => ?_) fun i x v hx hv => ?_)
      · rw [Array.getElem?_extract] at hv
        split at hv
        · exact h2 _ _ hv
        · simp at hv
      · rw [Array.getElem?_extract] at hv
        rw [List.getElem?_take] at hx
        split at hx
        · rw [List.getElem?_drop] at hx
          split at hv
          · exact h3 _ _ _ hx hv
          · simp at hv
        · simp at hx
  · exact hy.elim
theorem s_idx (hs : SimAt w0 wr F0 F E ⟨t, h⟩ a w) {x i : Operand} {X I : Opd} (hx : cOpd x = some X) (hi : cOpd i = some I) {T el : TypeId} {len esz : Nat} {g : Option Nat}
    (hT : P.underlying T = some (.array len el)) (hn : tSize P el = some esz) (hg : grp P el = some g) (ho : o.op = .index T x i)
    {y : AV} {u : List (Nat × Chunk)} (hy : Y P (.idx len esz g X I) nm t hm y u) : Step P w0 wr F0 o a w t h y u := by
  simp only [Y, XOp.eff] at hy
  have hxs := ev_sound hs hx
  have his := ev_sound hs hi
  split at hy
  · rename_i kk n cs e2 e1
    rw [e2] at his; have hiv := seesA_int his
    rw [e1] at hxs
    obtain ⟨⟨h0, h1⟩, hy⟩ := hy
    obtain ⟨vs, hv, g1, g2, g3⟩ := seesA_agg hxs
    have key : ∃ z, y = .d z ∧ u = [] ∧ PartD g cs (n.toNat * esz) z := by
      split at hy
      · obtain ⟨z, hz, rfl, rfl⟩ := hy; exact ⟨z, rfl, rfl, hz⟩
      · obtain ⟨z, hz, rfl, rfl⟩ := hy; exact ⟨_, rfl, rfl, z, hz, rfl⟩
    obtain ⟨z, rfl, rfl, hz⟩ := key
    obtain ⟨v, hr, hsee⟩ := part_d (P := P) hg g1 g2 g3 hz
    refine Step.value hs (v := v) ?_ (.d hsee)
    simp [execOp, ho, hv, hiv, Instr.index, run_underlying hT, asIntOf, h0, h1, run_sizeOf hn, hr]
  · exact hy.elim
theorem s_idxS (hs : SimAt w0 wr F0 F E ⟨t, h⟩ a w) {x i : Operand} {X I : Opd} (hx : cOpd x = some X) (hi : cOpd i = some I) {T : TypeId}
    (hT : P.underlying T = some .string) (ho : o.op = .index T x i)
    {y : AV} {u : List (Nat × Chunk)} (hy : Y P (.idxS X I) nm t hm y u) : Step P w0 wr F0 o a w t h y u := by
  simp only [Y, XOp.eff] at hy
  have hxs := ev_sound hs hx
  have his := ev_sound hs hi
  split at hy
  · rename_i kk n s e2 e1
    rw [e2] at his; have hiv := seesA_int his
    rw [e1] at hxs; have hv := seesA_str hxs
    obtain ⟨⟨h0, h1⟩, b, hb, rfl, rfl⟩ := hy
    refine Step.value hs (v := .int .u8 b.toNat) ?_ (.d (.int _ _))
    simp [execOp, ho, hv, hiv, Instr.index, run_underlying hT, asIntOf, h0, hb]
  · exact hy.elim
theorem s_extract (hs : SimAt w0 wr F0 F E ⟨t, h⟩ a w) {x : Operand} {X : Opd} (hx : cOpd x = some X) {i : Nat} (ho : o.op = .extract x i)
    {y : AV} {u : List (Nat × Chunk)} (hy : Y P (.extract X i) nm t hm y u) : Step P w0 wr F0 o a w t h y u := by
  simp only [Y, XOp.eff] at hy
  have hxs := ev_sound hs hx
  split at hy
  · rename_i cs e1
    rw [e1] at hxs
    obtain ⟨z, hz, rfl, rfl⟩ := hy
    obtain ⟨vs, hv, h1, h3⟩ := seesA_tup hxs
    have hlt : i < vs.size := by rw [h1]; exact (List.getElem?_eq_some_iff.1 hz).1
    have e := Array.getElem?_eq_getElem hlt
    exact Step.value hs (v := vs[i]) (by simp [execOp, ho, hv, Instr.extract, e]) (h3 i z _ hz e)
  · exact hy.elim
end
end Go.X
namespace Go.X
open Go Go.RowKit
section
variable {P : Program} {w0 : World} {wr : Wr} {F0 F : Nat → Prop} {E : Env} {t : List AV} {h hm : List Chunk} {a : Act} {w w' : World} {o : Oper} {nm : Nat}
theorem ChunkAt.lt {b : Nat} {c : Chunk} {k q : Nat} (hc : ChunkAt w F E b c) (hl : c.live) (hloc : E.loc b = some (k, q)) : k < w.heap.size := by
  cases hc with
  | none => exact hl.elim
  | empty sz h h0 => rw [hloc] at h; simp at h
  | data vals h hn hb hF hc hs =>
    rw [hloc] at h; simp only [Option.some.injEq, Prod.mk.injEq] at h; obtain ⟨rfl, rfl⟩ := h
    exact (Array.getElem?_eq_some_iff.1 hb).1
  | mix vals h hb hF hc hs =>
    rw [hloc] at h; simp only [Option.some.injEq, Prod.mk.injEq] at h; obtain ⟨rfl, rfl⟩ := h
    exact (Array.getElem?_eq_some_iff.1 hb).1
  | nestE sz hole h h0 => rw [hloc] at h; simp at h
  | nest vals h hn hb hF hc ho hi =>
    rw [hloc] at h; simp only [Option.some.injEq, Prod.mk.injEq] at h; obtain ⟨rfl, rfl⟩ := h
    exact (Array.getElem?_eq_some_iff.1 hb).1
theorem inn_lt (hs : SimAt w0 wr F0 F E ⟨t, h⟩ a w) {b i k : Nat} (hi : InnAt h E b i k) : k < w.heap.size ∧ ¬ F k := by
  obtain ⟨isz, rs, hole, r, h1, h2, h4, h3⟩ := hi
  cases hs.heap b _ h1 with
  | nestE => simp at h2
  | nest vals g1 g2 g3 g4 g5 g6 g7 =>
    cases g7 i r h2 h4 with
    | nil a e => rw [h3] at e; cases e
    | row vals e hb hF => rw [h3] at e; cases e; exact ⟨(Array.getElem?_eq_some_iff.1 hb).1, hF⟩
theorem ptr0 {b sz k : Nat} (hl : E.loc b = some (k, 0)) : SeesA w F E (.ptr b sz 0 0) (.pointer (some ⟨k, 0, none⟩)) := by
  have := SeesA.ptr (W := w) (F := F) (sz := sz) (e := 0) (off := 0) hl
  simpa using this
theorem getElem?_set_none_ne {b b' : Nat} {c : Chunk} {x : Chunk} (hc : (h.set b x)[b']? = some c) (hne : b' ≠ b) : h[b']? = some c := by
  rw [List.getElem?_set] at hc
  simpa [show ¬ b = b' from fun e => hne e.symm] using hc
theorem SimAt.name_newN (hs : SimAt w0 wr F0 F E ⟨t, h⟩ a w) (hw : Below w.heap.size w w') (F' : Nat → Prop) (hF : ∀ k, F k → F' k)
    (hF' : ∀ k, F' k → F k ∨ (w.heap.size ≤ k ∧ k < w'.heap.size)) (nr : NRs nm t h) (pl : Option (Nat × Nat)) (n : Nat) (hpl : ∀ k q, pl = some (k, q) → w.heap.size ≤ k)
    {ck : Chunk} (hck : ChunkAt w' F' (E.upd nm pl n) nm ck) (hno : ∀ i k, ¬ NestAt (E.upd nm pl n) nm ck i k) : SimAt w0 wr F0 F' (E.upd nm pl n) ⟨t, h.set nm ck⟩ a w' := by
  have h1 := (hs.ext hw F' hF hF').re nr pl n
  have h2 := h1.chunkN nm hck (fun k q e => by
    rw [Env.upd_loc] at e
    have hk := hpl k q e
    refine ⟨.inl (Nat.le_trans hs.frame.size hk), fun b' c k' q' hne hb hl e' => ?_, fun b' i hne hi => ?_⟩
    · rw [Env.upd_loc_ne _ _ _ hne] at e'
      have := (hs.heap b' c (getElem?_set_none_ne hb hne)).lt hl e'
      omega
    · have := (inn_lt hs (innAt_drop hi)).1
      omega) (fun i k hi => absurd hi (hno i k))
  rwa [List.set_set] at h2
theorem SimAt.name_new (hs : SimAt w0 wr F0 F E ⟨t, h⟩ a w) (hw : Below w.heap.size w w') (F' : Nat → Prop) (hF : ∀ k, F k → F' k)
    (hF' : ∀ k, F' k → F k ∨ (w.heap.size ≤ k ∧ k < w'.heap.size)) (nr : NRs nm t h) (pl : Option (Nat × Nat)) (n : Nat) (hpl : ∀ k q, pl = some (k, q) → w.heap.size ≤ k)
    {ck : Chunk} (hck : ChunkAt w' F' (E.upd nm pl n) nm ck) (hnn : ∀ isz rs hole, ck ≠ .nest isz rs hole) : SimAt w0 wr F0 F' (E.upd nm pl n) ⟨t, h.set nm ck⟩ a w' :=
  hs.name_newN hw F' hF hF' nr pl n hpl hck fun _ _ ⟨isz, rs, hole, _, e, _⟩ => absurd e (hnn isz rs hole)
theorem below_push (w w' : World) (ob : Obj) (hh : w'.heap = w.heap.push ob) (h1 : w'.os = w.os) (h2 : w'.tape = w.tape) (h3 : w'.output = w.output) : Below w.heap.size w w' :=
  ⟨h1, h2, h3, by rw [hh]; simp, fun k hk => by rw [hh, Array.getElem?_push, if_neg (by omega)]⟩
theorem sim_new_data (hs : SimAt w0 wr F0 F E ⟨t, h⟩ a w) (nr : NRs nm t h) {c : Array Value} {T : TypeId} (hh : w'.heap = w.heap.push (.cells c T)) (h1 : w'.os = w.os) (h2 : w'.tape = w.tape) (h3 : w'.output = w.output)
    {sz : Nat} {els : List (List D)} (vals : Nat → Nat → Value)
    (hc : ∀ (i : Nat) (l : List D), els[i]? = some l → l.length = sz ∧ ∀ j, j < sz → c[i * sz + j]? = some (vals i j) ∧ (vals i j).oneCell' = true)
    (hss : ∀ (i : Nat) (l : List D) (j : Nat) (x : D), els[i]? = some l → l[j]? = some x → Sees w F x (vals i j)) (d : Option Nat) {y : AV} {v : Value}
    (hy : SeesA w' F (E.upd nm (some (w.heap.size, 0)) els.length) y v) : Sim w0 wr F0 ⟨setO t d y, h.set nm (.data sz els)⟩ (a.put d v) w' := by
  have hb := below_push w w' _ hh h1 h2 h3
  have hck : ChunkAt w' F (E.upd nm (some (w.heap.size, 0)) els.length) nm (.data sz els) :=
    .data (c := c) (T := T) vals (Env.upd_loc ..) (Env.upd_ln ..) (by rw [hh]; simp) (fun hk => by have := hs.fin _ hk; omega) (by simpa using hc)
      (fun i l j x hi hj => (hss i l j x hi hj).mono (fun _ h => h) (fun k hk => hb.block k (hs.fin k hk)))
  exact ⟨F, _, (hs.name_new hb F (fun _ h => h) (fun _ h => .inl h) nr (some (w.heap.size, 0)) els.length (fun k q e => by simp at e; omega) hck (by simp)).put d hy⟩
theorem sim_new_mix (hs : SimAt w0 wr F0 F E ⟨t, h⟩ a w) (nr : NRs nm t h) {c : Array Value} {T : TypeId} (hh : w'.heap = w.heap.push (.cells c T)) (h1 : w'.os = w.os) (h2 : w'.tape = w.tape) (h3 : w'.output = w.output)
    {cs : List AV} (vals : Nat → Value) (hc : ∀ j, j < cs.length → c[j]? = some (vals j) ∧ (vals j).oneCell' = true)
    (hss : ∀ (j : Nat) (x : AV), cs[j]? = some x → SeesA w F E x (vals j)) (hnr : ∀ x ∈ cs, NR nm x) (d : Option Nat) {y : AV} {v : Value}
    (hy : SeesA w' F (E.upd nm (some (w.heap.size, 0)) 0) y v) : Sim w0 wr F0 ⟨setO t d y, h.set nm (.mix cs)⟩ (a.put d v) w' := by
  have hb := below_push w w' _ hh h1 h2 h3
  have hck : ChunkAt w' F (E.upd nm (some (w.heap.size, 0)) 0) nm (.mix cs) :=
    .mix (c := c) (T := T) vals (Env.upd_loc ..) (by rw [hh]; simp) (fun hk => by have := hs.fin _ hk; omega) (by simpa using hc)
      (fun j x hj => ((hss j x hj).mono (fun _ h => h) (fun k hk => hb.block k (hs.fin k hk)) (sizes_below hb)).env _ _ (hnr x (List.mem_of_getElem? hj)))
  exact ⟨F, _, (hs.name_new hb F (fun _ h => h) (fun _ h => .inl h) nr (some (w.heap.size, 0)) 0 (fun k q e => by simp at e; omega) hck (by simp)).put d hy⟩
def dsOf : List Value → Option (List D)
  | [] => some []
  | v :: r => do let x ← dOf v; let xs ← dsOf r; pure (x :: xs)
def tZero (P : Program) (T : TypeId) : Option (List D) :=
  match P.info? T with
  | some i => match i.zero with
    | some v => if i.size = v.cells.size then dsOf v.cells.toList else none
    | none => none
  | none => none
theorem dOf_one {v : Value} {x : D} (h : dOf v = some x) : v.oneCell' = true ∧ x.scalar = true := by
  unfold dOf at h
  split at h <;> first | (simp only [Option.some.injEq] at h; subst h; exact ⟨rfl, rfl⟩) | (simp at h)
theorem dsOf_spec {W : World} {G : Nat → Prop} : ∀ {vs : List Value} {xs : List D}, dsOf vs = some xs → xs.length = vs.length ∧ ∀ (i : Nat) (x : D) (v : Value), xs[i]? = some x → vs[i]? = some v → Sees W G x v ∧ v.oneCell' = true
  | [], xs, h => by simp only [dsOf, Option.some.injEq] at h; subst h; simp
  | v :: r, xs, h => by
    simp only [dsOf, Option.pure_def, Option.bind_eq_bind, Option.bind_eq_some_iff, Option.some.injEq] at h
    obtain ⟨x, hx, ys, hys, rfl⟩ := h
    obtain ⟨h1, h2⟩ := dsOf_spec (W := W) (G := G) hys
    refine ⟨by simp [h1], fun i z u hz hu => ?_⟩
    cases i with
    | zero => simp only [List.getElem?_cons_zero, Option.some.injEq] at hz hu; subst hz; subst hu; exact ⟨dOf_sees hx, (dOf_one hx).1⟩
    | succ i => simp only [List.getElem?_cons_succ] at hz hu; exact h2 i z u hz hu
theorem zero_spec {T : TypeId} {z : List D} (hz : tZero P T = some z) (G : Nat → Prop) : ∃ v, (∀ w, (zeroValue T).run P w = .ok v w) ∧ v.cells.size = z.length ∧ tSize P T = some z.length ∧
    ∀ (W : World) (i : Nat) (x : D) (u : Value), z[i]? = some x → v.cells[i]? = some u → Sees W G x u ∧ u.oneCell' = true := by
  unfold tZero at hz
  cases hi : P.info? T with
  | none => rw [hi] at hz; simp at hz
  | some i =>
    rw [hi] at hz
    simp only at hz
    cases hv : i.zero with
    | none => rw [hv] at hz; simp at hz
    | some v =>
      rw [hv] at hz
      simp only at hz
      split at hz
      case isFalse => simp at hz
      rename_i hsz
      have hl : z.length = v.cells.size := by
        have := (dsOf_spec (W := (default : World)) (G := G) hz).1
        simpa using this
      refine ⟨v, fun w => ?_, hl.symm, by simp [tSize, hi, hsz, hl], fun W j x u hx hu => (dsOf_spec (W := W) (G := G) hz).2 j x u hx (by simpa using hu)⟩
      unfold zeroValue typeInfo
      rw [Sem.run_bind, Sem.run_bind]
      show (((Result.ok P w).andThen _).andThen _) = _
      rw [Result.andThen_ok]
      simp [hi, hv]
theorem s_alloc (hs : SimAt w0 wr F0 F E ⟨t, h⟩ a w) (nr : NRs nm t h) {T : TypeId} {z : List D} (hz : tZero P T = some z) (ho : o.op = .alloc T)
    {y : AV} {u : List (Nat × Chunk)} (hy : Y P (.alloc z) nm t hm y u) : Step P w0 wr F0 o a w t h y u := by
  simp only [Y, XOp.eff] at hy
  obtain ⟨rfl, rfl⟩ := hy
  obtain ⟨v, hv, hl, _, hzz⟩ := zero_spec hz F
  have hrun : (execOp a.eval o).run P w = .ok (.value (.pointer (some ⟨w.heap.size, 0, none⟩))) { w with heap := w.heap.push (.cells v.cells T) } := by
    simp [execOp, ho, Instr.alloc, hv, newVar, newRow, newObj, Sem.run]
  unfold Step
  rw [hrun]
  refine sim_new_data hs nr (w' := { w with heap := w.heap.push (.cells v.cells T) }) rfl rfl rfl rfl (sz := z.length) (els := [z]) (fun _ j => v.cells.getD j undef) ?_ ?_ o.dst (ptr0 (Env.upd_loc ..))
  · intro i l hi
    cases i with
    | zero =>
      simp only [List.getElem?_cons_zero, Option.some.injEq] at hi; subst hi
      refine ⟨rfl, fun j hj => ?_⟩
      have hlt : j < v.cells.size := by omega
      rw [← Array.getElem_eq_getD (h := hlt)]
      have e := Array.getElem?_eq_getElem hlt
      simp only [Nat.zero_mul, Nat.zero_add]
      exact ⟨e, (hzz w j _ _ (List.getElem?_eq_getElem hj) e).2⟩
    | succ i => simp at hi
  · intro i l j x hi hj
    cases i with
    | zero =>
      simp only [List.getElem?_cons_zero, Option.some.injEq] at hi; subst hi
      have hlt : j < v.cells.size := by rw [hl]; exact (List.getElem?_eq_some_iff.1 hj).1
      rw [← Array.getElem_eq_getD (h := hlt)]
      exact (hzz w j _ _ hj (Array.getElem?_eq_getElem hlt)).1
    | succ i => simp at hi
theorem one_laid {cs : List D} {c : Array Value} (hl : c.size = cs.length) (h1 : ∀ (i : Nat) (v : Value), c[i]? = some v → v.oneCell' = true)
    (h2 : ∀ (i : Nat) (x : D) (v : Value), cs[i]? = some x → c[i]? = some v → Sees w F x v) :
    (∀ (i : Nat) (l : List D), [cs][i]? = some l → l.length = cs.length ∧ ∀ j, j < cs.length → c[i * cs.length + j]? = some ((fun (_ j : Nat) => c.getD j undef) i j) ∧ ((fun (_ j : Nat) => c.getD j undef) i j).oneCell' = true) ∧
    (∀ (i : Nat) (l : List D) (j : Nat) (x : D), [cs][i]? = some l → l[j]? = some x → Sees w F x ((fun (_ j : Nat) => c.getD j undef) i j)) := by
  refine ⟨fun i l hi => ?_, fun i l j x hi hj => ?_⟩
  · cases i with
    | zero =>
      simp only [List.getElem?_cons_zero, Option.some.injEq] at hi; subst hi
      refine ⟨rfl, fun j hj => ?_⟩
      have hlt : j < c.size := by omega
      simp only [Nat.zero_mul, Nat.zero_add]
      rw [← Array.getElem_eq_getD (h := hlt)]
      have e := Array.getElem?_eq_getElem hlt
      exact ⟨e, h1 j _ e⟩
    | succ i => simp at hi
  · cases i with
    | zero =>
      simp only [List.getElem?_cons_zero, Option.some.injEq] at hi; subst hi
      have hlt : j < c.size := by rw [hl]; exact (List.getElem?_eq_some_iff.1 hj).1
      simp only
      rw [← Array.getElem_eq_getD (h := hlt)]
      exact h2 j x _ hj (Array.getElem?_eq_getElem hlt)
    | succ i => simp at hi
theorem ev_nr {b : Nat} (nr : NRs b t h) (X : Opd) : NR b (X.ev t) := by
  cases X with
  | t n =>
    simp only [Opd.ev, getL_eq]
    cases hn : t[n]? with
    | none => exact .dead
    | some x => exact nr.t x (List.mem_of_getElem? hn)
  | c x => exact .d x
  | f g => exact .d _
theorem s_box (hs : SimAt w0 wr F0 F E ⟨t, h⟩ a w) (nr : NRs nm t h) {x : Operand} {X : Opd} (hx : cOpd x = some X) {T : TypeId} (ho : o.op = .box T x)
    {y : AV} {u : List (Nat × Chunk)} (hy : Y P (.box X) nm t hm y u) : Step P w0 wr F0 o a w t h y u := by
  simp only [Y, XOp.eff] at hy
  have hxs := ev_sound hs hx
  have hnr := ev_nr nr X
  have hrun : (execOp a.eval o).run P w = .ok (.value (.pointer (some ⟨w.heap.size, 0, none⟩))) { w with heap := w.heap.push (.cells (a.eval x).cells T) } := by
    simp [execOp, ho, Instr.box, newVar, newRow, newObj, Sem.run]
  unfold Step
  rw [hrun]
  have mix1 : ∀ z : AV, SeesA w F E z (a.eval x) → NR nm z → (a.eval x).oneCell' = true ∧ (a.eval x).cells = #[a.eval x] →
      Sim w0 wr F0 ⟨setO t o.dst (.ptr nm 1 0 0), h.set nm (.mix [z])⟩ (a.put o.dst (.pointer (some ⟨w.heap.size, 0, none⟩))) { w with heap := w.heap.push (.cells (a.eval x).cells T) } := by
    intro z hz hn hone
    refine sim_new_mix hs nr (w' := { w with heap := w.heap.push (.cells (a.eval x).cells T) }) rfl rfl rfl rfl (fun _ => a.eval x) ?_ ?_ (by simpa using hn) o.dst (ptr0 (Env.upd_loc ..))
    · intro j hj
      have : j = 0 := by simpa using hj
      subst this
      rw [hone.2]; exact ⟨rfl, hone.1⟩
    · intro j x' hj
      cases j with
      | zero => simp only [List.getElem?_cons_zero, Option.some.injEq] at hj; subst hj; exact hz
      | succ j => simp at hj
  split at hy
  · rename_i cs e
    rw [e] at hxs
    obtain ⟨rfl, rfl⟩ := hy
    obtain ⟨vs, hv, h1, h2, h3⟩ := seesA_agg hxs
    rw [hv]
    obtain ⟨l1, l2⟩ := one_laid h1 h2 h3
    exact sim_new_data hs nr (w' := { w with heap := w.heap.push (.cells (Value.agg vs).cells T) }) rfl rfl rfl rfl (sz := cs.length) (els := [cs]) _ l1 l2 o.dst (ptr0 (Env.upd_loc ..))
  · rename_i z hne e
    rw [e] at hxs
    obtain ⟨hsc, rfl, rfl⟩ := hy
    have hone := seesA_scalar hxs (fun cs e => hne cs (by simpa using e)) (by intro e; simp at e; subst e; simp [D.scalar] at hsc) (by simp) (by simp) (by simp)
    cases hxs with
    | d hd =>
      have hb : (#[a.eval x] : Array Value).size = [z].length := rfl
      obtain ⟨l1, l2⟩ := one_laid (w := w) (F := F) (cs := [z]) (c := #[a.eval x]) rfl (fun i v hi => by
          cases i with
          | zero => simp at hi; subst hi; exact hone.1
          | succ i => simp at hi) (fun i x' v hx' hv => by
          cases i with
          | zero => simp at hx' hv; subst hx'; subst hv; exact hd
          | succ i => simp at hx')
      rw [hone.2]
      exact sim_new_data hs nr (w' := { w with heap := w.heap.push (.cells #[a.eval x] T) }) rfl rfl rfl rfl (sz := 1) (els := [[z]]) _ l1 l2 o.dst (ptr0 (Env.upd_loc ..))
  · rename_i b sz e1 off e
    rw [e] at hxs hnr
    obtain ⟨rfl, rfl⟩ := hy
    exact mix1 _ hxs hnr (seesA_scalar hxs (by simp) (by simp) (by simp) (by simp) (by simp))
  · rename_i b sz e
    rw [e] at hxs hnr
    obtain ⟨rfl, rfl⟩ := hy
    exact mix1 _ hxs hnr (seesA_scalar hxs (by simp) (by simp) (by simp) (by simp) (by simp))
  · rename_i b sz off q e
    rw [e] at hxs hnr
    obtain ⟨rfl, rfl⟩ := hy
    exact mix1 _ hxs hnr (seesA_scalar hxs (by simp) (by simp) (by simp) (by simp) (by simp))
  · rename_i f c d e
    rw [e] at hxs hnr
    obtain ⟨rfl, rfl⟩ := hy
    exact mix1 _ hxs hnr (seesA_scalar hxs (by simp) (by simp) (by simp) (by simp) (by simp))
  · rename_i cs e
    rw [e] at hxs hnr
    obtain ⟨rfl, rfl⟩ := hy
    obtain ⟨vs, hv, h1, h2, h3⟩ := seesA_mix hxs
    rw [hv]
    refine sim_new_mix hs nr (w' := { w with heap := w.heap.push (.cells (Value.agg vs).cells T) }) rfl rfl rfl rfl (fun j => vs.getD j undef) ?_ ?_ (by cases hnr with | mix hh => exact hh) o.dst (ptr0 (Env.upd_loc ..))
    · intro j hj
      have hlt : j < vs.size := by omega
      rw [← Array.getElem_eq_getD (h := hlt)]
      have e := Array.getElem?_eq_getElem hlt
      exact ⟨e, h2 j _ e⟩
    · intro j x' hj
      have hlt : j < vs.size := by rw [h1]; exact (List.getElem?_eq_some_iff.1 hj).1
      rw [← Array.getElem_eq_getD (h := hlt)]
      exact h3 j x' _ hj (Array.getElem?_eq_getElem hlt)
  · exact hy.elim
end
end Go.X
namespace Go.X
open Go Go.RowKit
section
variable {P : Program} {w0 : World} {wr : Wr} {F0 F : Nat → Prop} {E : Env} {t : List AV} {h hm : List Chunk} {a : Act} {w w' : World} {o : Oper} {nm : Nat}
structure Reads (W : World) (F : Nat → Prop) (cs : List D) (vs : Array Value) : Prop where
  len : vs.size = cs.length
  one : ∀ (i : Nat) (v : Value), vs[i]? = some v → v.oneCell' = true
  sees : ∀ (i : Nat) (x : D) (v : Value), cs[i]? = some x → vs[i]? = some v → Sees W F x v
theorem splice_len {cs ys : List D} {off : Nat} (h : off + ys.length ≤ cs.length) : (splice cs off ys).length = cs.length := by
  unfold splice; simp; omega
theorem splice_get {cs ys : List D} {off : Nat} (h : off + ys.length ≤ cs.length) (j : Nat) :
    (splice cs off ys)[j]? = if off ≤ j ∧ j < off + ys.length then ys[j - off]? else cs[j]? := by
  unfold splice
  rw [List.getElem?_append]
  simp only [List.length_take, Nat.min_eq_left (show off ≤ cs.length from by omega)]
  by_cases h1 : j < off
  · rw [if_pos h1, if_neg (by omega), List.getElem?_take, if_pos h1]
  · rw [if_neg h1, List.getElem?_append]
    by_cases h2 : j - off < ys.length
    · rw [if_pos h2, if_pos (by omega)]
    · rw [if_neg h2, if_neg (by omega), List.getElem?_drop]
      congr 1; omega
theorem foldl_set_spec : ∀ (l : List Value) (s off : Nat) (cs : Array Value),
    let r := (l.zipIdx s).foldl (fun (cs : Array Value) (p : Value × Nat) => cs.setIfInBounds (off + p.2) p.1) cs
    r.size = cs.size ∧ ∀ j, r[j]? = if off + s ≤ j ∧ j < off + s + l.length ∧ j < cs.size then l[j - (off + s)]? else cs[j]?
  | [], s, off, cs => by
    refine ⟨rfl, fun j => ?_⟩
    rw [if_neg (by simp; omega)]
    rfl
  | v :: l, s, off, cs => by
    obtain ⟨h1, h2⟩ := foldl_set_spec l (s + 1) off (cs.setIfInBounds (off + s) v)
    simp only [List.zipIdx_cons, List.foldl_cons]
    refine ⟨by rw [h1]; simp, fun j => ?_⟩
    rw [h2 j]
    simp only [Array.size_setIfInBounds, Array.getElem?_setIfInBounds, List.length_cons]
    by_cases c1 : off + (s + 1) ≤ j ∧ j < off + (s + 1) + l.length ∧ j < cs.size
    · rw [if_pos c1, if_pos (by omega)]
      rw [show j - (off + s) = (j - (off + (s + 1))) + 1 from by omega, List.getElem?_cons_succ]
    · rw [if_neg c1]
      by_cases c2 : off + s = j
      · subst c2
        by_cases c3 : off + s < cs.size
        · rw [if_pos rfl, if_pos c3, if_pos (by omega)]; simp
        · rw [if_pos rfl, if_neg c3, if_neg (by omega)]; rw [Array.getElem?_eq_none (by omega)]
      · rw [if_neg c2, if_neg (by omega)]
theorem reads_part {cs ys : List D} {vs us : Array Value} {off : Nat} (h : Reads w F cs vs) (g : Reads w F ys us) (hfit : off + ys.length ≤ cs.length) :
    Reads w F (splice cs off ys) (us.zipIdx.foldl (fun (cs : Array Value) (p : Value × Nat) => cs.setIfInBounds (off + p.2) p.1) vs) := by
  have hsp := foldl_set_spec us.toList 0 off vs
  rw [← Array.foldl_toList, Array.toList_zipIdx]
  obtain ⟨h1, h2⟩ := hsp
  have hlen := g.len
  refine ⟨by rw [h1, h.len, splice_len hfit], fun i v hv => ?_, fun i x v hx hv => ?_⟩
  · rw [h2] at hv
    split at hv
    · exact g.one _ v (by simpa using hv)
    · exact h.one i v hv
  · rw [h2] at hv
    rw [splice_get hfit] at hx
    have := h.len
    simp only [Array.length_toList] at hv
    by_cases c : off ≤ i ∧ i < off + ys.length
    · rw [if_pos c] at hx
      rw [if_pos (by omega)] at hv
      exact g.sees _ x v hx (by simpa using hv)
    · rw [if_neg c] at hx
      rw [if_neg (by omega)] at hv
      exact h.sees i x v hx hv
theorem reads_one {x : D} {v : Value} (hx : Sees w F x v) (h1 : v.oneCell' = true) : Reads w F [x] #[v] := by
  refine ⟨rfl, fun i u hu => ?_, fun i y u hy hu => ?_⟩
  · cases i with
    | zero => simp at hu; subst hu; exact h1
    | succ i => simp at hu
  · cases i with
    | zero => simp at hy hu; subst hy; subst hu; exact hx
    | succ i => simp at hy
theorem splice_one {cs : List D} {off : Nat} {y : D} (h : off < cs.length) : splice cs off [y] = cs.set off y := by
  apply List.ext_getElem?
  intro j
  rw [splice_get (by simp; omega), List.getElem?_set]
  by_cases c : off = j
  · subst c; simp [h]
  · rw [if_neg (by simp; omega), if_neg c]
def cParts (pl : Nat → Option (Nat × Nat)) : List (Nat × Operand) → Option (List (Nat × Nat × Opd))
  | [] => some []
  | (i, x) :: r => do
    let (off, n) ← pl i
    let y ← cOpd x
    let ys ← cParts pl r
    pure ((off, n, y) :: ys)
theorem fill_cons {pl : Nat → Option (Nat × Nat)} {vs : Array Value} {i off n : Nat} {v : Value} (rest : List (Nat × Value)) (hpl : pl i = some (off, n)) (h1 : v.cells.size = n) (h2 : off + v.cells.size ≤ vs.size) :
    Instr.fill pl vs ((i, v) :: rest) = Instr.fill pl (v.cells.zipIdx.foldl (fun (cs : Array Value) (p : Value × Nat) => cs.setIfInBounds (off + p.2) p.1) vs) rest := by
  rw [Instr.fill]
  simp only [hpl]
  have e : (decide (v.cells.size ≠ n) || decide (off + v.cells.size > vs.size)) = false := by simp; omega
  rw [e]
  rfl
theorem parts_sound (hs : SimAt w0 wr F0 F E ⟨t, h⟩ a w) {pl : Nat → Option (Nat × Nat)} : ∀ {ps : List (Nat × Operand)} {qs : List (Nat × Nat × Opd)} {cs : List D} {vs : Array Value} {k : List D → Prop},
    cParts pl ps = some qs → Reads w F cs vs → partK t qs cs k → ∃ cs' vs', Instr.fill pl vs (ps.map fun p => (p.1, a.eval p.2)) = some vs' ∧ Reads w F cs' vs' ∧ k cs'
  | [], qs, cs, vs, k, hq, hr, hk => by
    simp only [cParts, Option.some.injEq] at hq; subst hq
    exact ⟨cs, vs, rfl, hr, hk⟩
  | (i, x) :: r, qs, cs, vs, k, hq, hr, hk => by
    simp only [cParts, Option.pure_def, Option.bind_eq_bind, Option.bind_eq_some_iff, Option.some.injEq] at hq
    obtain ⟨⟨off, n⟩, hpl, X, hX, ys, hys, rfl⟩ := hq
    have hxs := ev_sound hs hX
    simp only [partK] at hk
    split at hk
    · rename_i zs e
      rw [e] at hxs
      obtain ⟨⟨rfl, hfit⟩, hk⟩ := hk
      obtain ⟨us, hv, g1, g2, g3⟩ := seesA_agg hxs
      have hr' := reads_part (off := off) hr ⟨g1, g2, g3⟩ hfit
      obtain ⟨cs', vs', h1, h2, h3⟩ := parts_sound hs hys hr' hk
      refine ⟨cs', vs', ?_, h2, h3⟩
      have := hr.len
      simp only [List.map_cons]
      rw [fill_cons _ hpl (by rw [hv]; exact g1) (by rw [hv]; show off + us.size ≤ _; omega), hv]
      exact h1
    · rename_i d hne e
      rw [e] at hxs
      obtain ⟨⟨rfl, hfit, hsc⟩, hk⟩ := hk
      have hone := seesA_scalar hxs (fun cs e => hne cs (by simpa using e)) (by intro e; simp at e; subst e; simp [D.scalar] at hsc) (by simp) (by simp) (by simp)
      cases hxs with
      | d hd =>
        have hr' := reads_part (off := off) hr (reads_one hd hone.1) (by simp; omega)
        rw [splice_one hfit] at hr'
        obtain ⟨cs', vs', h1, h2, h3⟩ := parts_sound hs hys hr' hk
        refine ⟨cs', vs', ?_, h2, h3⟩
        have := hr.len
        simp only [List.map_cons]
        rw [fill_cons _ hpl (by rw [hone.2]; rfl) (by rw [hone.2]; show off + 1 ≤ _; omega), hone.2]
        exact h1
    · exact hk.elim
theorem reads_zero {T : TypeId} {z : List D} (hz : tZero P T = some z) : ∃ v, (∀ w, (zeroValue T).run P w = .ok v w) ∧ (∀ w : World, Reads w F z v.cells) ∧ tSize P T = some z.length := by
  obtain ⟨v, h1, h2, h3, h4⟩ := zero_spec hz F
  refine ⟨v, h1, fun W => ⟨h2, fun i u hu => ?_, fun i x u hx hu => (h4 W i x u hx hu).1⟩, h3⟩
  have hlt : i < z.length := by rw [← h2]; exact (Array.getElem?_eq_some_iff.1 hu).1
  exact (h4 W i _ u (List.getElem?_eq_getElem hlt) hu).2
def fieldPls (P : Program) : List Field → Option (List (Nat × Nat))
  | [] => some []
  | f :: r => do
    let n ← tSize P f.type
    let ys ← fieldPls P r
    pure ((f.offset, n) :: ys)
theorem run_fieldPls : ∀ {fs : List Field} {ps : List (Nat × Nat)}, fieldPls P fs = some ps → ∀ w, (fs.mapM fun f => do pure (f.offset, ← sizeOf f.type) : Sem (List (Nat × Nat))).run P w = .ok ps w
  | [], ps, h, w => by simp only [fieldPls, Option.some.injEq] at h; subst h; simp
  | f :: r, ps, h, w => by
    simp only [fieldPls, Option.pure_def, Option.bind_eq_bind, Option.bind_eq_some_iff, Option.some.injEq] at h
    obtain ⟨n, hn, ys, hys, rfl⟩ := h
    have ih := run_fieldPls hys w
    simp only [List.mapM_cons, Sem.run_bind, run_sizeOf hn, Result.andThen_ok, Sem.run_pure, ih]
theorem s_buildS (hs : SimAt w0 wr F0 F E ⟨t, h⟩ a w) {T : TypeId} {fs : Array Field} {pls : List (Nat × Nat)} {ps : Array (Nat × Operand)} {qs : List (Nat × Nat × Opd)} {z : List D} (hz : tZero P T = some z)
    (hT : P.underlying T = some (.struct fs)) (hpl : fieldPls P fs.toList = some pls) (hq : cParts (fun (i : Nat) => pls[i]?) ps.toList = some qs) (ho : o.op = .build T ps)
    {y : AV} {u : List (Nat × Chunk)} (hy : Y P (.build z qs) nm t hm y u) : Step P w0 wr F0 o a w t h y u := by
  simp only [Y, XOp.eff] at hy
  obtain ⟨v, hv, hr, hsz⟩ := reads_zero (F := F) hz
  obtain ⟨cs', vs', h1, h2, rfl, rfl⟩ := parts_sound hs hq (hr w) hy
  refine Step.value hs (v := .agg vs') ?_ (.d (.agg h2.len h2.one h2.sees))
  have e := run_fieldPls hpl w
  simp only [execOp, ho, Instr.build, Sem.run_bind, hv, Result.andThen_ok, run_underlying hT]
  rw [Array.mapM_eq_mapM_toList, Sem.run_map, e]
  simp only [Result.andThen_ok]
  have e2 : (fun (i : Nat) => pls.toArray[i]?) = fun i => pls[i]? := by funext i; simp
  have e3 : (Array.map (fun (p : Nat × Operand) => (p.1, a.eval p.2)) ps).toList = ps.toList.map (fun p => (p.1, a.eval p.2)) := by simp
  have e4 : Instr.fill (fun (i : Nat) => pls.toArray[i]?) v.cells (Array.map (fun (p : Nat × Operand) => (p.1, a.eval p.2)) ps).toList = some vs' := by rw [e2, e3, h1]
  simp only [e4]
  rfl
theorem s_buildA (hs : SimAt w0 wr F0 F E ⟨t, h⟩ a w) {T el : TypeId} {len n : Nat} {ps : Array (Nat × Operand)} {qs : List (Nat × Nat × Opd)} {z : List D} (hz : tZero P T = some z)
    (hT : P.underlying T = some (.array len el)) (hn : tSize P el = some n) (hq : cParts (fun i => some (i * n, n)) ps.toList = some qs) (ho : o.op = .build T ps)
    {y : AV} {u : List (Nat × Chunk)} (hy : Y P (.build z qs) nm t hm y u) : Step P w0 wr F0 o a w t h y u := by
  simp only [Y, XOp.eff] at hy
  obtain ⟨v, hv, hr, hsz⟩ := reads_zero (F := F) hz
  obtain ⟨cs', vs', h1, h2, rfl, rfl⟩ := parts_sound hs hq (hr w) hy
  refine Step.value hs (v := .agg vs') ?_ (.d (.agg h2.len h2.one h2.sees))
  simp only [execOp, ho, Instr.build, Sem.run_bind, hv, Result.andThen_ok, run_underlying hT, run_sizeOf hn]
  have e3 : (Array.map (fun (p : Nat × Operand) => (p.1, a.eval p.2)) ps).toList = ps.toList.map (fun p => (p.1, a.eval p.2)) := by simp
  have e4 : Instr.fill (fun i => some (i * n, n)) v.cells (Array.map (fun (p : Nat × Operand) => (p.1, a.eval p.2)) ps).toList = some vs' := by rw [e3, h1]
  simp only [e4]
  rfl
end
end Go.X
