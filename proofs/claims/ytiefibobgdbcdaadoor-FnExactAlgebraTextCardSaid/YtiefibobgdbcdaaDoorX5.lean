import Derived.Test.YtiefibobgdbcdaaDoorX4
import Derived.OpenShut
import Derived.SizedLaws
import Derived.Carry
set_option linter.all false
namespace Go.X
open Go Go.RowKit
def D.plain : D → Bool
  | .int _ _ | .bool _ | .str _ | .emp | .nilp | .nilfn | .undef => true
  | _ => false
def D.same : D → D → Bool
  | .int k n, .int k' n' => decide (k = k') && decide (n = n')
  | .bool a, .bool b => decide (a = b)
  | .str a, .str b => decide (a = b)
  | .emp, .emp => true
  | .nilp, .nilp => true
  | .nilfn, .nilfn => true
  | .undef, .undef => true
  | _, _ => false
theorem D.same_iff {x y : D} : D.same x y = true ↔ x = y ∧ x.plain = true := by
  cases x <;> cases y <;> simp [D.same, D.plain]
def same2 {α : Type} (p : α → α → Bool) : List α → List α → Bool
  | [], [] => true
  | x :: xs, y :: ys => p x y && same2 p xs ys
  | _, _ => false
theorem same2_eq {α : Type} {p : α → α → Bool} (hp : ∀ x y, p x y = true → x = y) : ∀ {xs ys : List α}, same2 p xs ys = true → xs = ys
  | [], [], _ => rfl
  | x :: xs, y :: ys, h => by
    simp only [same2, Bool.and_eq_true] at h
    rw [hp x y h.1, same2_eq hp h.2]
def Opd.same : Opd → Opd → Bool
  | .t n, .t m => Nat.beq n m
  | .c x, .c y => x.same y
  | .f g, .f g' => Nat.beq g g'
  | _, _ => false
theorem Opd.same_eq {x y : Opd} (h : Opd.same x y = true) : x = y := by
  cases x <;> cases y <;> simp only [Opd.same, Bool.false_eq_true] at h
  · rw [Nat.eq_of_beq_eq_true h]
  · rw [(D.same_iff.1 h).1]
  · rw [Nat.eq_of_beq_eq_true h]
def oSame {α : Type} (p : α → α → Bool) : Option α → Option α → Bool
  | none, none => true
  | some x, some y => p x y
  | _, _ => false
theorem oSame_eq {α : Type} {p : α → α → Bool} (hp : ∀ x y, p x y = true → x = y) : ∀ {x y : Option α}, oSame p x y = true → x = y
  | none, none, _ => rfl
  | some x, some y, h => by rw [hp x y h]
def nSame (a b : Nat) : Bool := Nat.beq a b
theorem nSame_eq {a b : Nat} (h : nSame a b = true) : a = b := Nat.eq_of_beq_eq_true h
def partSame (a b : Nat × Nat × Opd) : Bool := nSame a.1 b.1 && (nSame a.2.1 b.2.1 && a.2.2.same b.2.2)
theorem partSame_eq (a b : Nat × Nat × Opd) (h : partSame a b = true) : a = b := by
  obtain ⟨a1, a2, a3⟩ := a; obtain ⟨b1, b2, b3⟩ := b
  simp only [partSame, Bool.and_eq_true] at h
  rw [nSame_eq h.1, nSame_eq h.2.1, Opd.same_eq h.2.2]
abbrev dSame := same2 D.same
theorem dSame_eq {a b : List D} (h : dSame a b = true) : a = b := same2_eq (fun _ _ h => (D.same_iff.1 h).1) h
abbrev osSame := same2 Opd.same
theorem osSame_eq {a b : List Opd} (h : osSame a b = true) : a = b := same2_eq (fun _ _ h => Opd.same_eq h) h
abbrev gSame := oSame nSame
theorem gSame_eq {a b : Option Nat} (h : gSame a b = true) : a = b := oSame_eq (fun _ _ h => nSame_eq h) h
abbrev opSame := oSame Opd.same
theorem opSame_eq {a b : Option Opd} (h : opSame a b = true) : a = b := oSame_eq (fun _ _ h => Opd.same_eq h) h
def XOp.same : XOp → XOp → Bool
  | .mov x, .mov x' => x.same x'
  | .pick c a b, .pick c' a' b' => c.same c' && (a.same a' && b.same b')
  | .alloc z, .alloc z' => dSame z z'
  | .box x, .box x' => x.same x'
  | .build z p, .build z' p' => dSame z z' && same2 partSame p p'
  | .bslice s p, .bslice s' p' => nSame s s' && osSame p p'
  | .load g p, .load g' p' => gSame g g' && p.same p'
  | .loadS p, .loadS p' => p.same p'
  | .store g p x, .store g' p' x' => gSame g g' && (p.same p' && x.same x')
  | .nilchk x, .nilchk x' => x.same x'
  | .arith o x y, .arith o' x' y' => decide (o = o') && (x.same x' && y.same y')
  | .cmp o x y, .cmp o' x' y' => decide (o = o') && (x.same x' && y.same y')
  | .cmpB o x y, .cmpB o' x' y' => decide (o = o') && (x.same x' && y.same y')
  | .eqa o k x y, .eqa o' k' x' y' => decide (o = o') && (decide (k = k') && (x.same x' && y.same y'))
  | .not x, .not x' => x.same x'
  | .neg x, .neg x' => x.same x'
  | .conv k x, .conv k' x' => decide (k = k') && x.same x'
  | .faddr k x, .faddr k' x' => nSame k k' && x.same x'
  | .field k g x, .field k' g' x' => nSame k k' && (gSame g g' && x.same x')
  | .iaddrA a b x y, .iaddrA a' b' x' y' => nSame a a' && (nSame b b' && (x.same x' && y.same y'))
  | .iaddrS b x y, .iaddrS b' x' y' => nSame b b' && (x.same x' && y.same y')
  | .idx a b g x y, .idx a' b' g' x' y' => nSame a a' && (nSame b b' && (gSame g g' && (x.same x' && y.same y')))
  | .idxS x y, .idxS x' y' => x.same x' && y.same y'
  | .slc b x l h, .slc b' x' l' h' => nSame b b' && (x.same x' && (opSame l l' && opSame h h'))
  | .slcA a b x l h, .slcA a' b' x' l' h' => nSame a a' && (nSame b b' && (x.same x' && (opSame l l' && opSame h h')))
  | .mkrow a b z n, .mkrow a' b' z' n' => nSame a a' && (nSame b b' && (dSame z z' && n.same n'))
  | .app a b x y, .app a' b' x' y' => nSame a a' && (nSame b b' && (x.same x' && y.same y'))
  | .len x, .len x' => x.same x'
  | .lenS x, .lenS x' => x.same x'
  | .slcS x l h, .slcS x' l' h' => x.same x' && (opSame l l' && opSame h h')
  | .lenA n, .lenA n' => nSame n n'
  | .call f a, .call f' a' => nSame f f' && osSame a a'
  | .callM f x a, .callM f' x' a' => nSame f f' && (x.same x' && osSame a a')
  | .callV x a, .callV x' a' => x.same x' && osSame a a'
  | .mkfn f a c, .mkfn f' a' c' => nSame f f' && (osSame a a' && osSame c c')
  | .extract x i, .extract x' i' => x.same x' && nSame i i'
  | .slc3 b x l h m, .slc3 b' x' l' h' m' => nSame b b' && (x.same x' && (l.same l' && (h.same h' && m.same m')))
  | .isNil b x, .isNil b' x' => decide (b = b') && x.same x'
  | .clr z x, .clr z' x' => dSame z z' && x.same x'
  | .b2s x, .b2s x' => x.same x'
  | _, _ => false
theorem XOp.same_eq {x y : XOp} (h : XOp.same x y = true) : x = y := by
  unfold XOp.same at h
  split at h
  all_goals first | (cases h; done) | skip
  all_goals (try simp only [Bool.and_eq_true, decide_eq_true_eq] at h)
  all_goals first
    | rw [Opd.same_eq h]
    | rw [dSame_eq h]
    | rw [nSame_eq h]
    | rw [dSame_eq h.1, Opd.same_eq h.2]
    | rw [dSame_eq h.1, same2_eq partSame_eq h.2]
    | rw [dSame_eq h.1, Opd.same_eq h.2]
    | rw [nSame_eq h.1, osSame_eq h.2]
    | rw [gSame_eq h.1, Opd.same_eq h.2]
    | rw [nSame_eq h.1, Opd.same_eq h.2]
    | rw [h.1, Opd.same_eq h.2]
    | rw [Opd.same_eq h.1, osSame_eq h.2]
    | rw [Opd.same_eq h.1, nSame_eq h.2]
    | rw [Opd.same_eq h.1, Opd.same_eq h.2]
    | rw [Opd.same_eq h.1, Opd.same_eq h.2.1, Opd.same_eq h.2.2]
    | rw [Opd.same_eq h.1, opSame_eq h.2.1, opSame_eq h.2.2]
    | rw [nSame_eq h.1, Opd.same_eq h.2.1, Opd.same_eq h.2.2]
    | rw [nSame_eq h.1, Opd.same_eq h.2.1, osSame_eq h.2.2]
    | rw [nSame_eq h.1, osSame_eq h.2.1, osSame_eq h.2.2]
    | rw [gSame_eq h.1, Opd.same_eq h.2.1, Opd.same_eq h.2.2]
    | rw [nSame_eq h.1, gSame_eq h.2.1, Opd.same_eq h.2.2]
    | rw [h.1, Opd.same_eq h.2.1, Opd.same_eq h.2.2]
    | rw [h.1, h.2.1, Opd.same_eq h.2.2.1, Opd.same_eq h.2.2.2]
    | rw [nSame_eq h.1, nSame_eq h.2.1, Opd.same_eq h.2.2.1, Opd.same_eq h.2.2.2]
    | rw [nSame_eq h.1, nSame_eq h.2.1, dSame_eq h.2.2.1, Opd.same_eq h.2.2.2]
    | rw [nSame_eq h.1, Opd.same_eq h.2.1, opSame_eq h.2.2.1, opSame_eq h.2.2.2]
    | rw [nSame_eq h.1, nSame_eq h.2.1, gSame_eq h.2.2.1, Opd.same_eq h.2.2.2.1, Opd.same_eq h.2.2.2.2]
    | rw [nSame_eq h.1, nSame_eq h.2.1, Opd.same_eq h.2.2.1, opSame_eq h.2.2.2.1, opSame_eq h.2.2.2.2]
    | rw [nSame_eq h.1, Opd.same_eq h.2.1, Opd.same_eq h.2.2.1, Opd.same_eq h.2.2.2.1, Opd.same_eq h.2.2.2.2]
abbrev nsSame := same2 nSame
theorem nsSame_eq {a b : List Nat} (h : nsSame a b = true) : a = b := same2_eq (fun _ _ h => nSame_eq h) h
def RO.same (a b : RO) : Bool := gSame a.dst b.dst && (nSame a.nm b.nm && (a.op.same b.op && (decide (a.guard = b.guard) && (nsSame a.forb b.forb && oSame nsSame a.tgt b.tgt))))
theorem RO.same_eq {a b : RO} (h : RO.same a b = true) : a = b := by
  obtain ⟨a1, a2, a3, a4, a5, a6⟩ := a; obtain ⟨b1, b2, b3, b4, b5, b6⟩ := b
  simp only [RO.same, Bool.and_eq_true, decide_eq_true_eq] at h
  obtain ⟨h1, h2, h3, h4, h5, h6⟩ := h
  rw [gSame_eq h1, nSame_eq h2, XOp.same_eq h3, h4, nsSame_eq h5, oSame_eq (fun _ _ h => nsSame_eq h) h6]
def IR.same : IR → IR → Bool
  | .skip, .skip => true
  | .reg d A r, .reg d' A' r' => decide (d = d') && (nsSame A A' && same2 RO.same r r')
  | .seq x y, .seq x' y' => x.same x' && y.same y'
  | .cond c x y, .cond c' x' y' => c.same c' && (x.same x' && y.same y')
  | .block i x, .block i' x' => nSame i i' && x.same x'
  | .loop x, .loop x' => x.same x'
  | .exit i, .exit i' => nSame i i'
  | .ret, .ret => true
  | _, _ => false
theorem IR.same_eq : ∀ {x y : IR}, IR.same x y = true → x = y := by
  intro x
  induction x with
  | skip => intro y h; cases y <;> first | rfl | cases h
  | ret => intro y h; cases y <;> first | rfl | cases h
  | exit i => intro y h; cases y <;> first | cases h; done | (rw [nSame_eq h])
  | loop x ih => intro y h; cases y <;> first | cases h; done | (rw [ih h])
  | reg d A r =>
    intro y h
    cases y <;> first | cases h; done | skip
    simp only [IR.same, Bool.and_eq_true, decide_eq_true_eq] at h
    rw [h.1, nsSame_eq h.2.1, same2_eq (fun _ _ h => RO.same_eq h) h.2.2]
  | seq x z ih1 ih2 =>
    intro y h
    cases y <;> first | cases h; done | skip
    simp only [IR.same, Bool.and_eq_true] at h
    rw [ih1 h.1, ih2 h.2]
  | cond c x z ih1 ih2 =>
    intro y h
    cases y <;> first | cases h; done | skip
    simp only [IR.same, Bool.and_eq_true] at h
    rw [Opd.same_eq h.1, ih1 h.2.1, ih2 h.2.2]
  | block i x ih =>
    intro y h
    cases y <;> first | cases h; done | skip
    simp only [IR.same, Bool.and_eq_true] at h
    rw [nSame_eq h.1, ih h.2]
  | gh g x ih => intro y h; cases y <;> cases h
  | ga g x ih => intro y h; cases y <;> cases h
def RX.same : RX → RX → Bool
  | .tmp n, .tmp m => nSame n m
  | .cell n g, .cell m g' => nSame n m && gSame g g'
  | _, _ => false
theorem RX.same_eq {x y : RX} (h : RX.same x y = true) : x = y := by
  cases x <;> cases y <;> simp only [RX.same, Bool.false_eq_true, Bool.and_eq_true] at h
  · rw [nSame_eq h]
  · rw [nSame_eq h.1, gSame_eq h.2]
def CF.same (a b : CF) : Bool := nSame a.np b.np && (nSame a.nt b.nt && (same2 RX.same a.res b.res && a.body.same b.body))
theorem CF.same_eq {a b : CF} (h : CF.same a b = true) : a = b := by
  obtain ⟨a1, a2, a3, a4⟩ := a; obtain ⟨b1, b2, b3, b4⟩ := b
  simp only [CF.same, Bool.and_eq_true] at h
  rw [nSame_eq h.1, nSame_eq h.2.1, same2_eq (fun _ _ h => RX.same_eq h) h.2.2.1, IR.same_eq h.2.2.2]
def isFn (P : Program) (f : FuncId) (c : CF) : Bool :=
  match P.funcs[f]? with
  | some fn => match cFunc P fn with
    | some c' => c'.same c.erase
    | none => false
  | none => false
theorem isFn_eq {P : Program} {f : FuncId} {c : CF} (h : isFn P f c = true) : ∃ fn, P.funcs[f]? = some fn ∧ cFunc P fn = some c.erase := by
  unfold isFn at h
  split at h
  · rename_i fn hf
    split at h
    · rename_i c' hc
      exact ⟨fn, hf, by rw [hc, CF.same_eq h]⟩
    · cases h
  · cases h
theorem can_of {P : Program} {f : FuncId} {c : CF} (hf : isFn P f c = true) {args : List D} {r : Res} (hl : args.length = c.np) (hr : r.isPost = false) (hex : c.ex (Can P) args r) : Can P f args r := by
  obtain ⟨fn, h1, h2⟩ := isFn_eq hf
  exact can_intro h1 h2 hl hr hex
theorem can_ofM {P : Program} {f : FuncId} {c : CF} (hf : isFn P f c = true) {sz : Nat} {l : List (List D)} {args : List D} {p : Option (List (List D))} {r : Res} (hl : args.length + 1 = c.np) (hnf : c.body.noFrz = true)
    (hex : c.exM (Can P) sz l args p r) : Can P f (.ownA sz l :: args) (.post p r) := by
  obtain ⟨fn, h1, h2⟩ := isFn_eq hf
  exact can_introM h1 h2 hl hnf hex
end Go.X
namespace Go.X
open Go Go.RowKit Go.ChangeShapes Go.WideShapes
inductive Ty where
  | int (k : IntKind)
  | bool
  | str
  | arr (n : Nat) (e : Ty)
  | st (fs : List Ty)
  | sl (e : Ty)
mutual
def Ty.cells : Ty → Nat
  | .arr n e => n * e.cells
  | .st fs => cellsL fs
  | _ => 1
def cellsL : List Ty → Nat
  | [] => 0
  | t :: ts => t.cells + cellsL ts
end
mutual
def Ty.Has : Ty → List D → Prop
  | .int k, xs => ∃ n, xs = [.int k n] ∧ (Lit.int k n).wf = true
  | .bool, xs => ∃ b, xs = [.bool b]
  | .str, xs => ∃ s : ByteArray, xs = [.str s] ∧ s.size ≤ maxLen
  | .arr n e, xs => ∃ yss : List (List D), xs = yss.flatten ∧ yss.length = n ∧ ∀ ys ∈ yss, e.Has ys
  | .st fs, xs => hasL fs xs
  | .sl e, xs => ∃ l : List (List D), xs = [.lst e.cells l] ∧ l.length ≤ maxLen ∧ ∀ r ∈ l, e.Has r
def hasL : List Ty → List D → Prop
  | [], xs => xs = []
  | t :: ts, xs => ∃ ys zs, xs = ys ++ zs ∧ t.Has ys ∧ hasL ts zs
end
theorem flat_len {c : Nat} : ∀ {yss : List (List D)}, (∀ ys ∈ yss, ys.length = c) → yss.flatten.length = yss.length * c
  | [], _ => by simp
  | y :: r, h => by
    rw [List.flatten_cons, List.length_append, h y (List.mem_cons_self ..), flat_len fun ys hy => h ys (List.mem_cons_of_mem _ hy), List.length_cons, Nat.succ_mul]; omega
mutual
theorem Ty.len : ∀ {t : Ty} {xs : List D}, t.Has xs → xs.length = t.cells
  | .int _, _, h => by obtain ⟨n, rfl, _⟩ := h; rfl
  | .bool, _, h => by obtain ⟨b, rfl⟩ := h; rfl
  | .str, _, h => by obtain ⟨s, rfl, _⟩ := h; rfl
  | .arr n e, xs, h => by
    obtain ⟨yss, rfl, rfl, h⟩ := h
    exact flat_len fun ys hy => Ty.len (h ys hy)
  | .st fs, xs, h => lenL h
  | .sl e, _, h => by obtain ⟨l, rfl, _⟩ := h; rfl
theorem lenL : ∀ {ts : List Ty} {xs : List D}, hasL ts xs → xs.length = cellsL ts
  | [], _, h => by rw [h]; rfl
  | t :: ts, _, h => by
    obtain ⟨ys, zs, rfl, h1, h2⟩ := h
    rw [List.length_append, Ty.len h1, lenL h2]; rfl
end
def fieldsTy (g : TypeId → Option Ty) (P : Program) : Nat → List Field → Option (List Ty)
  | _, [] => some []
  | o, f :: fs => (g f.type).bind fun x => if f.offset = o ∧ P.cellsOf f.type = x.cells then (fieldsTy g P (o + x.cells) fs).map (x :: ·) else none
def tyOf (P : Program) : Nat → TypeId → Option Ty
  | 0, _ => none
  | n + 1, t => match P.underlying t with
    | some .bool => some .bool
    | some (.int k) => some (.int k)
    | some .string => some .str
    | some (.slice e) => (tyOf P n e).bind fun x => if P.cellsOf e = x.cells ∧ 0 < x.cells then some (.sl x) else none
    | some (.array m e) => (tyOf P n e).bind fun x => if P.cellsOf e = x.cells ∧ P.cellsOf t = m * x.cells then some (.arr m x) else none
    | some (.struct fs) => (fieldsTy (tyOf P n) P 0 fs.toList).bind fun xs => if P.cellsOf t = cellsL xs then some (.st xs) else none
    | _ => none
structure SeeL (w : World) (xs : List D) (cs : List Value) : Prop where
  len : xs.length = cs.length
  one : ∀ (i : Nat) (v : Value), cs[i]? = some v → v.oneCell' = true
  see : ∀ (i : Nat) (x : D) (v : Value), xs[i]? = some x → cs[i]? = some v → Sees w (fun k => k < w.heap.size) x v
theorem SeeL.nil (w : World) : SeeL w [] [] := ⟨rfl, fun i v h => by simp at h, fun i x v h => by simp at h⟩
theorem SeeL.single {w : World} {x : D} {v : Value} (h1 : v.oneCell' = true) (h : Sees w (fun k => k < w.heap.size) x v) : SeeL w [x] [v] :=
  ⟨rfl, fun i u hu => by
    cases i with
    | zero => simp at hu; subst hu; exact h1
    | succ i => simp at hu, fun i y u hy hu => by
    cases i with
    | zero => simp at hu hy; subst hu hy; exact h
    | succ i => simp at hu⟩
theorem SeeL.append {w : World} {xs ys : List D} {cs ds : List Value} (h : SeeL w xs cs) (g : SeeL w ys ds) : SeeL w (xs ++ ys) (cs ++ ds) :=
  ⟨by rw [List.length_append, List.length_append, h.len, g.len], fun i v hv => by
    rcases Nat.lt_or_ge i cs.length with hi | hi
    · rw [List.getElem?_append_left hi] at hv; exact h.one i v hv
    · rw [List.getElem?_append_right hi] at hv; exact g.one _ v hv, fun i x v hx hv => by
    rcases Nat.lt_or_ge i cs.length with hi | hi
    · rw [List.getElem?_append_left hi] at hv
      rw [List.getElem?_append_left (by rw [h.len]; exact hi)] at hx
      exact h.see i x v hx hv
    · rw [List.getElem?_append_right hi] at hv
      rw [List.getElem?_append_right (by rw [h.len]; exact hi), h.len] at hx
      exact g.see _ x v hx hv⟩
theorem parts {w : World} {c : Nat} {Q : List D → Prop} : ∀ {n : Nat} {cs : List Value}, cs.length = n * c → (∀ i, i < n → ∃ ys, Q ys ∧ SeeL w ys ((cs.drop (i * c)).take c)) →
    ∃ yss : List (List D), yss.length = n ∧ (∀ ys ∈ yss, Q ys) ∧ SeeL w yss.flatten cs
  | 0, cs, hl, _ => by
    have : cs = [] := List.length_eq_zero_iff.1 (by omega)
    subst this
    exact ⟨[], rfl, fun _ h => (List.not_mem_nil h).elim, SeeL.nil w⟩
  | n + 1, cs, hl, h => by
    obtain ⟨ys, hq, hs⟩ := h 0 (by omega)
    rw [Nat.zero_mul, List.drop_zero] at hs
    obtain ⟨yss, h1, h2, h3⟩ := parts (w := w) (c := c) (Q := Q) (n := n) (cs := cs.drop c) (by rw [List.length_drop, hl, Nat.succ_mul]; omega) fun i hi => by
      obtain ⟨ys, hq, hs⟩ := h (i + 1) (by omega)
      refine ⟨ys, hq, ?_⟩
      rw [List.drop_drop]
      rwa [Nat.succ_mul, Nat.add_comm] at hs
    refine ⟨ys :: yss, by rw [List.length_cons, h1], fun z hz => ?_, ?_⟩
    · rcases List.mem_cons.1 hz with rfl | hz
      · exact hq
      · exact h2 z hz
    · rw [List.flatten_cons]
      have := hs.append h3
      rwa [List.take_append_drop] at this
section
variable {H : Type} {enc : TypeId × Value → H} {P : Program} {w : World} {spare : Nat → Bool} {held : Bool}
theorem fields_see {n fuel : Nat} (ih : ∀ {t : TypeId} {ty : Ty} {cs : List Value} {x : DataW H × List MemPlace}, tyOf P n t = some ty → DataW.trod enc P w 0 spare held fuel t cs = some x → ∃ xs : List D, ty.Has xs ∧ SeeL w xs cs)
    {cs : List Value} : ∀ {fs : List Field} {o : Nat} {tys : List Ty}, fieldsTy (tyOf P n) P o fs = some tys → cs.length = o + cellsL tys →
    (∀ f ∈ fs, ∃ x, DataW.trod enc P w 0 spare held fuel f.type ((cs.drop f.offset).take (P.cellsOf f.type)) = some x) → ∃ xs : List D, hasL tys xs ∧ SeeL w xs (cs.drop o)
  | [], o, tys, h, hl, _ => by
    simp only [fieldsTy, Option.some.injEq] at h; subst h
    refine ⟨[], rfl, ?_⟩
    rw [List.drop_of_length_le (by simp [cellsL] at hl; omega)]
    exact SeeL.nil w
  | f :: fs, o, tys, h, hl, ht => by
    simp only [fieldsTy, Option.bind_eq_some_iff] at h
    obtain ⟨ty, hty, h⟩ := h
    split at h
    · rename_i hc
      obtain ⟨ho, hc⟩ := hc
      simp only [Option.map_eq_some_iff] at h
      obtain ⟨r, hr, rfl⟩ := h
      obtain ⟨x, hx⟩ := ht f (List.mem_cons_self ..)
      obtain ⟨ys, h1, h2⟩ := ih hty hx
      obtain ⟨zs, h3, h4⟩ := fields_see ih hr (by simp only [cellsL] at hl; omega) fun g hg => ht g (List.mem_cons_of_mem _ hg)
      refine ⟨ys ++ zs, ⟨ys, zs, rfl, h1, h3⟩, ?_⟩
      have := h2.append h4
      rw [ho, hc, ← List.drop_drop] at this
      rwa [List.take_append_drop] at this
    · cases h
theorem sees_of_trod : ∀ {n : Nat} {t : TypeId} {ty : Ty} {fuel : Nat} {cs : List Value} {x : DataW H × List MemPlace}, tyOf P n t = some ty → DataW.trod enc P w 0 spare held fuel t cs = some x →
    ∃ xs : List D, ty.Has xs ∧ SeeL w xs cs
  | 0, t, ty, _, _, _, h, _ => by cases h
  | n + 1, t, ty, fuel, cs, x, h, hx => by
    unfold tyOf at h
    split at h
    · rename_i ht
      simp only [Option.some.injEq] at h; subst h
      obtain ⟨b, rfl, _⟩ := DataW.trod_bool ht hx
      exact ⟨_, ⟨b, rfl⟩, SeeL.single rfl (.bool b)⟩
    · rename_i k ht
      simp only [Option.some.injEq] at h; subst h
      obtain ⟨m, rfl, _, hw⟩ := DataW.trod_int ht hx
      exact ⟨_, ⟨m, rfl, hw⟩, SeeL.single rfl (.int k m)⟩
    · rename_i ht
      simp only [Option.some.injEq] at h; subst h
      obtain ⟨s, rfl, _, hw⟩ := DataW.trod_string ht hx
      exact ⟨_, ⟨s, rfl, hw⟩, SeeL.single rfl (.str s)⟩
    · rename_i e ht
      simp only [Option.bind_eq_some_iff] at h
      obtain ⟨te, hte, h⟩ := h
      split at h
      · rename_i hc
        obtain ⟨hc, hpos⟩ := hc
        simp only [Option.some.injEq] at h; subst h
        rcases DataW.trod_slice ht hx with ⟨rfl, _⟩ | ⟨a, len, cap, elems, rest, m, _, rfl, _, _, hle, hcap, hel, hi, _⟩
        · exact ⟨_, ⟨[], rfl, Nat.zero_le _, fun _ h => (List.not_mem_nil h).elim⟩, SeeL.single rfl (.lnil _ _ _)⟩
        · have key : ∀ i, i < len → ∃ (xs : List D) (ys : List Value), te.Has xs ∧ SeeL w xs ys ∧ w.cells? 0 (a.add (i * P.cellsOf e)) (P.cellsOf e) = some ys := fun i hilt => by
            have := hi i hilt
            obtain ⟨y, hy⟩ : ∃ y, elems[i]? = some y := ⟨_, List.getElem?_eq_getElem (by omega)⟩
            rw [hy, Option.bind_eq_some_iff] at this
            obtain ⟨ys, h1, h2⟩ := this
            obtain ⟨xs, h3, h4⟩ := sees_of_trod hte h2
            exact ⟨xs, ys, h3, h4, h1⟩
          rcases Nat.eq_zero_or_pos len with h0 | h0
          · subst h0
            exact ⟨_, ⟨[], rfl, Nat.zero_le _, fun _ h => (List.not_mem_nil h).elim⟩, SeeL.single rfl (.lnil _ _ _)⟩
          · have hex : ∀ i : Nat, ∃ (xs : List D) (ys : List Value), i < len → te.Has xs ∧ SeeL w xs ys ∧ w.cells? 0 (a.add (i * P.cellsOf e)) (P.cellsOf e) = some ys := fun i => by
              by_cases hi : i < len
              · obtain ⟨xs, ys, h⟩ := key i hi; exact ⟨xs, ys, fun _ => h⟩
              · exact ⟨[], [], fun h => absurd h hi⟩
            let X : Nat → List D := fun i => (hex i).choose
            let Y : Nat → List Value := fun i => (hex i).choose_spec.choose
            have hXY : ∀ i, i < len → te.Has (X i) ∧ SeeL w (X i) (Y i) ∧ w.cells? 0 (a.add (i * P.cellsOf e)) (P.cellsOf e) = some (Y i) := fun i => (hex i).choose_spec.choose_spec
            have cell : ∀ i j, i < len → j < te.cells → w.cell? ((a.add (i * te.cells)).add j) = (Y i)[j]? := fun i j hi hj => by
              have := (World.cells?_some (hXY i hi).2.2).2.2 j (by omega)
              rwa [hc] at this
            have ylen : ∀ i, i < len → (Y i).length = te.cells := fun i hi => by rw [(World.cells?_some (hXY i hi).2.2).2.1, hc]
            obtain ⟨v0, hv0⟩ : ∃ v, (Y 0)[0]? = some v := ⟨_, List.getElem?_eq_getElem (by rw [ylen 0 h0]; exact hpos)⟩
            have hcell0 := cell 0 0 h0 hpos
            rw [hv0] at hcell0
            obtain ⟨b, off, spot⟩ := a
            have hspot : spot = none := by simpa [Addr.add] using World.cell?_spot hcell0
            subst hspot
            obtain ⟨c, T, fz, hb⟩ : ∃ c T fz, w.heap[b]? = some (.cells c T fz) := by
              simp only [Addr.add, Nat.zero_mul, if_true, World.cell?] at hcell0
              split at hcell0
              · rename_i c T fz hb; exact ⟨c, T, fz, hb⟩
              · cases hcell0
            have cell' : ∀ i j, i < len → j < te.cells → c[off + i * te.cells + j]? = (Y i)[j]? := fun i j hi hj => by
              rw [← cell i j hi hj]
              have e : ((⟨b, off, none⟩ : Addr).add (i * te.cells)).add j = ⟨b, off + i * te.cells + j, none⟩ := by
                rw [add_plain, add_plain]
              rw [e]
              simp [World.cell?, hb]
            have hbs : b < w.heap.size := (Array.getElem?_eq_some_iff.1 hb).1
            refine ⟨[.lst te.cells ((List.range len).map X)], ⟨_, rfl, by simp; omega, fun r hr => ?_⟩, SeeL.single rfl ?_⟩
            · obtain ⟨i, hi, rfl⟩ := List.mem_map.1 hr
              exact (hXY i (by simpa using hi)).1
            · have hsl : (.slice (some ⟨b, off, none⟩) len cap : Value) = .slice (some ⟨b, off, none⟩) ((List.range len).map X).length cap := by simp
              rw [hsl]
              refine .lst (fun i j => ((Y i)[j]?).getD Go.undef) hbs hb (by simp; exact hle) (fun i els hel => ?_) fun i els j x hel hx => ?_
              · have hi : i < len := by
                  have := (List.getElem?_eq_some_iff.1 hel).1; simpa using this
                have hX : els = X i := by
                  rw [List.getElem?_map, List.getElem?_range hi] at hel
                  simpa using hel.symm
                subst hX
                have hlen := (hXY i hi).2.1.len
                rw [ylen i hi] at hlen
                refine ⟨hlen, fun j hj => ?_⟩
                have hy : (Y i)[j]? = some ((Y i)[j]'(by rw [ylen i hi]; exact hj)) := List.getElem?_eq_getElem _
                rw [cell' i j hi hj, hy]
                exact ⟨rfl, (hXY i hi).2.1.one j _ hy⟩
              · have hi : i < len := by
                  have := (List.getElem?_eq_some_iff.1 hel).1; simpa using this
                have hX : els = X i := by
                  rw [List.getElem?_map, List.getElem?_range hi] at hel
                  simpa using hel.symm
                subst hX
                have hj : j < te.cells := by
                  have := (List.getElem?_eq_some_iff.1 hx).1
                  rw [(hXY i hi).2.1.len, ylen i hi] at this; exact this
                have hy : (Y i)[j]? = some ((Y i)[j]'(by rw [ylen i hi]; exact hj)) := List.getElem?_eq_getElem _
                show Sees w _ x (((Y i)[j]?).getD Go.undef)
                rw [hy]
                exact (hXY i hi).2.1.see j x _ hx hy
      · cases h
    · rename_i m e ht
      simp only [Option.bind_eq_some_iff] at h
      obtain ⟨te, hte, h⟩ := h
      split at h
      · rename_i hc
        obtain ⟨hc, hc2⟩ := hc
        simp only [Option.some.injEq] at h; subst h
        obtain ⟨xs, f', rfl, _, hl, hxl, hi⟩ := DataW.trod_array ht hx
        obtain ⟨yss, h1, h2, h3⟩ := parts (w := w) (c := te.cells) (Q := te.Has) (n := m) (cs := cs) (by rw [hl, hc2]) fun i hilt => by
          have := hi i hilt
          rw [List.getElem?_eq_getElem (by omega), hc] at this
          exact sees_of_trod hte this
        exact ⟨_, ⟨yss, rfl, h1, h2⟩, h3⟩
      · cases h
    · rename_i fs ht
      simp only [Option.bind_eq_some_iff] at h
      obtain ⟨tys, htys, h⟩ := h
      split at h
      · rename_i hc
        simp only [Option.some.injEq] at h; subst h
        obtain ⟨xs, f', rfl, _, hl, hxl, hi⟩ := DataW.trod_struct ht hx
        obtain ⟨ys, h1, h2⟩ := fields_see (fuel := f') (fun {t ty cs x} h1 h2 => sees_of_trod h1 h2) htys (by rw [hl, hc]; omega) fun f hf => by
          obtain ⟨i, hi', he⟩ := List.getElem_of_mem hf
          have hfi : fs[i]? = some f := by
            rw [Array.getElem?_eq_getElem (by simpa using hi')]
            simpa using he
          have := hi i f hfi
          rw [List.getElem?_eq_getElem (by have := (Array.getElem?_eq_some_iff.1 hfi).1; omega)] at this
          exact ⟨_, this⟩
        exact ⟨ys, h1, by simpa using h2⟩
      · cases h
    · cases h
end
def Ty.arg : Ty → D → Prop
  | .arr n e, x => ∃ xs, x = .agg xs ∧ (Ty.arr n e).Has xs
  | .st fs, x => ∃ xs, x = .agg xs ∧ (Ty.st fs).Has xs
  | t, x => t.Has [x]
def argsHave : List Ty → List D → Prop
  | [], [] => True
  | t :: ts, x :: xs => t.arg x ∧ argsHave ts xs
  | _, _ => False
section
variable {H : Type} {enc : TypeId × Value → H} {P : Program} {w : World}
theorem see_arg {n : Nat} {t : TypeId} {ty : Ty} {base : Nat} {v : Value} {d : DataW H} {ps : List MemPlace} (h : tyOf P n t = some ty) (hv : Value.okWide P w .any base t v)
    (hd : DataW.Trod enc P w 0 (fun _ => true) true t v d ps) : ∃ x : D, ty.arg x ∧ Sees w (fun k => k < w.heap.size) x v := by
  obtain ⟨fuel, hd⟩ := hd
  obtain ⟨xs, h1, h2⟩ := sees_of_trod h hd
  have one : ∀ {x : D}, xs = [x] → v.cells = #[v] → Sees w (fun k => k < w.heap.size) x v := fun e hc => by
    subst e
    exact h2.see 0 _ _ rfl (by rw [hc]; rfl)
  have agg : ∀ {cs : Array Value}, v = .agg cs → Sees w (fun k => k < w.heap.size) (.agg xs) v := fun e => by
    subst e
    refine .agg (by rw [h2.len]; rfl) (fun i u hu => h2.one i u (by simpa [Value.cells] using hu)) fun i x u hx hu => h2.see i x u hx (by simpa [Value.cells] using hu)
  cases n with
  | zero => cases h
  | succ n =>
    unfold tyOf at h
    split at h
    · rename_i ht
      simp only [Option.some.injEq] at h; subst h
      obtain ⟨b, rfl⟩ := okWide_bool ht hv
      obtain ⟨c, rfl⟩ := h1
      exact ⟨_, ⟨c, rfl⟩, one rfl rfl⟩
    · rename_i k ht
      simp only [Option.some.injEq] at h; subst h
      obtain ⟨b, rfl⟩ := okWide_int ht hv
      obtain ⟨c, rfl, hw⟩ := h1
      exact ⟨_, ⟨c, rfl, hw⟩, one rfl rfl⟩
    · rename_i ht
      simp only [Option.some.injEq] at h; subst h
      obtain ⟨b, rfl⟩ := okWide_string ht hv
      obtain ⟨c, rfl, hw⟩ := h1
      exact ⟨_, ⟨c, rfl, hw⟩, one rfl rfl⟩
    · rename_i e ht
      simp only [Option.bind_eq_some_iff] at h
      obtain ⟨te, hte, h⟩ := h
      split at h
      · simp only [Option.some.injEq] at h; subst h
        obtain ⟨a, b, c, rfl⟩ := okWide_slice ht hv
        obtain ⟨l, rfl, hw⟩ := h1
        exact ⟨_, ⟨l, rfl, hw⟩, one rfl rfl⟩
      · cases h
    · rename_i m e ht
      simp only [Option.bind_eq_some_iff] at h
      obtain ⟨te, hte, h⟩ := h
      split at h
      · simp only [Option.some.injEq] at h; subst h
        simp only [Value.okWide, ht] at hv
        obtain ⟨cs, rfl, _⟩ := hv
        exact ⟨_, ⟨xs, rfl, h1⟩, agg rfl⟩
      · cases h
    · rename_i fs ht
      simp only [Option.bind_eq_some_iff] at h
      obtain ⟨te, hte, h⟩ := h
      split at h
      · simp only [Option.some.injEq] at h; subst h
        simp only [Value.okWide, ht] at hv
        obtain ⟨cs, rfl, _⟩ := hv
        exact ⟨_, ⟨xs, rfl, h1⟩, agg rfl⟩
      · cases h
    · cases h
theorem see_args {n base : Nat} : ∀ {ts : List TypeId} {tys : List Ty} {vs : List Value} {ds : List (DataW H)} {ps : List MemPlace}, ts.map (tyOf P n) = tys.map some →
    (∀ (j : Nat) t v, ts[j]? = some t → vs[j]? = some v → Value.okWide P w .any base t v) → DataW.TrodAll enc P w 0 (fun _ => true) true ts vs ds ps →
    ∃ xs : List D, argsHave tys xs ∧ xs.length = vs.length ∧ ∀ (i : Nat) (x : D) (v : Value), xs[i]? = some x → vs[i]? = some v → Sees w (fun k => k < w.heap.size) x v
  | [], tys, vs, ds, ps, ht, hv, hd => by
    obtain ⟨rfl, rfl, rfl⟩ := trodAll_nil hd
    cases tys with
    | nil => exact ⟨[], trivial, rfl, fun i x v h => by simp at h⟩
    | cons => simp at ht
  | t :: ts, tys, vs, ds, ps, ht, hv, hd => by
    obtain ⟨v, vs', d, ds', a, b, rfl, rfl, rfl, h1, h2⟩ := trodAll_cons hd
    cases tys with
    | nil => simp at ht
    | cons ty tys =>
      simp only [List.map_cons, List.cons.injEq] at ht
      obtain ⟨x, hx, hs⟩ := see_arg ht.1 (hv 0 t v rfl rfl) h1
      obtain ⟨xs, h3, h4, h5⟩ := see_args ht.2 (fun j t v h1 h2 => hv (j + 1) t v h1 h2) h2
      refine ⟨x :: xs, ⟨hx, h3⟩, by simp [h4], fun i y u hy hu => ?_⟩
      cases i with
      | zero => simp at hy hu; subst hy hu; exact hs
      | succ i => exact h5 i y u (by simpa using hy) (by simpa using hu)
theorem below_all (hl : laidOutB P = true) {W W' : World} (hb : Below W.heap.size W W') : ∀ {ts : List TypeId} {vs : List Value} {ds : List (DataW H)} {ps : List MemPlace}, ts.all (fun t => P.readableRec t && decide (t < P.types.size)) = true →
    DataW.TrodAll enc P W 0 (fun _ => true) true ts vs ds ps → (∀ x ∈ ps, x.block < W.heap.size) → DataW.TrodAll enc P W' 0 (fun b => decide (b < W.heap.size)) true ts vs ds ps
  | [], vs, ds, ps, _, hd, _ => by
    obtain ⟨rfl, rfl, rfl⟩ := trodAll_nil hd
    rfl
  | t :: ts, vs, ds, ps, hr, hd, hlt => by
    obtain ⟨v, vs', d, ds', a, b, rfl, rfl, rfl, h1, h2⟩ := trodAll_cons hd
    simp only [List.all_cons, Bool.and_eq_true, decide_eq_true_eq] at hr
    exact ⟨a, b, Below.trod hl hr.1.1 hr.1.2 h1 hb fun x hx => hlt x (List.mem_append_left _ hx), below_all hl hb hr.2 h2 fun x hx => hlt x (List.mem_append_right _ hx), rfl⟩
theorem law_contract {C : Checked} {f : FuncId} {fn : Func} {s : ChangeSpec} {tys : List Ty} {tb : TypeId} {apart handsOn : Bool} (hP : C.prog = P) (hl : laidOutB P = true)
    (hty : fn.params.toList.map (tyOf P 10) = tys.map some) (hread : fn.params.toList.all (fun t => P.readableRec t && decide (t < P.types.size)) = true)
    (hres : fn.resultTypes = #[tb]) (hb : P.underlying tb = some .bool) (hv : s.vars = [])
    (hs : ∀ ds : List (DataW H), ds.length = tys.length → s.fn H ds = { results := [.lit (.bool true)], args := ds })
    (can : ∀ args, argsHave tys args → Can P f args (.val (.bool true))) (hpl : Plain P f)
    (W : World) (base : Nat) (args : Array Value) (ds gs : List (DataW H)) (before : List MemPlace)
    (hval : ∀ (j : Nat) t v, fn.params[j]? = some t → args[j]? = some v → Value.okWide C.prog W .any base t v)
    (hW : DataW.Whole enc C.prog fn.params.toList s.vars apart W args.toList ds gs before) :
    Calls C.prog f args W fun e W' => ∃ v, e = .returned v ∧ s.post enc C.prog fn apart true handsOn false W args v W' := by
  subst hP
  have hW' := hW
  obtain ⟨p, q, hA, hV, rfl, _, _⟩ := hW
  rw [hv] at hV
  obtain ⟨rfl, rfl⟩ := trodVars_none hV
  obtain ⟨xs, h1, h2, h3⟩ := see_args (base := base) hty (fun j t v h1 h2 => hval j t v (by simpa using h1) (by simpa using h2)) hA
  obtain ⟨_, hc⟩ := (can xs h1).toD rfl
  have hlt : ∀ x ∈ p, x.block < W.heap.size := fun x hx => hW'.lt x (by simpa using hx)
  have hdl : ds.length = tys.length := by
    have h4 : ∀ {ts : List TypeId} {vs : List Value} {ds : List (DataW H)} {ps : List MemPlace}, DataW.TrodAll enc C.prog W 0 (fun _ => true) true ts vs ds ps → ds.length = ts.length := by
      intro ts
      induction ts with
      | nil =>
        intro vs ds ps h
        obtain ⟨rfl, rfl, rfl⟩ := trodAll_nil h
        rfl
      | cons t ts ih =>
        intro vs ds ps h
        obtain ⟨v, vs', d, ds', a, b, rfl, rfl, rfl, _, h2⟩ := trodAll_cons h
        simp [ih h2]
    have := h4 hA
    have e := congrArg List.length hty
    simp only [List.length_map] at e
    omega
  refine (hpl.calls (hc W (fun k => k < W.heap.size) args (fun _ h => h) (by rw [← Array.length_toList, h2]) fun i x v hx hv => h3 i x v hx (by simpa using hv))).mono fun e W' ⟨v, he, hbl, G, _, hG⟩ => ?_
  have hG' : Sees W' G (.bool true) v := hG
  cases hG'
  refine ⟨_, he, ds, [], _, [], p ++ [], [], hW', ?_, ?_, ?_, hbl.frame _, fun h => by cases h⟩
  · rw [List.append_nil, hs ds hdl, hres]
    exact trodAll_mk1 (shut_bool hb true)
  · rw [List.append_nil, List.append_nil, hs ds hdl]
    exact below_all hl hbl hread hA hlt
  · rw [List.append_nil, hs ds hdl, hv]; rfl
end
end Go.X
