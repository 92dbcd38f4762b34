import Derived.Test.YtmbocpoebbijmaaK16
import Derived.Test.YtmbocpoebbijmaaM1
set_option linter.all false
namespace Go.X
open Go Go.RowKit
def zPr : Pr := ⟨alg0 0 0 fun _ => 0, alg0 0 0 fun _ => 0, fun _ _ => 0⟩
theorem alg0_z (q : Nat) : algF (alg0 0 0 fun _ => 0) q = if q < 2 then .int .i64 0 else .int .u8 0 := by
  unfold algF alg0
  dsimp only
  by_cases e0 : q = 0
  · rw [if_pos e0, if_pos (by omega)]
  · rw [if_neg e0]
    by_cases e1 : q = 1
    · rw [if_pos e1, if_pos (by omega)]
    · rw [if_neg e1, if_neg (show ¬ q < 2 by omega), ite_self]
theorem prZ_L : prZ = pairL zPr := by
  refine arr_of prZ_len fun q hq => ?_
  have ha : ∀ q, q < 224 → algZ[q]? = some (algF (alg0 0 0 fun _ => 0) q) := fun q hq => by
    rw [alg0_z, algZ_arr]; exact arr_get hq
  unfold prZ pairF zPr
  dsimp only
  by_cases c1 : q < 224
  · rw [List.append_assoc, List.getElem?_append_left (by rw [algZ_len]; exact c1), if_pos c1, ha q c1]
  · rw [List.append_assoc, List.getElem?_append_right (by rw [algZ_len]; omega), algZ_len, if_neg c1]
    by_cases c2 : q < 448
    · rw [List.getElem?_append_left (by rw [algZ_len]; omega), if_pos c2, ha _ (by omega)]
    · rw [List.getElem?_append_right (by rw [algZ_len]; omega), algZ_len, if_neg c2]
      unfold matZ
      rw [List.getElem?_replicate, if_pos (by omega)]
theorem pr_build {c o : Alg} : splice (splice prZ 0 (algL c)) 224 (algL o) = pairL ⟨c, o, fun _ _ => 0⟩ := by
  rw [prZ_L]
  unfold pairL algL
  rw [arr_splice (by omega), arr_splice (by omega)]
  refine arr_ext fun q hq => ?_
  unfold pairF zPr
  dsimp only
  by_cases c1 : q < 224
  · rw [if_neg (by omega), if_pos (by omega), if_pos c1]; rfl
  · by_cases c2 : q < 448
    · rw [if_pos (by omega), if_neg c1, if_pos c2]
    · rw [if_neg (by omega), if_neg (by omega), if_neg c1, if_neg c2, if_neg c1, if_neg c2]
theorem pr_setF {x : Pr} {v : Int} : (pairL x).set (0 + 0 + 218 + (0 : Int).toNat * 1) (.int .u8 v) = pairL { x with c := { x.c with f := upd x.c.f 0 v } } := by
  rw [show 0 + 0 + 218 + (0 : Int).toNat * 1 = 218 from rfl]
  unfold pairL
  rw [arr_set]
  refine arr_ext fun q hq => ?_
  unfold upd pairF
  dsimp only
  by_cases e : q = 218
  · subst e
    rw [if_pos rfl, if_pos (by omega)]
    unfold algF
    dsimp only
    rw [if_neg (by omega), if_neg (by omega), if_neg (by omega), if_pos (by omega)]
  · rw [if_neg e]
    by_cases c1 : q < 224
    · rw [if_pos c1, if_pos c1]
      unfold algF
      dsimp only
      by_cases e0 : q = 0
      · rw [if_pos e0, if_pos e0]
      · rw [if_neg e0, if_neg e0]
        by_cases e1 : q = 1
        · rw [if_pos e1, if_pos e1]
        · rw [if_neg e1, if_neg e1]
          by_cases e2 : q < 218
          · rw [if_pos e2, if_pos e2]
          · rw [if_neg e2, if_neg e2, if_neg (by omega)]
    · rw [if_neg c1, if_neg c1]
def updZ (z : Nat → Nat → Int) (k i : Nat) (v : Int) : Nat → Nat → Int := fun a b => if a = k ∧ b = i then v else z a b
theorem pr_setZ {x : Pr} {k i : Nat} {v : Int} (hk : k < 6) (hi : i < 6) : (pairL x).set (0 + 448 + ((k : Nat) : Int).toNat * 6 + ((i : Nat) : Int).toNat * 1) (.int .u8 v) = pairL { x with z := updZ x.z k i v } := by
  rw [show 0 + 448 + ((k : Nat) : Int).toNat * 6 + ((i : Nat) : Int).toNat * 1 = 448 + k * 6 + i by omega]
  unfold pairL
  rw [arr_set]
  refine arr_ext fun q hq => ?_
  unfold upd pairF updZ
  dsimp only
  by_cases e : q = 448 + k * 6 + i
  · subst e
    rw [if_pos rfl, if_neg (by omega), if_neg (by omega), if_pos (by omega)]
  · rw [if_neg e]
    by_cases c1 : q < 224
    · rw [if_pos c1, if_pos c1]
    · rw [if_neg c1, if_neg c1]
      by_cases c2 : q < 448
      · rw [if_pos c2, if_pos c2]
      · rw [if_neg c2, if_neg c2, if_neg (by omega)]
def rowZ (z : Nat → Nat → Int) (k : Nat) (w : Nat → Int) : Nat → Nat → Int := fun a b => if a = k then w b else z a b
theorem pr_splZ {x : Pr} {k : Nat} {w : Nat → Int} (hk : k < 6) : splice (pairL x) (0 + 448 + ((k : Nat) : Int).toNat * 6) (vecL w) = pairL { x with z := rowZ x.z k w } := by
  rw [show 0 + 448 + ((k : Nat) : Int).toNat * 6 = 448 + k * 6 by omega]
  show splice (arr 484 (pairF x)) (448 + k * 6) (arr 6 fun i => .int .u8 (w i)) = _
  rw [arr_splice (by omega)]
  refine arr_ext fun q hq => ?_
  unfold pairF rowZ
  dsimp only
  by_cases c1 : q < 224
  · rw [if_neg (by omega), if_pos c1, if_pos c1]
  · rw [if_neg c1, if_neg c1]
    by_cases c2 : q < 448
    · rw [if_neg (by omega), if_pos c2, if_pos c2]
    · rw [if_neg c2, if_neg c2]
      by_cases e : 448 + k * 6 ≤ q ∧ q < 448 + k * 6 + 6
      · rw [if_pos e, if_pos (by omega), show (q - 448) % 6 = q - (448 + k * 6) by omega]
      · rw [if_neg e, if_neg (by omega)]
def zF (g : Grp) (k q : Nat) : Nat → Nat → Int := fun a b => if (a < k ∧ b ∈ cS g a) ∨ (a = k ∧ b ∈ (cS g a).take q) then 1 else 0
def zV (g : Grp) (k q : Nat) : Nat → Int := fun b => if b ∈ (cS g k).take q then 1 else 0
theorem take_mem {L : List Nat} {q b : Nat} (h : q < L.length) : b ∈ L.take (q + 1) ↔ b ∈ L.take q ∨ b = L.getD q 0 := by
  rw [List.take_add_one, List.mem_append, List.getD_eq_getElem?_getD, List.getElem?_eq_getElem h]
  simp
theorem zF_0 {g : Grp} : zF g 0 0 = fun _ _ => 0 := by
  funext a b
  unfold zF
  rw [if_neg]
  rintro (⟨h, _⟩ | ⟨_, h⟩)
  · omega
  · rw [List.take_zero] at h; cases h
theorem zF_s {g : Grp} {k q : Nat} (h : q < (cS g k).length) : updZ (zF g k q) k ((cS g k).getD q 0) 1 = zF g k (q + 1) := by
  funext a b
  unfold updZ zF
  by_cases e : a = k
  · subst e
    have := take_mem (b := b) h
    by_cases e2 : b = (cS g a).getD q 0
    · rw [if_pos ⟨rfl, e2⟩, if_pos (.inr ⟨rfl, this.2 (.inr e2)⟩)]
    · rw [if_neg (fun h => e2 h.2)]
      by_cases e3 : b ∈ (cS g a).take q
      · rw [if_pos (.inr ⟨rfl, e3⟩), if_pos (.inr ⟨rfl, this.2 (.inl e3)⟩)]
      · rw [if_neg, if_neg]
        · rintro (⟨h, _⟩ | ⟨_, h⟩)
          · omega
          · exact (this.1 h).elim e3 e2
        · rintro (⟨h, _⟩ | ⟨_, h⟩)
          · omega
          · exact e3 h
  · rw [if_neg (fun h => e h.1)]
    by_cases e2 : a < k ∧ b ∈ cS g a
    · rw [if_pos (.inl e2), if_pos (.inl e2)]
    · rw [if_neg (fun h => h.elim e2 fun h => e h.1), if_neg (fun h => h.elim e2 fun h => e h.1)]
theorem zF_r {g : Grp} {k : Nat} : zF g k (cS g k).length = zF g (k + 1) 0 := by
  funext a b
  unfold zF
  by_cases e : a < k + 1 ∧ b ∈ cS g a
  · rw [if_pos (c := (a < k + 1 ∧ b ∈ cS g a) ∨ _) (.inl e), if_pos]
    by_cases e2 : a = k
    · subst e2; exact .inr ⟨rfl, by rw [List.take_length]; exact e.2⟩
    · exact .inl ⟨by omega, e.2⟩
  · rw [if_neg (c := (a < k + 1 ∧ b ∈ cS g a) ∨ _), if_neg]
    · rintro (⟨h, h2⟩ | ⟨h, h2⟩)
      · exact e ⟨by omega, h2⟩
      · subst h; rw [List.take_length] at h2; exact e ⟨by omega, h2⟩
    · rintro (h | ⟨_, h⟩)
      · exact e h
      · rw [List.take_zero] at h; cases h
theorem zV_0 {g : Grp} {k : Nat} : zV g k 0 = fun _ => 0 := by
  funext b
  unfold zV
  rw [List.take_zero, if_neg (fun h => by cases h)]
theorem zV_s {g : Grp} {k q : Nat} (h : q < (cS g k).length) : upd (zV g k q) ((cS g k).getD q 0) 1 = zV g k (q + 1) := by
  funext b
  have := take_mem (b := b) h
  unfold upd zV
  by_cases e2 : b = (cS g k).getD q 0
  · rw [if_pos e2, if_pos (this.2 (.inr e2))]
  · rw [if_neg e2]
    by_cases e3 : b ∈ (cS g k).take q
    · rw [if_pos e3, if_pos (this.2 (.inl e3))]
    · rw [if_neg e3, if_neg (fun h => (this.1 h).elim e3 e2)]
theorem zF_row {g : Grp} {k : Nat} : rowZ (zF g k 0) k (zV g k (cS g k).length) = zF g (k + 1) 0 := by
  rw [← zF_r]
  funext a b
  unfold rowZ zV zF
  by_cases e : a = k
  · subst e
    rw [if_pos rfl]
    by_cases e3 : b ∈ (cS g a).take (cS g a).length
    · rw [if_pos e3, if_pos (.inr ⟨rfl, e3⟩)]
    · rw [if_neg e3, if_neg]
      rintro (⟨h, _⟩ | ⟨_, h⟩)
      · omega
      · exact e3 h
  · rw [if_neg e]
    by_cases e2 : a < k ∧ b ∈ cS g a
    · rw [if_pos (.inl e2), if_pos (.inl e2)]
    · rw [if_neg (fun h => h.elim e2 fun h => e h.1), if_neg (fun h => h.elim e2 fun h => e h.1)]
def gpF (p : Int) (g : Grp) (k q : Nat) : Pr := ⟨{ ctA p g with f := upd oneV 0 (invF p (g.n % p)) }, gaA p g, zF g k q⟩
def gpP (p : Int) (g : Grp) : Pr := gpF p g (clsS g).length 0
def gpX (x y : Bool) (p : Int) (g : Grp) : Pr := if x = true ∧ y = true ∧ g.n % p ≠ 0 then gpP p g else zPr
def gpC (x y : Bool) (p : Int) (g : Grp) : Int := if x then (if y then (if g.n % p = 0 then 5 else 0) else 2) else 1
def gpR (x y : Bool) (p : Int) (g : Grp) : Res := .tup [pairD (gpX x y p g), .int .i64 (gpC x y p g)]
def C_GroupPair (P : Program) (N : FN) : Prop := ∀ {g : Grp} {p : Int}, GrpB g → Can P N.impl_GroupPair [.int .i64 p, grpD g] (gpR (dB (GP g)) (decide (p ∈ primes)) p g)
def C_sl10Group (P : Program) (N : FN) : Prop := ∀ {g : Grp} {p : Int}, GrpB g → GP g → p ∈ primes → g.n % p ≠ 0 → Can P N.spec_l10Group [.int .i64 p, grpD g] (.val (pairD (gpP p g)))
def C_sGroupPair (P : Program) (N : FN) : Prop := ∀ {g : Grp} {p : Int}, GrpB g → Can P N.spec_GroupPair [.int .i64 p, grpD g] (gpR (dB (GP g)) (decide (p ∈ primes)) p g)
def C_eqPair (P : Program) (N : FN) : Prop := ∀ {x : Pr}, Can P N.laws_eqPair [pairD x, pairD x] (.val (.bool true))
def C_eqAlg (P : Program) (N : FN) : Prop := ∀ {a : Alg}, Can P N.laws_eqAlgebra [algD a, algD a] (.val (.bool true))
def C_eqSame (P : Program) (f : FuncId) (n : Nat) : Prop := ∀ {v : Nat → Int}, Can P f [.agg (cel .u8 n v), .agg (cel .u8 n v)] (.val (.bool true))
def C_toGroup (P : Program) (N : FN) : Prop := ∀ {g : Grp}, Can P N.laws_toGroup [grpD g] (.val (grpD g))
end Go.X
