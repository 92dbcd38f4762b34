import Derived.Test.YtckpoeaagbmlbaaGreatK8
import Derived.Test.YtckpoeaagbmlbaaGreatK12
import Derived.Test.YtckpoeaagbmlbaaGreatK5
import Derived.Lib.BytesEntry
set_option linter.all false
namespace Go.X
open Go Go.RowKit
def comC (x y : Bool) : Int := if x then if y then 0 else 5 else 1
def C_sCode5 (P : Program) (N : FN) : Prop := ∀ {a : Alg} {q : Nat} {s : Nat → Nat → Int}, SAlgIn a → q ≤ 1000 → (∀ i, Byts (s i)) → Can P N.spec_l05Code [algD a, vsD q s] (.val (.int .i64 (comC (dB (sAlgP a ∧ AllSm a q s)) (dB (sCommP a)))))
theorem ca_of {a : Alg} (hi : SAlgIn a) (h : sAlgP a) (hc : sCommP a) : CA a := ⟨hi.ok h.1, h.2.1, hc, h.2.2⟩
theorem flat_mv {L : List Row} : ∀ e ∈ L.map vecL, ∀ x ∈ e, Flat x := fun e he x hx => by
  obtain ⟨i, _, rfl⟩ := List.mem_map.1 he
  unfold vecL cel arr at hx
  obtain ⟨j, _, rfl⟩ := List.mem_map.1 hx
  exact .int _ _
end Go.X
namespace Go.X
open Go Go.RowKit
def isBcmp (P : Program) (f : FuncId) : Bool :=
  match P.funcs[f]? with
  | some fn => decide (fn.name = "internal/bytealg.Compare") && fn.body.isNone && (Extern.findNext fn).isNone
  | none => false
theorem find_bcmp {fn : Func} (h : fn.name = "internal/bytealg.Compare") : Extern.find fn = some Extern.BytealgCompare.compare := by
  have e1 : Extern.allGenericRows.lookup "internal/bytealg.Compare" = none := by kernel_rfl
  have e2 : Extern.allTypedRows.lookup "internal/bytealg.Compare" = none := by kernel_rfl
  have e3 : Extern.allRows.lookup "internal/bytealg.Compare" = some Extern.BytealgCompare.compare := by kernel_rfl
  unfold Extern.find
  simp only [h, e1, e2, e3]
  rfl
theorem bcmp_run {P : Program} {f : FuncId} (h : isBcmp P f = true) : There P f ∧ ∀ (args : Array Value) (w : World), (callFunc f args).run P w = ((Extern.BytealgCompare.compare args).run P w).andThen fun v w' => .ok (.value v) w' := by
  unfold isBcmp at h
  split at h
  · rename_i fn hf
    simp only [Bool.and_eq_true, decide_eq_true_eq] at h
    refine ⟨⟨fn, hf⟩, fun args w => run_callFunc_extern hf ?_ h.1.2 (by simpa using h.2) (find_bcmp h.1.1) args w⟩
    rw [h.1.1]; decide
  · cases h
def ints6 (v : Nat → Int) : List Int := arr 6 v
theorem load_bytL {P : Program} {W : World} {F : Nat → Prop} {v : Nat → Int} {x : Value} (h : Sees W F (.lst 1 (bytL v)) x) : (Extern.Bytes.bytesOf x).run P W = .ok ⟨(Lib.bytesOf (ints6 v)).toArray⟩ W := by
  obtain ⟨l, hl⟩ : ∃ l, l = bytL v := ⟨_, rfl⟩
  rw [← hl] at h
  cases h with
  | lnil => exact absurd (congrArg List.length hl) (by rw [show (bytL v).length = 6 from arr_len ..]; decide)
  | lst vals hF hb hcap hc hs =>
    rename_i k off cap c T fz
    subst hl
    have hlen : (bytL v).length = 6 := arr_len ..
    have hcell : ∀ j y, (ints6 v)[j]? = some y → W.cell? ((⟨k, off, none⟩ : Addr).add j) = some (.int .u8 y) := fun j y hy => by
      have hj : j < 6 := by
        have := (List.getElem?_eq_some_iff.1 hy).1
        rwa [show (ints6 v).length = 6 from arr_len ..] at this
      have e0 : (bytL v)[j]? = some [.int .u8 (v j)] := arr_get hj
      have ey : v j = y := by
        have : (ints6 v)[j]? = some (v j) := arr_get hj
        rw [this] at hy; simpa using hy
      obtain ⟨_, h2⟩ := hc j _ e0
      obtain ⟨h3, h4⟩ := h2 0 (by omega)
      have h5 := hs j _ 0 _ e0 rfl
      have e : vals j 0 = .int .u8 (v j) := by generalize vals j 0 = z at h5; cases h5; rfl
      rw [e, ey, Nat.mul_one, Nat.add_zero] at h3
      have ea : (⟨k, off, none⟩ : Addr).add j = ⟨k, off + j, none⟩ := by unfold Addr.add; split <;> simp_all
      rw [ea, cell_of_row W k _ c T fz hb]
      exact h3
    have := Lib.run_loadBytesX (P := P) W (ints6 v) ⟨k, off, none⟩ .empty hcell
    rw [show (ints6 v).length = (bytL v).length from by rw [hlen]; exact arr_len ..] at this
    simp only [Extern.Bytes.bytesOf]
    rw [this]
    congr 1
theorem u8_lt {x y : Int} (hx : 0 ≤ x ∧ x ≤ 255) (hy : 0 ≤ y ∧ y ≤ 255) : (UInt8.ofNat x.toNat < UInt8.ofNat y.toNat) ↔ x < y := by
  rw [UInt8.lt_iff_toNat_lt, UInt8.toNat_ofNat', UInt8.toNat_ofNat']
  omega
theorem cmp_from {v w : Nat → Int} (hv : Byts v) (hw : Byts w) : ∀ (k i : Nat), Lib.compareBytes (Lib.bytesOf ((List.range' i k).map v)) (Lib.bytesOf ((List.range' i k).map w)) = if ltN v w k i = true then -1 else if ltN w v k i = true then 1 else 0
  | 0, i => rfl
  | k + 1, i => by
    have ih := cmp_from hv hw k (i + 1)
    rw [List.range'_succ, List.map_cons, List.map_cons]
    unfold Lib.bytesOf at ih ⊢
    rw [List.map_cons, List.map_cons]
    unfold Lib.compareBytes
    have s1 : ltN v w (k + 1) i = if v i = w i then ltN v w k (i + 1) else decide (v i < w i) := rfl
    have s2 : ltN w v (k + 1) i = if w i = v i then ltN w v k (i + 1) else decide (w i < v i) := rfl
    have h1 := u8_lt (hv i) (hw i)
    have h2 := u8_lt (hw i) (hv i)
    rcases Int.lt_trichotomy (v i) (w i) with c | c | c
    · have t1 : ltN v w (k + 1) i = true := by rw [s1, if_neg (by omega), decide_eq_true c]
      rw [if_pos (h1.2 c), t1, if_pos rfl]
    · rw [if_neg (fun g => by have := h1.1 g; omega), if_neg (fun g => by have := h2.1 g; omega), s1, s2, if_pos c, if_pos c.symm]
      exact ih
    · have n1 : decide (v i < w i) = false := decide_eq_false (by omega)
      have t1 : ltN v w (k + 1) i = false := by rw [s1, if_neg (by omega), n1]
      have t2 : ltN w v (k + 1) i = true := by rw [s2, if_neg (by omega), decide_eq_true c]
      rw [if_neg (fun g => by have := h1.1 g; omega), if_pos (h2.2 c), t1, t2]
      rfl
theorem cmp_bytL {v w : Nat → Int} (hv : Byts v) (hw : Byts w) : Lib.compareBytes (Lib.bytesOf (ints6 v)) (Lib.bytesOf (ints6 w)) = cmpV v w := by
  have h := cmp_from hv hw 6 0
  have e : ∀ u : Nat → Int, (List.range' 0 6).map u = ints6 u := fun u => rfl
  rw [e, e] at h
  rw [h]
  show (if ltV v w = true then (-1 : Int) else if ltV w v = true then 1 else 0) = _
  unfold cmpV
  by_cases c : VEq v w
  · have h1 : ltV v w = false := by
      cases g : ltV v w with
      | false => rfl
      | true =>
        obtain ⟨q, _, h2, h3, _⟩ := ltV_iff.1 g
        have := c q (by omega); omega
    have h2 : ltV w v = false := by
      cases g : ltV w v with
      | false => rfl
      | true =>
        obtain ⟨q, _, h2, h3, _⟩ := ltV_iff.1 g
        have := c q (by omega); omega
    rw [if_pos c, h1, h2]; rfl
  · rw [if_neg c]
    cases g : ltV v w with
    | true => rfl
    | false => rw [ltV_tot g c]; rfl
section
variable {P : Program} {N : FN}
theorem c_bcmp (hf : isBcmp P N.internal_bytealg_Compare = true) : C_bcmp P N := by
  intro v w hv hw
  obtain ⟨h1, h2⟩ := bcmp_run hf
  refine CanD.can ⟨h1, fun W F vs hF hl hs => ?_⟩ rfl
  obtain ⟨x, y, rfl⟩ : ∃ x y, vs = #[x, y] := by
    obtain ⟨l⟩ := vs
    match l, hl with
    | [x, y], _ => exact ⟨x, y, rfl⟩
  have hx := load_bytL (P := P) (hs 0 _ x rfl rfl)
  have hy := load_bytL (P := P) (hs 1 _ y rfl rfl)
  have hrun : (Extern.BytealgCompare.compare #[x, y]).run P W = .ok (.int .i64 (cmpV v w)) W := by
    change Sem.run P (do pure (goInt (Extern.BytealgCompare.cmp (← Extern.Bytes.bytesOf x) (← Extern.Bytes.bytesOf y)))) W = _
    simp only [Sem.run_bind, hx, hy, Sem.run_pure, Result.andThen]
    rw [Lib.cmp_eq, ← cmp_bytL hv hw]
    rfl
  unfold Goes
  rw [h2, hrun]
  exact ⟨_, rfl, Below.refl .., F, fun _ h => .inl h, .int ..⟩
end
end Go.X
