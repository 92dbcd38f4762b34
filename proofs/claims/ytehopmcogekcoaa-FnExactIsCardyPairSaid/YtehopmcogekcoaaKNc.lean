import Derived.Test.YtehopmcogekcoaaM3
import Derived.Test.YtehopmcogekcoaaKBb
set_option linter.all false
namespace Go.X
open Go Go.RowKit
def uzI (p : Int) (B : Nat → Row) (c : Row) (acc : Nat → Int) (k : Nat) : Nat → Nat → Int
  | 0 => acc
  | i + 1 => if B k i = 0 then uzI p B c acc k i else addV p (B k i * c i % p) (uzI p B c acc k i) (basV k)
def uzR (p : Int) (B : Nat → Row) (c : Row) (n : Nat) : Nat → Nat → Int
  | 0 => Z
  | k + 1 => uzI p B c (uzR p B c n k) k n
def uzF (x : Pr) (w : Nat → Int) : Row := fun i => formV x.o (timesV x.o w (x.z i))
def iUnzip (x : Pr) (w : Nat → Int) : Nat → Int := uzR x.c.p (fun k => (iCop x.c).getD k Z) (uzF x w) x.c.n.toNat (iCop x.c).length
def uzS (p : Int) (T : Nat → Row) (c : Row) (acc : Nat → Int) (k : Nat) : Nat → Nat → Int
  | 0 => acc
  | l + 1 => addV p (c k * T k l) (uzS p T c acc k l) (basV l)
def uzT (p : Int) (T : Nat → Row) (c : Row) (n : Nat) : Nat → Nat → Int
  | 0 => Z
  | k + 1 => uzS p T c (uzT p T c n k) k n
def sUnzip (x : Pr) (w : Nat → Int) : Nat → Int := uzT x.c.p (sCop x.c) (uzF x w) x.c.n.toNat x.c.n.toNat
theorem Z_rw {p : Int} (hp : 1 ≤ p) : Rw p Z := fun j => by show (0 : Int) ≤ 0 ∧ (0 : Int) < p; omega
theorem uzI_rw {p : Int} {B : Nat → Row} {c : Row} {acc : Nat → Int} {k : Nat} (hp : 1 ≤ p) (h : Rw p acc) : ∀ i, Rw p (uzI p B c acc k i)
  | 0 => h
  | i + 1 => by
    unfold uzI; split
    · exact uzI_rw hp h i
    · exact addV_rw hp
theorem uzR_rw {p : Int} {B : Nat → Row} {c : Row} {n : Nat} (hp : 1 ≤ p) : ∀ k, Rw p (uzR p B c n k)
  | 0 => Z_rw hp
  | k + 1 => uzI_rw hp (uzR_rw hp k) n
theorem uzS_rw {p : Int} {B : Nat → Row} {c : Row} {acc : Nat → Int} {k : Nat} (hp : 1 ≤ p) (h : Rw p acc) : ∀ i, Rw p (uzS p B c acc k i)
  | 0 => h
  | _ + 1 => addV_rw hp
theorem uzT_rw {p : Int} {B : Nat → Row} {c : Row} {n : Nat} (hp : 1 ≤ p) : ∀ k, Rw p (uzT p B c n k)
  | 0 => Z_rw hp
  | k + 1 => uzS_rw hp (uzT_rw hp k) n
theorem uzF_bd {x : Pr} {w : Nat → Int} (ho : AlgOk x.o) (i : Nat) : 0 ≤ uzF x w i ∧ uzF x w i < x.o.p := mod_bd _ (by have := prime_bd ho.p; omega)
def C_unzip (P : Program) (N : FN) : Prop := ∀ {sz : Nat} {l : List (List D)} {e off : Nat} {x : Pr} {w : Nat → Int}, PairAt l e off x → AlgOk x.c → AlgOk x.o → (∀ i, Byts (x.z i)) → Byts w → Can P N.impl_Pair_unzip [.pd sz l e off, vecD w] (.val (vecD (iUnzip x w)))
def C_UnzipVector (P : Program) (N : FN) : Prop := ∀ {x : Pr} {w : Nat → Int}, PrIn x → Byts w → Can P N.impl_UnzipVector [pairD x, vecD w] (if dB (IsPairP x ∧ Small w x.o.n x.o.p) = true then .tup [vecD (iUnzip x w), .int .i64 0] else .tup [vecD Z, .int .i64 1])
def C_sUnzip (P : Program) (N : FN) : Prop := ∀ {x : Pr} {w : Nat → Int}, AlgOk x.c → AlgOk x.o → (∀ j, j < x.c.n.toNat → (sCol x.c j).isSome = true) → (∀ i, Byts (x.z i)) → Byts w → Can P N.spec_l10Unzip [pairD x, vecD w] (.val (vecD (sUnzip x w)))
def C_sUnzipVector (P : Program) (N : FN) : Prop := ∀ {x : Pr} {w : Nat → Int}, SPrIn x → (sIsP x → ∀ j, j < x.c.n.toNat → (sCol x.c j).isSome = true) → Byts w → Can P N.spec_UnzipVector [pairD x, vecD w] (if dB (sIsP x ∧ Small w x.o.n x.o.p) = true then .tup [vecD (sUnzip x w), .int .i64 0] else .tup [vecD Z, .int .i64 1])
theorem splice_whole {l m : List D} (h : m.length = l.length) : splice l 0 m = m := by
  unfold splice
  rw [List.take_zero, List.nil_append, h, Nat.zero_add, List.drop_length, List.append_nil]
theorem algAt_st {a : Alg} : AlgAt ([algZ].set 0 (splice algZ 0 (algL a))) 0 0 a := by
  rw [List.set_cons_zero, splice_whole (by rw [algZ_len]; exact arr_len ..)]
  exact algAt_one a
theorem can_sub {P : Program} {f : FuncId} {as bs : List D} {r : Res} (h : Can P f as r) (hr : r.isPost = false) (hl : bs.length = as.length) (hs : ∀ (i : Nat) (a b : D), as[i]? = some a → bs[i]? = some b → ∀ W F v, Sees W F b v → Sees W F a v) : Can P f bs r := by
  obtain ⟨hp, hc⟩ := h.toD hr
  refine CanD.can ⟨hp, fun w F vs hF hv hsee => hc w F vs hF (by omega) fun i x v hx hv' => ?_⟩ hr
  have hi : i < bs.length := by
    have := (List.getElem?_eq_some_iff.1 hx).1; omega
  exact hs i x _ hx (List.getElem?_eq_getElem hi) w F v (hsee i _ v (List.getElem?_eq_getElem hi) hv')
theorem emp_lst {W : World} {F : Nat → Prop} {v : Value} {sz : Nat} (h : Sees W F .emp v) : Sees W F (.lst sz []) v := by
  cases h; exact .lnil _ _ _
theorem can_emp0 {P : Program} {f : FuncId} {a : D} {sz : Nat} {r : Res} (h : Can P f [.lst sz [], a] r) (hr : r.isPost = false) : Can P f [.emp, a] r :=
  can_sub h hr rfl fun i x y hx hy W F v hv => by
    match i, hx, hy with
    | 0, hx, hy => simp at hx hy; subst hx hy; exact emp_lst hv
    | 1, hx, hy => simp at hx hy; subst hx hy; exact hv
    | i + 2, hx, hy => simp at hx
def C_openedE (P : Program) (N : FN) : Prop := ∀ {x : Pr}, PrIn x → Can P N.impl_opened [pairD x, .emp] (.val (.int .i64 (if dB (IsPairP x) = true then 0 else 1)))
def iCardyP (x : Pr) : Prop := ∀ i, i < x.o.n.toNat → VEq (zipN x.o.p x.z (iUnzip x (basV i)) 6) (iSand x (basV i))
def sCardyP (x : Pr) : Prop := ∀ i, i < x.o.n.toNat → VEq (zipN x.o.p x.z (sUnzip x (basV i)) x.c.n.toNat) (sSand x (basV i))
def C_IsCardyPair (P : Program) (N : FN) : Prop := ∀ {x : Pr}, PrIn x → Can P N.impl_IsCardyPair [pairD x] (.tup [.bool (dB (IsPairP x ∧ iCardyP x)), .int .i64 (if dB (IsPairP x) = true then 0 else 1)])
def C_sIsCardyPair (P : Program) (N : FN) : Prop := ∀ {x : Pr}, SPrIn x → (sIsP x → (∀ j, j < x.c.n.toNat → (sCol x.c j).isSome = true) ∧ ∀ j, j < x.o.n.toNat → (sCol x.o j).isSome = true) → Can P N.spec_IsCardyPair [pairD x] (.tup [.bool (dB (sIsP x ∧ sCardyP x)), .int .i64 (if dB (sIsP x) = true then 0 else 1)])
theorem rd_st6 {v : Nat → Int} : sub2 (([[.int .u8 0, .int .u8 0, .int .u8 0, .int .u8 0, .int .u8 0, .int .u8 0]] : List (List D)).set 0 (splice [.int .u8 0, .int .u8 0, .int .u8 0, .int .u8 0, .int .u8 0, .int .u8 0] 0 (vecL v))) 0 0 6 = some (vecL v) := rd_stall rfl
end Go.X
