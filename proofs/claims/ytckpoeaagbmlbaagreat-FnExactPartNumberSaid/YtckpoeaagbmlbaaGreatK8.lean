import Derived.Test.YtckpoeaagbmlbaaGreatK7
import Derived.Test.YtckpoeaagbmlbaaGreatK6
import Derived.Test.YtckpoeaagbmlbaaGreatK4
set_option linter.all false
namespace Go.X
open Go Go.RowKit
def FN.spec_l05Code (N : FN) : FuncId := N.f 173
def ir_spec_l05Code (N : FN) : CF := ⟨2, 15, [(.tmp 4)], (.seq (.reg false [3] [(rO 2 (.box (.t 0))), (rO 4 (.mov (.c (.int .i64 0))))]) (.seq (.seq (.reg false [9] [(rO 6 (.load (some 224) (.t 2))), (rO 7 (.mov (.t 1))), (rO 8 (.call N.spec_l01Code [(.t 6), (.t 7)])), (rO 5 (.mov (.t 8)))]) (.seq (.reg false [] [(rO 9 (.mov (.t 5))), (rO 10 (.cmp .neq (.t 9) (.c (.int .i64 0))))]) (.cond (.t 10) (.seq (.reg false [] [(rO 11 (.mov (.t 5))), (rO 4 (.mov (.t 11)))]) .ret) .skip))) (.seq (.seq (.reg false [14] [(rO 12 (.load (some 224) (.t 2))), (rO 13 (.call N.spec_l01Commutative [(.t 12)])), (rO 14 (.not (.t 13)))]) (.cond (.t 14) (.seq (.reg false [] [(rO 4 (.mov (.c (.int .i64 5))))]) .ret) .skip)) (.seq (.reg false [] [(rO 4 (.mov (.c (.int .i64 0))))]) .ret))))⟩
end Go.X
namespace Go.X
open Go Go.RowKit
def C_sPower5 (P : Program) (N : FN) : Prop := ∀ {a : Alg} {v : Nat → Int} {k : Nat}, AlgOk a → Byts v → k ≤ 1000 → Can P N.spec_l05Power [algD a, vecD v, .int .i64 k] (.val (vecD (foldV a (sUnit a) v k)))
def frobI (a : Alg) (v : Nat → Int) : Nat → Nat → Int
  | 0 => v
  | t + 1 => foldV a (iUnit a) (frobI a v t) a.p.toNat
def C_frobPow (P : Program) (N : FN) : Prop := ∀ {sz : Nat} {l : List (List D)} {e off : Nat} {a : Alg} {v : Nat → Int} {t : Nat}, AlgAt l e off a → AlgOk a → Byts v → t ≤ 100 → Can P N.impl_Algebra_frobeniusPower [.pd sz l e off, vecD v, .int .i64 t] (.val (vecD (frobI a v t)))
end Go.X
namespace Go.X
open Go Go.RowKit
section
variable {a : Alg}
def trc (k : Nat) (b : Nat → Int) : Nat → Int := fun i => if i < k then b i else 0
theorem in_trc (h : CA a) {b : Nat → Int} (hb : InA a b) (k : Nat) : InA a (trc k b) := ⟨fun i => by
  have := h.p1
  unfold trc; split
  · exact hb.1 i
  · omega, fun i hi => by unfold trc; rw [hb.2 i hi]; split <;> rfl⟩
theorem trc_succ (h : CA a) {b : Nat → Int} (hb : InA a b) (k : Nat) : trc (k + 1) b = vadd a.p (trc k b) (vsc a.p (b k) (basV k)) := funext fun i => by
  show (if i < k + 1 then b i else 0) = ((if i < k then b i else 0) + b k * (if i = k then 1 else 0) % a.p) % a.p
  by_cases c : i = k
  · subst c
    rw [if_pos (Nat.lt_succ_self _), if_neg (Nat.lt_irrefl _), if_pos rfl, Int.mul_one, Int.zero_add, cg_mod, rw_mod hb.1]
  · rw [if_neg c, Int.mul_zero, Int.zero_emod, Int.add_zero]
    by_cases g : i < k
    · rw [if_pos (by omega), if_pos g, rw_mod hb.1]
    · rw [if_neg (by omega), if_neg g, Int.zero_emod]
theorem trc_all {b : Nat → Int} (hb : InA a b) : trc a.n.toNat b = b := funext fun i => by
  unfold trc
  by_cases c : i < a.n.toNat
  · rw [if_pos c]
  · rw [if_neg c, hb.2 i (by omega)]
structure AddM (a : Alg) (F : (Nat → Int) → Nat → Int) : Prop where
  add : ∀ x y, InA a x → InA a y → F (vadd a.p x y) = vadd a.p (F x) (F y)
  sc : ∀ c x, InA a x → F (vsc a.p c x) = vsc a.p c (F x)
  zero : F Z = Z
theorem AddM.lin {F : (Nat → Int) → Nat → Int} (h : CA a) (hF : AddM a F) {b : Nat → Int} (hb : InA a b) (q : Nat) : F b q % a.p = sumN a.n.toNat (fun j => b j * F (basV j) q) % a.p := by
  have key : ∀ k, k ≤ a.n.toNat → F (trc k b) q % a.p = sumN k (fun j => b j * F (basV j) q) % a.p := by
    intro k
    induction k with
    | zero =>
      intro _
      have e : trc 0 b = Z := funext fun i => by unfold trc Z; rw [if_neg (by omega)]
      rw [e, hF.zero]; rfl
    | succ k ih =>
      intro hk
      rw [trc_succ h hb, hF.add _ _ (in_trc h hb k) (in_sc h (in_bas h (by omega))), hF.sc _ _ (in_bas h (by omega))]
      show (F (trc k b) q + b k * F (basV k) q % a.p) % a.p % a.p = _
      rw [cg_mod, cg_add (ih (by omega)) (cg_mod a.p _)]; rfl
  rw [← key _ (Nat.le_refl _), trc_all hb]
theorem AddM.comp {F G : (Nat → Int) → Nat → Int} (hF : AddM a F) (hG : AddM a G) (hi : ∀ x, InA a x → InA a (G x)) : AddM a fun x => F (G x) :=
  ⟨fun x y hx hy => by rw [hG.add x y hx hy, hF.add _ _ (hi x hx) (hi y hy)], fun c x hx => by rw [hG.sc c x hx, hF.sc c _ (hi x hx)], by rw [hG.zero, hF.zero]⟩
theorem frob_addM (h : CA a) : AddM a fun x => pw a x a.p.toNat := ⟨fun x y hx hy => frob_add h hx hy, fun c x _ => frob_sc h c, by
  obtain ⟨k, hk⟩ : ∃ k, a.p.toNat = k + 1 := ⟨a.p.toNat - 1, by have := h.p2; omega⟩
  show pw a Z a.p.toNat = Z
  rw [hk, pw_Z h]⟩
theorem pw_frob (h : CA a) {v : Nat → Int} (s : Nat) : pw a v (a.p.toNat ^ (s + 1)) = pw a (pw a v (a.p.toNat ^ s)) a.p.toNat := by rw [Nat.pow_succ, pw_mul h]
theorem frobs_addM (h : CA a) : ∀ s, AddM a fun x => pw a x (a.p.toNat ^ s)
  | 0 => ⟨fun x y hx hy => by show pw a _ 1 = vadd _ (pw a x 1) (pw a y 1); rw [pw_one h hx, pw_one h hy, pw_one h (in_add h hx hy)],
      fun c x hx => by show pw a _ 1 = vsc _ _ (pw a x 1); rw [pw_one h hx, pw_one h (in_sc h hx)], pw_one h (in_Z h)⟩
  | s + 1 => by
    have := (frob_addM h).comp (frobs_addM h s) (fun x _ => in_pw h x _)
    have e : (fun x => pw a x (a.p.toNat ^ (s + 1))) = fun x => (fun x => pw a x a.p.toNat) ((fun x => pw a x (a.p.toNat ^ s)) x) := funext fun x => pw_frob h s
    rw [e]; exact this
def ev1 (a : Alg) (b : Nat → Int) : List Int → Nat → Int
  | [] => Z
  | c :: l => vadd a.p (vsc a.p c (sUnit a)) (timesV a b (ev1 a b l))
theorem ev1_in (h : CA a) (b : Nat → Int) : ∀ l, InA a (ev1 a b l)
  | [] => in_Z h
  | _ :: _ => in_add h (in_sc h (in_one h)) (in_mul h _ _)
def addP : List Int → List Int → List Int
  | [], m => m
  | l, [] => l
  | c :: l, d :: m => (c + d) :: addP l m
theorem ev1_add (h : CA a) {b : Nat → Int} : ∀ l m, vadd a.p (ev1 a b l) (ev1 a b m) = ev1 a b (addP l m)
  | [], m => by rw [show addP [] m = m by cases m <;> rfl]; exact Z_vadd (ev1_in h b m).1
  | c :: l, [] => vadd_Z (ev1_in h b (c :: l)).1
  | c :: l, d :: m => by
    show vadd a.p (vadd a.p (vsc a.p c _) (timesV a b (ev1 a b l))) (vadd a.p (vsc a.p d _) (timesV a b (ev1 a b m))) = vadd a.p (vsc a.p (c + d) _) (timesV a b (ev1 a b (addP l m)))
    rw [vadd_vadd, vsc_add, ← mul_add' h, ev1_add h l m]
theorem ev1_sc (h : CA a) {b : Nat → Int} (c : Int) : ∀ l, vsc a.p c (ev1 a b l) = ev1 a b (l.map (c * ·))
  | [] => vsc_Z
  | d :: l => by
    show vsc a.p c (vadd a.p (vsc a.p d _) (timesV a b (ev1 a b l))) = vadd a.p (vsc a.p (c * d) _) (timesV a b (ev1 a b (l.map (c * ·))))
    rw [vsc_vadd, vsc_vsc, ← mul_sc' h, ev1_sc h c l]
theorem ev1_mod {b : Nat → Int} : ∀ l, ev1 a b (l.map (· % a.p)) = ev1 a b l
  | [] => rfl
  | c :: l => by
    show vadd a.p (vsc a.p (c % a.p) _) (timesV a b (ev1 a b (l.map (· % a.p)))) = vadd a.p (vsc a.p c _) (timesV a b (ev1 a b l))
    rw [vsc_mod, ev1_mod l]
def linP (p d : Int) (l : List Int) : List Int := (addP (0 :: l) (l.map (-d * ·))).map (· % p)
theorem ev1_lin (h : CA a) {b : Nat → Int} (d : Int) (l : List Int) : timesV a (vadd a.p b (vsc a.p (-d) (sUnit a))) (ev1 a b l) = ev1 a b (linP a.p d l) := by
  unfold linP
  rw [ev1_mod, ← ev1_add h, add_mul' h, sc_mul' h, one_mul' h (ev1_in h b l), ev1_sc h]
  congr 1
  show _ = vadd a.p (vsc a.p 0 _) (timesV a b (ev1 a b l))
  rw [vsc_0, Z_vadd (times_rw h.p1 _ _)]
def prodS (p : Int) (c : Nat) : Nat → List Int
  | 0 => [1]
  | d + 1 => if d = c then prodS p c d else linP p d (prodS p c d)
def fullL (p : Int) : List Int := 0 :: (p - 1) :: (List.replicate (p.toNat - 2) 0 ++ [1])
theorem prod_full : ∀ p ∈ primes, ∀ c ∈ List.range 13, (c : Int) < p → linP p c (prodS p c p.toNat) = fullL p := by decide +kernel
def valL (x : Int) : List Int → Int
  | [] => 0
  | c :: l => c + x * valL x l
def invK (p : Int) (c : Nat) : Nat → Int
  | 0 => 1
  | d + 1 => if d = c then invK p c d else invF p ((c : Int) - d) * invK p c d
theorem inv_val : ∀ p ∈ primes, ∀ c ∈ List.range 13, (c : Int) < p → invK p c p.toNat * valL c (prodS p c p.toNat) % p = 1 := by decide +kernel
theorem ev1_cons {b : Nat → Int} {c : Int} {l : List Int} : ev1 a b (c :: l) = vadd a.p (vsc a.p c (sUnit a)) (timesV a b (ev1 a b l)) := rfl
theorem ev1_nil {b : Nat → Int} : ev1 a b [] = Z := rfl
theorem ev1_top (h : CA a) {b : Nat → Int} : ∀ k, ev1 a b (List.replicate k 0 ++ [1]) = pw a b k
  | 0 => by
    rw [List.replicate_zero, List.nil_append, ev1_cons, ev1_nil, mul_Z h, vadd_Z (vsc_rw h.p1), vsc_1 (in_one h).1]; rfl
  | k + 1 => by
    have e := pw_succ' h b k
    rw [List.replicate_succ, List.cons_append, ev1_cons, vsc_0, Z_vadd (times_rw h.p1 _ _), ev1_top h k, e]
theorem ev1_full (h : CA a) {b : Nat → Int} (hb : InA a b) (hf : pw a b a.p.toNat = b) : ev1 a b (fullL a.p) = Z := by
  have hp := h.p2
  unfold fullL
  rw [ev1_cons, ev1_cons, vsc_0, Z_vadd (times_rw h.p1 _ _), ev1_top h, mul_add' h, mul_sc' h, mul_one' h hb, ← pw_succ' h, ← pw_succ' h, show a.p.toNat - 2 + 1 + 1 = a.p.toNat by omega, hf]
  have e : vadd a.p (vsc a.p (a.p - 1) b) b = vadd a.p (vsc a.p (a.p - 1) b) (vsc a.p 1 b) := by rw [vsc_1 hb.1]
  rw [e, vsc_add, show a.p - 1 + 1 = a.p by omega, vsc_cg (show a.p % a.p = 0 % a.p by simp), vsc_0]
theorem ev1_val (h : CA a) {b f : Nat → Int} {c : Int} (hfi : InA a f) (hf : timesV a b f = vsc a.p c f) : ∀ l, timesV a (ev1 a b l) f = vsc a.p (valL c l) f
  | [] => by show timesV a Z f = vsc a.p 0 f; rw [Z_mul h, vsc_0]
  | d :: l => by
    show timesV a (vadd a.p (vsc a.p d _) (timesV a b (ev1 a b l))) f = vsc a.p (d + c * valL c l) f
    rw [add_mul' h, sc_mul' h, one_mul' h hfi, mul_assoc' h, ev1_val h hfi hf l, mul_sc' h, hf, vsc_vsc, vsc_add, Int.mul_comm c]
def shI (a : Alg) (b e : Nat → Int) (c : Nat) : Nat → Nat → Int
  | 0 => e
  | d + 1 => if d = c then shI a b e c d else addV a.p (invF a.p (((c : Int) - d) % a.p)) Z (timesV a (shI a b e c d) (addV a.p (a.p - d) b (sUnit a)))
def shS (a : Alg) (b e : Nat → Int) (c : Nat) : Nat → Nat → Int
  | 0 => e
  | d + 1 => if d = c then shS a b e c d else timesV a (shS a b e c d) (addV a.p (invF a.p ((c : Int) - d)) Z (addV a.p (-(d : Int)) b (sUnit a)))
theorem addV_eq (p k : Int) (v w : Nat → Int) (hv : Rw p v) : addV p k v w = vadd p v (vsc p k w) := funext fun i => by
  show (v i + k * w i) % p = (v i + k * w i % p) % p
  exact (cg_add (c := k * w i % p) rfl (cg_mod p _)).symm
theorem addV_Z (p k : Int) (w : Nat → Int) : addV p k Z w = vsc p k w := funext fun i => by
  show ((0 : Int) + k * w i) % p = k * w i % p
  rw [Int.zero_add]
theorem invF_mod (p x : Int) : invF p (x % p) = invF p x := by unfold invF; rw [cg_mod]
theorem shI_eq (h : CA a) {b e : Nat → Int} (hb : InA a b) (he : InA a e) (c : Nat) : ∀ d, shI a b e c d = vsc a.p (invK a.p c d) (timesV a e (ev1 a b (prodS a.p c d)))
  | 0 => by
    show e = vsc a.p 1 (timesV a e (vadd a.p (vsc a.p 1 (sUnit a)) (timesV a b Z)))
    rw [mul_Z h, vadd_Z (vsc_rw h.p1), vsc_1 (in_one h).1, mul_one' h he, vsc_1 he.1]
  | d + 1 => by
    unfold shI invK prodS
    by_cases g : d = c
    · rw [if_pos g, if_pos g, if_pos g, shI_eq h hb he c d]
    · rw [if_neg g, if_neg g, if_neg g, shI_eq h hb he c d, addV_Z, addV_eq _ _ _ _ hb.1, invF_mod, vsc_cg (c := a.p - d) (d := -(d : Int)) (by rw [show a.p - (d : Int) = -(d : Int) + a.p by omega, Int.add_emod_right])]
      rw [sc_mul' h, mul_assoc' h, mul_comm' h (ev1 a b _), ev1_lin h, vsc_vsc]
theorem shS_eq (h : CA a) {b e : Nat → Int} (hb : InA a b) (he : InA a e) (c : Nat) : ∀ d, shS a b e c d = vsc a.p (invK a.p c d) (timesV a e (ev1 a b (prodS a.p c d)))
  | 0 => shI_eq h hb he c 0
  | d + 1 => by
    unfold shS invK prodS
    by_cases g : d = c
    · rw [if_pos g, if_pos g, if_pos g, shS_eq h hb he c d]
    · rw [if_neg g, if_neg g, if_neg g, shS_eq h hb he c d, addV_Z, addV_eq _ _ _ _ hb.1]
      rw [mul_sc' h, sc_mul' h, mul_assoc' h, mul_comm' h (ev1 a b _), ev1_lin h, vsc_vsc]
theorem sh_same (h : CA a) {b e : Nat → Int} (hb : InA a b) (he : InA a e) (c d : Nat) : shI a b e c d = shS a b e c d := by rw [shI_eq h hb he, shS_eq h hb he]
def share (a : Alg) (b e : Nat → Int) (c : Nat) : Nat → Int := shI a b e c a.p.toNat
theorem share_in (h : CA a) {b e : Nat → Int} (hb : InA a b) (he : InA a e) (c : Nat) : InA a (share a b e c) := by
  unfold share; rw [shI_eq h hb he]; exact in_sc h (in_mul h _ _)
theorem share_num (h : CA a) {b e : Nat → Int} (hb : InA a b) (he : InA a e) (hf : pw a b a.p.toNat = b) {c : Nat} (hc : (c : Int) < a.p) : timesV a b (share a b e c) = vsc a.p c (share a b e c) := by
  have hp13 := (prime_bd h.ok.p).2
  have h0 : timesV a (vadd a.p b (vsc a.p (-(c : Int)) (sUnit a))) (share a b e c) = Z := by
    unfold share
    rw [shI_eq h hb he, mul_sc' h, mul_left_comm' h, ev1_lin h, prod_full _ h.ok.p c (by simp; omega) hc, ev1_full h hb hf, mul_Z h, vsc_Z]
  rw [add_mul' h, sc_mul' h, one_mul' h (share_in h hb he c)] at h0
  have h1 : vadd a.p (vadd a.p (timesV a b (share a b e c)) (vsc a.p (-(c : Int)) (share a b e c))) (vsc a.p c (share a b e c)) = vadd a.p Z (vsc a.p c (share a b e c)) := by rw [h0]
  rw [vadd_assoc, vsc_add, Int.add_left_neg, vsc_0, vadd_Z (times_rw h.p1 _ _), Z_vadd (vsc_rw h.p1)] at h1
  exact h1
structure Orth (a : Alg) (E : List (Nat → Int)) : Prop where
  inn : ∀ e ∈ E, InA a e
  idem : ∀ e ∈ E, timesV a e e = e
  nz : ∀ e ∈ E, ∃ i, e i ≠ 0
  pair : E.Pairwise fun e f => timesV a e f = Z
theorem share_e (h : CA a) {b e : Nat → Int} (hb : InA a b) (he : InA a e) (hi : timesV a e e = e) (c : Nat) : timesV a e (share a b e c) = share a b e c := by
  unfold share
  rw [shI_eq h hb he, mul_sc' h, ← mul_assoc' h, hi]
theorem share_idem (h : CA a) {b e : Nat → Int} (hb : InA a b) (he : InA a e) (hi : timesV a e e = e) (hf : pw a b a.p.toNat = b) {c : Nat} (hc : (c : Int) < a.p) : timesV a (share a b e c) (share a b e c) = share a b e c := by
  have hp13 := (prime_bd h.ok.p).2
  have hn := share_num h hb he hf hc
  have h1 := ev1_val h (share_in h hb he c) hn (prodS a.p c a.p.toNat)
  have h2 : timesV a (vsc a.p (invK a.p c a.p.toNat) (timesV a e (ev1 a b (prodS a.p c a.p.toNat)))) (share a b e c) = share a b e c := by
    rw [sc_mul' h, mul_assoc' h, h1, mul_sc' h, vsc_vsc, share_e h hb he hi]
    rw [vsc_cg (d := 1) (by rw [inv_val _ h.ok.p c (by simp; omega) hc]; have := h.p2; rw [Int.emod_eq_of_lt (by omega) (by omega)]), vsc_1 (share_in h hb he c).1]
  have e1 : vsc a.p (invK a.p c a.p.toNat) (timesV a e (ev1 a b (prodS a.p c a.p.toNat))) = share a b e c := (shI_eq h hb he c _).symm
  rwa [e1] at h2
theorem num_zero {p k : Int} (hp : p ∈ primes) {v : Nat → Int} (hv : Rw p v) (hk : k % p ≠ 0) (h : vsc p k v = Z) : v = Z := by
  have hp2 := prime_bd hp
  have hb := mod_bd k (p := p) (by omega)
  have e : vsc p (invF p (k % p)) (vsc p k v) = Z := by rw [h, vsc_Z]
  rw [vsc_vsc] at e
  have i1 := inv_mul hp (x := k % p) ⟨by omega, hb.2⟩
  rw [vsc_cg (d := 1) (by
    rw [cg_mul (a := invF p (k % p)) (b := invF p (k % p)) (c := k) (d := k % p) rfl (cg_mod p k).symm, i1.1, Int.emod_eq_of_lt (by omega) (by omega)]), vsc_1 hv] at e
  exact e
theorem share_orth (h : CA a) {b e : Nat → Int} (hb : InA a b) (he : InA a e) (hf : pw a b a.p.toNat = b) {c d : Nat} (hc : (c : Int) < a.p) (hd : (d : Int) < a.p) (hcd : c ≠ d) : timesV a (share a b e c) (share a b e d) = Z := by
  have h1 := share_num h hb he hf hc
  have h2 := share_num h hb he hf hd
  have e1 : timesV a b (timesV a (share a b e c) (share a b e d)) = vsc a.p c (timesV a (share a b e c) (share a b e d)) := by rw [← mul_assoc' h, h1, sc_mul' h]
  have e2 : timesV a b (timesV a (share a b e c) (share a b e d)) = vsc a.p d (timesV a (share a b e c) (share a b e d)) := by rw [mul_left_comm' h, h2, mul_sc' h]
  have e3 : vsc a.p ((c : Int) - d) (timesV a (share a b e c) (share a b e d)) = Z := by
    have : vadd a.p (vsc a.p c (timesV a (share a b e c) (share a b e d))) (vsc a.p (-(d : Int)) (timesV a (share a b e c) (share a b e d))) = vadd a.p (vsc a.p d (timesV a (share a b e c) (share a b e d))) (vsc a.p (-(d : Int)) (timesV a (share a b e c) (share a b e d))) := by rw [← e1, e2]
    rw [vsc_add, vsc_add, Int.add_right_neg, vsc_0] at this
    exact this
  refine num_zero h.ok.p (times_rw h.p1 _ _) (fun hz => ?_) e3
  have := (Int.emod_eq_emod_iff_emod_sub_eq_zero (m := (c : Int)) (n := a.p) (k := (d : Int))).2 hz
  rw [Int.emod_eq_of_lt (by omega) hc, Int.emod_eq_of_lt (by omega) hd] at this
  omega
end
end Go.X
namespace Go.X
open Go Go.RowKit
theorem vcs_app {L : List (Nat → Int)} {v : Nat → Int} : L.map vecL ++ [vecL v] = (L ++ [v]).map vecL := by simp
end Go.X
