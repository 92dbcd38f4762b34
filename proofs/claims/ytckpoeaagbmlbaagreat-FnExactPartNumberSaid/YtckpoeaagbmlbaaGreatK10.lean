import Derived.Test.YtckpoeaagbmlbaaGreatK7
import Derived.Test.YtckpoeaagbmlbaaGreatK8
import Derived.Test.YtckpoeaagbmlbaaGreatK9
set_option linter.all false
namespace Go.X
open Go Go.RowKit
theorem free_mem {p : Int} {K : List Row} {ld : Nat → Nat} : ∀ c, ∀ r ∈ freeL p K ld c, ∃ j, j < c ∧ (∀ i, i < K.length → ld i ≠ j) ∧ r = kv p K ld j
  | 0, r, hr => by cases hr
  | c + 1, r, hr => by
    unfold freeL at hr
    split at hr
    · obtain ⟨j, h1, h2, h3⟩ := free_mem c r hr
      exact ⟨j, by omega, h2, h3⟩
    · rename_i hb
      rcases List.mem_append.1 hr with g | g
      · obtain ⟨j, h1, h2, h3⟩ := free_mem c r g
        exact ⟨j, by omega, h2, h3⟩
      · rw [List.mem_singleton.1 g]
        exact ⟨c, by omega, isLd_f (by simpa using hb), kvQ_eq⟩
theorem sKer_ker {p : Int} {n : Nat} {L : List Row} (hp : p ∈ primes) (hL : RwL p L) : ∀ r ∈ sKerF p n L, Ker p n L r := by
  obtain ⟨ld0, rr0⟩ := echF_rr (m := n) hp hL
  have hk : ∀ z, Ker p n (echF p n L) z → Ker p n L z := fun z => (echF_ker hp hL).1
  unfold sKerF
  generalize echF p n L = K at *
  obtain ⟨rr, hld⟩ := ldK_rr rr0
  generalize ldK n K = ld at *
  intro r hr e he
  have hf : Ker p n (freeL p K ld n) e := fun f hf => by
    obtain ⟨j, h1, h2, rfl⟩ := free_mem n f hf
    rw [dot_comm]
    exact hk _ (kv_ker rr h1 h2) e he
  rw [dot_comm]
  exact (echF_ker hp (free_rw (prime_bd hp).1 n)).2 hf r hr
theorem sKer_rr {p : Int} {n : Nat} {L : List Row} (hp : p ∈ primes) : ∃ ld, RR p n (sKerF p n L) ld := echF_rr hp (free_rw (prime_bd hp).1 n)
def mapL (n : Nat) (F : (Nat → Int) → Nat → Int) : List Row := arr n fun i j => F (basV j) i
def spaceL (p : Int) (n : Nat) (F : (Nat → Int) → Nat → Int) : List Row := (sKerF p n (mapL n F)).map (vecR n)
theorem vecs_same {n : Nat} {K M : List Row} (h : rowsL n K = rowsL n M) : K.map (vecR n) = M.map (vecR n) := by
  obtain ⟨hl, hc⟩ := rowsL_inj h
  refine List.ext_getElem? fun i => ?_
  rw [List.getElem?_map, List.getElem?_map]
  by_cases hi : i < K.length
  · have e1 : K[i]? = some (K.getD i Z) := by rw [List.getD_eq_getElem?_getD, List.getElem?_eq_getElem hi]; rfl
    have e2 : M[i]? = some (M.getD i Z) := by rw [List.getD_eq_getElem?_getD, List.getElem?_eq_getElem (by omega)]; rfl
    rw [e1, e2]
    refine congrArg some (funext fun c => ?_)
    show (if c < n then K.getD i Z c else 0) = if c < n then M.getD i Z c else 0
    by_cases g : c < n
    · rw [if_pos g, if_pos g, hc i hi c g]
    · rw [if_neg g, if_neg g]
  · rw [List.getElem?_eq_none (by omega), List.getElem?_eq_none (by omega)]
theorem space_imp {p : Int} {n : Nat} {L : List Row} (hp : p ∈ primes) (hL : RwL p L) : (iKerF p n L).map (vecR n) = (sKerF p n L).map (vecR n) := vecs_same (ker_same hp hL)
section
variable {a : Alg}
theorem space_mem (h : CA a) {F : (Nat → Int) → Nat → Int} (hF : AddM a F) (hi : ∀ x, InA a x → InA a (F x)) (hw : RwL a.p (mapL a.n.toNat F)) : ∀ b ∈ spaceL a.p a.n.toNat F, InA a b ∧ F b = Z := by
  intro b hb
  obtain ⟨r, hr, rfl⟩ := List.mem_map.1 hb
  obtain ⟨ld, rr⟩ := sKer_rr (n := a.n.toNat) (L := mapL a.n.toNat F) h.ok.p
  have hrw := rr.rw r hr
  have hp := h.p1
  have hin : InA a (vecR a.n.toNat r) := ⟨fun i => by
    unfold vecR; split
    · exact hrw i
    · omega, fun i hi => by unfold vecR; rw [if_neg (by omega)]⟩
  refine ⟨hin, eq_mod (hi _ hin).1 (Z_rw hp) fun q => ?_⟩
  by_cases hq : q < a.n.toNat
  · rw [hF.lin h hin q]
    have := sKer_ker h.ok.p hw r hr (fun j => F (basV j) q) (List.mem_map.2 ⟨q, List.mem_range.2 hq, rfl⟩)
    rw [show Z q % a.p = 0 from by simp [Z], ← this]
    refine sumN_mod fun j hj => ?_
    unfold vecR
    rw [if_pos hj, Int.mul_comm]
  · rw [(hi _ hin).2 q (by omega)]; rfl
theorem AddM.less (h : CA a) {F : (Nat → Int) → Nat → Int} (hF : AddM a F) : AddM a fun x => vadd a.p (F x) (vsc a.p (-1) x) :=
  ⟨fun x y hx hy => by
    show vadd a.p (F (vadd a.p x y)) (vsc a.p (-1) (vadd a.p x y)) = _
    rw [hF.add x y hx hy, vsc_vadd, vadd_vadd], fun c x hx => by
    show vadd a.p (F (vsc a.p c x)) (vsc a.p (-1) (vsc a.p c x)) = _
    rw [hF.sc c x hx, vsc_vadd, vsc_vsc, vsc_vsc, Int.mul_comm], by
    show vadd a.p (F Z) (vsc a.p (-1) Z) = Z
    rw [hF.zero, vsc_Z, vadd_Z (Z_rw h.p1)]⟩
def fixF (a : Alg) (x : Nat → Int) : Nat → Int := addV a.p (-1) (pw a x a.p.toNat) x
theorem fixF_eq (h : CA a) (x : Nat → Int) : fixF a x = vadd a.p (pw a x a.p.toNat) (vsc a.p (-1) x) := addV_eq _ _ _ _ (in_pw h x _).1
theorem fix_in (h : CA a) {x : Nat → Int} (hx : InA a x) : InA a (fixF a x) := by
  rw [fixF_eq h]; exact in_add h (in_pw h x _) (in_sc h hx)
theorem fix_rw (h : CA a) : RwL a.p (mapL a.n.toNat (fixF a)) := fun r hr => by
  obtain ⟨i, _, rfl⟩ := List.mem_map.1 hr
  exact fun j => mod_bd _ h.p1
def fixL (a : Alg) : List Row := spaceL a.p a.n.toNat (fixF a)
theorem fix_mem (h : CA a) : ∀ b ∈ fixL a, InA a b ∧ pw a b a.p.toNat = b := fun b hb => by
  have e : fixF a = fun x => vadd a.p (pw a x a.p.toNat) (vsc a.p (-1) x) := funext fun x => fixF_eq h x
  obtain ⟨h1, h2⟩ := space_mem h (F := fixF a) (by rw [e]; exact (frob_addM h).less h) (fun x hx => fix_in h hx) (fix_rw h) b hb
  refine ⟨h1, ?_⟩
  rw [fixF_eq h] at h2
  have h3 : vadd a.p (vadd a.p (pw a b a.p.toNat) (vsc a.p (-1) b)) b = b := by rw [h2, Z_vadd h1.1]
  rw [vadd_assoc] at h3
  have h4 : vadd a.p (vsc a.p (-1) b) b = Z := by
    have e1 : b = vsc a.p 1 b := (vsc_1 h1.1).symm
    conv => lhs; arg 3; rw [e1]
    rw [vsc_add, show (-1 + 1 : Int) = 0 from rfl, vsc_0]
  rw [h4, vadd_Z (in_pw h b _).1] at h3
  exact h3
def primI (a : Alg) : List Row := primL a (fixL a)
theorem primI_orth (h : CA a) : Orth a (primI a) := prim_orth h (fix_mem h)
theorem fix_len (h : CA a) : (fixL a).length ≤ a.n.toNat := by
  obtain ⟨ld, rr⟩ := sKer_rr (n := a.n.toNat) (L := mapL a.n.toNat (fixF a)) h.ok.p
  unfold fixL spaceL
  rw [List.length_map]
  exact rr.len_le
end
end Go.X
namespace Go.X
open Go Go.RowKit
def FN.impl_Algebra_nilradical (N : FN) : FuncId := N.f 207
def FN.impl_Algebra_nilradical_1 (N : FN) : FuncId := N.f 208
def FN.impl_Algebra_degrees (N : FN) : FuncId := N.f 209
def FN.impl_Algebra_split (N : FN) : FuncId := N.f 210
def FN.slices_ContainsFunc_Lint64_int64 (N : FN) : FuncId := N.f 211
def FN.impl_Algebra_split_1 (N : FN) : FuncId := N.f 212
def FN.spec_l05Split (N : FN) : FuncId := N.f 217
def FN.impl_PartNumber (N : FN) : FuncId := N.f 218
def FN.spec_PartNumber (N : FN) : FuncId := N.f 219
def FN.laws_FnExactPartNumber (N : FN) : FuncId := N.f 222
def ir_impl_Algebra_nilradical (N : FN) : CF := ⟨1, 33, [(.tmp 2)], (.seq (.reg false [2] [(rO 1 (.box (.t 0))), (rO 2 (.mov (.c .emp)))]) (.seq (.reg true [4] [⟨(some 6), 7, (.load none (.t 1)), none, [4], none⟩, (rO 7 (.nilchk (.t 6))), (rO 8 (.faddr 0 (.t 7))), ⟨(some 9), 10, (.load none (.t 8)), none, [4], none⟩, (rO 3 (.alloc [(.int .i64 0)])), ⟨none, 39, (.store none (.t 3) (.c (.int .i64 1))), none, [], (some [4])⟩, (rO 4 (.mov (.t 9)))]) (.seq (.block 0 (.loop (.seq (.seq (.reg false [] [(rO 10 (.mov (.t 4))), (rO 11 (.cmp .leq (.t 10) (.c (.int .i64 6))))]) (.cond (.t 11) .skip (.exit 0))) (.block 1 (.reg true [] [(rO 12 (.load none (.t 3))), (rO 13 (.arith .add (.t 12) (.c (.int .i64 1)))), (rO 14 (.mov (.t 4))), ⟨(some 15), 16, (.load none (.t 1)), none, [4], none⟩, (rO 16 (.nilchk (.t 15))), (rO 17 (.faddr 0 (.t 16))), ⟨(some 18), 19, (.load none (.t 17)), none, [4], none⟩, (rO 19 (.arith .mul (.t 14) (.t 18))), ⟨none, 42, (.store none (.t 3) (.t 13)), none, [], (some [4])⟩, (rO 4 (.mov (.t 19)))]))))) (.seq (.gh (.frz [2, 4]) (.reg false [23, 24] [(rO 20 (.load none (.t 1))), (rO 21 (.mkfn N.impl_Algebra_nilradical_1 [] [(.t 1), (.t 3)])), (rO 22 (.bslice 1 [(.t 21)])), (rO 23 (.call N.impl_Algebra_equations [(.t 20), (.t 22)])), (rO 5 (.mov (.t 23)))])) (.seq (.gh (.frz [24]) (.reg true [27, 32, 33] [(rO 24 (.mov (.t 5))), ⟨(some 25), 26, (.load none (.t 1)), none, [27, 32, 33], none⟩, ⟨(some 26), 27, (.call N.impl_Algebra_n [(.t 25)]), none, [32, 33], none⟩, ⟨(some 27), 28, (.load none (.t 1)), none, [27, 32, 33], none⟩, (rO 28 (.nilchk (.t 27))), (rO 29 (.faddr 0 (.t 28))), ⟨(some 30), 31, (.load none (.t 29)), none, [27, 32, 33], none⟩, ⟨(some 31), 32, (.call N.impl_kernel [(.t 24), (.t 26), (.t 30)]), none, [33], none⟩, (rO 32 (.call N.impl_vectors [(.t 31)])), (rO 2 (.mov (.t 32)))])) .ret)))))⟩
def ir_impl_Algebra_nilradical_1 (N : FN) : CF := ⟨3, 9, [(.cell 4 (some 6))], (.seq (.reg false [4, 5] [(rO 3 (.box (.t 0))), (rO 4 (.alloc [(.int .u8 0), (.int .u8 0), (.int .u8 0), (.int .u8 0), (.int .u8 0), (.int .u8 0)]))]) (.seq (.reg false [9] [(rO 5 (.load none (.t 1))), (rO 6 (.load (some 6) (.t 3))), (rO 7 (.load none (.t 2))), (rO 8 (.call N.impl_Algebra_frobeniusPower [(.t 5), (.t 6), (.t 7)])), ⟨none, 14, (.store (some 6) (.t 4) (.t 8)), none, [], none⟩]) .ret))⟩
def ir_impl_Algebra_degrees (N : FN) : CF := ⟨1, 34, [(.tmp 2)], (.seq (.reg false [] [(rO 2 (.mov (.c .emp)))]) (.seq (.ga (.dead [7]) (.ga (.ren [3]) (.reg false [8, 10] [(rO 7 (.bslice 1 [])), (rO 8 (.mov (.t 0))), (rO 9 (.call N.impl_Algebra_nilradical [(.t 8)])), (rO 3 (.mov (.t 7))), (rO 4 (.mov (.t 9)))]))) (.seq (.seq (.reg false [12] [(rO 10 (.mov (.t 0))), (rO 11 (.call N.impl_Algebra_primitives [(.t 10)])), (rO 12 (.len (.t 11))), (rO 13 (.mov (.c (.int .i64 0))))]) (.block 0 (.loop (.seq (.reg false [] [(rO 14 (.cmp .lss (.t 13) (.t 12)))]) (.seq (.cond (.t 14) .skip (.exit 0)) (.seq (.block 1 (.seq (.reg false [7] [(rO 15 (.iaddrS 6 (.t 11) (.t 13))), (rO 16 (.load (some 6) (.t 15))), (rO 6 (.alloc [(.int .u8 0), (.int .u8 0), (.int .u8 0), (.int .u8 0), (.int .u8 0), (.int .u8 0)])), ⟨none, 38, (.store (some 6) (.t 6) (.t 16)), none, [], none⟩]) (.ga (.dead [31]) (.ga (.ren [3]) (.reg true [22, 23, 28, 31, 32] [(rO 17 (.mov (.t 3))), (rO 18 (.mov (.t 0))), ⟨(some 19), 20, (.load (some 6) (.t 6)), none, [22, 23, 28, 31, 32], none⟩, (rO 20 (.mov (.t 0))), ⟨(some 21), 22, (.call N.impl_Algebra_all [(.t 20)]), none, [23, 28, 31, 32], none⟩, ⟨(some 22), 23, (.call N.impl_Algebra_spread [(.t 18), (.t 19), (.t 21)]), none, [28, 31, 32], none⟩, ⟨(some 23), 24, (.len (.t 22)), none, [28, 31, 32], none⟩, (rO 24 (.mov (.t 0))), ⟨(some 25), 26, (.load (some 6) (.t 6)), none, [22, 23, 28, 31, 32], none⟩, (rO 26 (.mov (.t 4))), ⟨(some 27), 28, (.call N.impl_Algebra_spread [(.t 24), (.t 25), (.t 26)]), none, [31, 32], none⟩, ⟨(some 28), 29, (.len (.t 27)), none, [31, 32], none⟩, (rO 29 (.arith .sub (.t 23) (.t 28))), (rO 30 (.bslice 1 [(.t 29)])), (rO 31 (.app 1 8 (.t 17) (.t 30))), (rO 3 (.mov (.t 31)))]))))) (.reg false [] [(rO 32 (.arith .add (.t 13) (.c (.int .i64 1)))), (rO 13 (.mov (.t 32)))]))))))) (.seq (.reg false [] [(rO 33 (.mov (.t 3))), (rO 2 (.mov (.t 33)))]) .ret))))⟩
def ir_impl_Algebra_split (N : FN) : CF := ⟨1, 7, [(.tmp 2)], (.seq (.reg false [] [(rO 2 (.mov (.c (.bool false))))]) (.seq (.reg false [5, 6] [(rO 3 (.mov (.t 0))), (rO 4 (.call N.impl_Algebra_degrees [(.t 3)])), (rO 5 (.call N.slices_ContainsFunc_Lint64_int64 [(.t 4), (.f N.impl_Algebra_split_1)])), (rO 6 (.not (.t 5))), (rO 2 (.mov (.t 6)))]) .ret))⟩
def ir_impl_Algebra_split_1 (N : FN) : CF := ⟨1, 5, [(.tmp 2)], (.seq (.reg false [] [(rO 2 (.mov (.c (.bool false))))]) (.seq (.reg false [] [(rO 3 (.mov (.t 0))), (rO 4 (.cmp .neq (.t 3) (.c (.int .i64 1)))), (rO 2 (.mov (.t 4)))]) .ret))⟩
def ir_slices_ContainsFunc_Lint64_int64 (N : FN) : CF := ⟨2, 9, [(.tmp 4)], (.seq (.reg false [] [(rO 4 (.mov (.c (.bool false))))]) (.seq (.reg false [8] [(rO 5 (.mov (.t 0))), (rO 6 (.mov (.t 1))), (rO 7 (.call N.slices_IndexFunc_Lint64_int64 [(.t 5), (.t 6)])), (rO 8 (.cmp .geq (.t 7) (.c (.int .i64 0)))), (rO 4 (.mov (.t 8)))]) .ret))⟩
def ir_spec_l05Split (N : FN) : CF := ⟨1, 18, [(.tmp 2)], (.seq (.reg false [2] [(rO 1 (.box (.t 0))), (rO 2 (.mov (.c (.bool false))))]) (.seq (.reg false [7] [(rO 5 (.load (some 224) (.t 1))), (rO 6 (.call N.spec_l05Sizes [(.t 5), (.c (.bool true))])), (rO 3 (.mov (.t 6)))]) (.seq (.seq (.reg false [] [(rO 4 (.mov (.c (.int .i64 0))))]) (.block 0 (.loop (.seq (.seq (.reg false [] [(rO 7 (.mov (.t 4))), (rO 8 (.mov (.t 3))), (rO 9 (.len (.t 8))), (rO 10 (.cmp .lss (.t 7) (.t 9)))]) (.cond (.t 10) .skip (.exit 0))) (.seq (.block 1 (.seq (.reg false [] [(rO 13 (.mov (.t 3))), (rO 14 (.mov (.t 4))), (rO 15 (.iaddrS 1 (.t 13) (.t 14))), (rO 16 (.load none (.t 15))), (rO 17 (.cmp .neq (.t 16) (.c (.int .i64 1))))]) (.cond (.t 17) (.seq (.reg false [] [(rO 2 (.mov (.c (.bool false))))]) .ret) .skip))) (.reg false [] [(rO 11 (.mov (.t 4))), (rO 12 (.arith .add (.t 11) (.c (.int .i64 1)))), (rO 4 (.mov (.t 12)))])))))) (.seq (.reg false [] [(rO 2 (.mov (.c (.bool true))))]) .ret))))⟩
def ir_impl_PartNumber (N : FN) : CF := ⟨2, 65, [(.tmp 4), (.tmp 5)], (.seq (.reg false [3] [(rO 2 (.box (.t 0))), (rO 4 (.mov (.c (.int .i64 0)))), (rO 5 (.mov (.c (.int .i64 0))))]) (.seq (.seq (.reg false [14] [(rO 12 (.load (some 224) (.t 2))), (rO 13 (.call N.impl_valid [(.t 12), (.c .emp)])), (rO 6 (.mov (.t 13)))]) (.seq (.reg false [] [(rO 14 (.mov (.t 6))), (rO 15 (.cmp .neq (.t 14) (.c (.int .i64 0))))]) (.cond (.t 15) (.seq (.reg false [] [(rO 16 (.mov (.t 6))), (rO 4 (.mov (.c (.int .i64 0)))), (rO 5 (.mov (.t 16)))]) .ret) .skip))) (.seq (.seq (.reg false [19] [(rO 17 (.mov (.t 1))), (rO 18 (.call N.impl_in [(.t 17), (.c (.int .i64 0)), (.c (.int .i64 30))])), (rO 19 (.not (.t 18)))]) (.cond (.t 19) (.seq (.reg false [] [(rO 4 (.mov (.c (.int .i64 0)))), (rO 5 (.mov (.c (.int .i64 2))))]) .ret) .skip)) (.seq (.seq (.reg false [21, 24, 29, 33] [(rO 20 (.call N.impl_Algebra_commutative [(.t 2)])), (rO 21 (.not (.t 20))), (rO 22 (.mov (.t 21))), ⟨(some 23), 24, (.call N.impl_Algebra_nilradical [(.t 2)]), (some (22, false)), [], none⟩, ⟨(some 24), 25, (.len (.t 23)), (some (22, false)), [], none⟩, ⟨(some 25), 26, (.cmp .gtr (.t 24) (.c (.int .i64 0))), (some (22, false)), [], none⟩, (rO 26 (.pick (.t 22) (.c (.bool true)) (.t 25))), (rO 27 (.mov (.t 26))), ⟨(some 28), 29, (.call N.impl_Algebra_split [(.t 2)]), (some (27, false)), [], none⟩, ⟨(some 29), 30, (.not (.t 28)), (some (27, false)), [], none⟩, (rO 30 (.pick (.t 27) (.c (.bool true)) (.t 29))), (rO 31 (.mov (.t 30))), ⟨(some 32), 33, (.call N.impl_Algebra_frobenius [(.t 2)]), (some (31, false)), [], none⟩, ⟨(some 33), 34, (.not (.t 32)), (some (31, false)), [], none⟩, (rO 34 (.pick (.t 31) (.c (.bool true)) (.t 33)))]) (.cond (.t 34) (.seq (.reg false [] [(rO 4 (.mov (.c (.int .i64 0)))), (rO 5 (.mov (.c (.int .i64 5))))]) .ret) .skip)) (.seq (.reg false [] [(rO 7 (.mov (.c (.int .i64 0))))]) (.seq (.seq (.reg false [36] [(rO 35 (.call N.impl_Algebra_primitives [(.t 2)])), (rO 36 (.len (.t 35))), (rO 37 (.mov (.c (.int .i64 0))))]) (.block 0 (.loop (.seq (.reg false [] [(rO 38 (.cmp .lss (.t 37) (.t 36)))]) (.seq (.cond (.t 38) .skip (.exit 0)) (.seq (.block 1 (.seq (.reg false [10] [(rO 39 (.iaddrS 6 (.t 35) (.t 37))), (rO 40 (.load (some 6) (.t 39))), (rO 9 (.alloc [(.int .u8 0), (.int .u8 0), (.int .u8 0), (.int .u8 0), (.int .u8 0), (.int .u8 0)])), ⟨none, 69, (.store (some 6) (.t 9) (.t 40)), none, [], none⟩]) (.seq (.reg false [43] [(rO 41 (.load (some 6) (.t 9))), (rO 42 (.call N.impl_Algebra_form [(.t 2), (.t 41)])), (rO 10 (.mov (.t 42)))]) (.seq (.reg false [47] [(rO 43 (.mov (.t 10))), (rO 44 (.faddr 0 (.t 2))), (rO 45 (.load none (.t 44))), (rO 46 (.call N.impl_inverse [(.t 43), (.t 45)])), (rO 11 (.mov (.t 46)))]) (.seq (.seq (.reg false [] [(rO 47 (.mov (.t 1))), (rO 48 (.mov (.c (.int .i64 0))))]) (.block 2 (.loop (.seq (.reg false [] [(rO 49 (.cmp .lss (.t 48) (.t 47)))]) (.seq (.cond (.t 49) .skip (.exit 2)) (.seq (.block 3 (.reg false [] [(rO 50 (.mov (.t 10))), (rO 51 (.mov (.t 11))), (rO 52 (.arith .mul (.t 50) (.t 51))), (rO 53 (.faddr 0 (.t 2))), (rO 54 (.load none (.t 53))), (rO 55 (.arith .rem (.t 52) (.t 54))), (rO 10 (.mov (.t 55)))])) (.reg false [] [(rO 56 (.arith .add (.t 48) (.c (.int .i64 1)))), (rO 48 (.mov (.t 56)))]))))))) (.reg false [] [(rO 57 (.mov (.t 7))), (rO 58 (.mov (.t 10))), (rO 59 (.arith .add (.t 57) (.t 58))), (rO 7 (.mov (.t 59)))])))))) (.reg false [] [(rO 60 (.arith .add (.t 37) (.c (.int .i64 1)))), (rO 37 (.mov (.t 60)))]))))))) (.seq (.reg false [] [(rO 61 (.mov (.t 7))), (rO 62 (.faddr 0 (.t 2))), (rO 63 (.load none (.t 62))), (rO 64 (.arith .rem (.t 61) (.t 63))), (rO 4 (.mov (.t 64))), (rO 5 (.mov (.c (.int .i64 0))))]) .ret)))))))⟩
def ir_spec_PartNumber (N : FN) : CF := ⟨2, 85, [(.tmp 4), (.tmp 5)], (.seq (.reg false [3] [(rO 2 (.box (.t 0))), (rO 4 (.mov (.c (.int .i64 0)))), (rO 5 (.mov (.c (.int .i64 0))))]) (.seq (.reg false [16] [(rO 14 (.load (some 224) (.t 2))), (rO 15 (.call N.spec_l05Code [(.t 14), (.c .emp)])), (rO 6 (.mov (.t 15)))]) (.seq (.seq (.reg false [25] [(rO 16 (.mov (.t 6))), (rO 17 (.cmp .eql (.t 16) (.c (.int .i64 0)))), (rO 18 (.mov (.t 17))), ⟨(some 19), 20, (.mov (.t 6)), (some (18, false)), [], none⟩, ⟨(some 20), 21, (.cmp .eql (.t 19) (.c (.int .i64 5))), (some (18, false)), [], none⟩, (rO 21 (.pick (.t 18) (.c (.bool true)) (.t 20))), (rO 22 (.mov (.t 21))), ⟨(some 23), 24, (.mov (.t 1)), (some (22, true)), [], none⟩, ⟨(some 24), 25, (.call N.spec_l01In [(.t 23), (.c (.int .i64 0)), (.c (.int .i64 30))]), (some (22, true)), [], none⟩, ⟨(some 25), 26, (.not (.t 24)), (some (22, true)), [], none⟩, (rO 26 (.pick (.t 22) (.t 25) (.c (.bool false))))]) (.cond (.t 26) (.reg false [] [(rO 6 (.mov (.c (.int .i64 2))))]) .skip)) (.seq (.seq (.reg false [32, 37, 42] [(rO 27 (.mov (.t 6))), (rO 28 (.cmp .eql (.t 27) (.c (.int .i64 0)))), (rO 29 (.mov (.t 28))), ⟨(some 30), 31, (.load (some 224) (.t 2)), (some (29, true)), [], none⟩, ⟨(some 31), 32, (.call N.spec_l05Nil [(.t 30)]), (some (29, true)), [], none⟩, ⟨(some 32), 33, (.len (.t 31)), (some (29, true)), [], none⟩, ⟨(some 33), 34, (.cmp .gtr (.t 32) (.c (.int .i64 0))), (some (29, true)), [], none⟩, ⟨(some 34), 35, (.mov (.t 33)), (some (29, true)), [], none⟩, ⟨(some 35), 36, (.load (some 224) (.t 2)), (some (34, false)), [], none⟩, ⟨(some 36), 37, (.call N.spec_l05Split [(.t 35)]), (some (34, false)), [], none⟩, ⟨(some 37), 38, (.not (.t 36)), (some (34, false)), [], none⟩, ⟨(some 38), 39, (.pick (.t 34) (.c (.bool true)) (.t 37)), (some (29, true)), [], none⟩, ⟨(some 39), 40, (.mov (.t 38)), (some (29, true)), [], none⟩, ⟨(some 40), 41, (.load (some 224) (.t 2)), (some (39, false)), [], none⟩, ⟨(some 41), 42, (.call N.spec_l01Frobenius [(.t 40)]), (some (39, false)), [], none⟩, ⟨(some 42), 43, (.not (.t 41)), (some (39, false)), [], none⟩, ⟨(some 43), 44, (.pick (.t 39) (.c (.bool true)) (.t 42)), (some (29, true)), [], none⟩, (rO 44 (.pick (.t 29) (.t 43) (.c (.bool false))))]) (.cond (.t 44) (.reg false [] [(rO 6 (.mov (.c (.int .i64 5))))]) .skip)) (.seq (.seq (.reg false [] [(rO 45 (.mov (.t 6))), (rO 46 (.cmp .neq (.t 45) (.c (.int .i64 0))))]) (.cond (.t 46) (.seq (.reg false [] [(rO 47 (.mov (.t 6))), (rO 4 (.mov (.c (.int .i64 0)))), (rO 5 (.mov (.t 47)))]) .ret) .skip)) (.seq (.reg false [50] [(rO 48 (.load (some 224) (.t 2))), (rO 49 (.call N.spec_l05Primitive [(.t 48)])), (rO 7 (.mov (.t 49))), (rO 8 (.mov (.c (.int .i64 0))))]) (.seq (.seq (.reg false [] [(rO 9 (.mov (.c (.int .i64 0))))]) (.block 0 (.loop (.seq (.seq (.reg false [] [(rO 50 (.mov (.t 9))), (rO 51 (.mov (.t 7))), (rO 52 (.len (.t 51))), (rO 53 (.cmp .lss (.t 50) (.t 52)))]) (.cond (.t 53) .skip (.exit 0))) (.seq (.block 1 (.seq (.reg true [62] [⟨(some 56), 57, (.load (some 224) (.t 2)), none, [62], none⟩, (rO 57 (.mov (.t 7))), (rO 58 (.mov (.t 9))), ⟨(some 59), 60, (.iaddrS 6 (.t 57) (.t 58)), none, [62], none⟩, ⟨(some 60), 61, (.load (some 6) (.t 59)), none, [62], none⟩, (rO 61 (.call N.spec_l01Form [(.t 56), (.t 60)])), (rO 10 (.mov (.t 61)))]) (.seq (.reg false [67] [(rO 62 (.mov (.t 10))), (rO 63 (.faddr 0 (.t 2))), (rO 64 (.load none (.t 63))), (rO 65 (.mov (.t 10))), (rO 66 (.call N.spec_l01Inverse [(.t 64), (.t 65)])), (rO 11 (.mov (.t 62))), (rO 12 (.mov (.t 66)))]) (.seq (.seq (.reg false [] [(rO 67 (.mov (.t 1))), (rO 13 (.mov (.t 67)))]) (.block 2 (.loop (.seq (.seq (.reg false [] [(rO 68 (.mov (.t 13))), (rO 69 (.cmp .gtr (.t 68) (.c (.int .i64 0))))]) (.cond (.t 69) .skip (.exit 2))) (.seq (.block 3 (.reg false [] [(rO 72 (.mov (.t 11))), (rO 73 (.mov (.t 12))), (rO 74 (.arith .mul (.t 72) (.t 73))), (rO 75 (.faddr 0 (.t 2))), (rO 76 (.load none (.t 75))), (rO 77 (.arith .rem (.t 74) (.t 76))), (rO 11 (.mov (.t 77)))])) (.reg false [] [(rO 70 (.mov (.t 13))), (rO 71 (.arith .sub (.t 70) (.c (.int .i64 1)))), (rO 13 (.mov (.t 71)))])))))) (.reg false [] [(rO 78 (.mov (.t 8))), (rO 79 (.mov (.t 11))), (rO 80 (.arith .add (.t 78) (.t 79))), (rO 8 (.mov (.t 80)))]))))) (.reg false [] [(rO 54 (.mov (.t 9))), (rO 55 (.arith .add (.t 54) (.c (.int .i64 1)))), (rO 9 (.mov (.t 55)))])))))) (.seq (.reg false [] [(rO 81 (.mov (.t 8))), (rO 82 (.faddr 0 (.t 2))), (rO 83 (.load none (.t 82))), (rO 84 (.arith .rem (.t 81) (.t 83))), (rO 4 (.mov (.t 84))), (rO 5 (.mov (.c (.int .i64 0))))]) .ret))))))))⟩
def ir_laws_FnExactPartNumber (N : FN) : CF := ⟨2, 31, [(.tmp 4)], (.seq (.reg false [3] [(rO 2 (.box (.t 0))), (rO 4 (.mov (.c (.bool false))))]) (.seq (.reg false [12, 14] [(rO 10 (.load (some 224) (.t 2))), (rO 11 (.call N.laws_toAlgebra [(.t 10)])), (rO 12 (.mov (.t 1))), (rO 13 (.call N.spec_PartNumber [(.t 11), (.t 12)])), (rO 9 (.mov (.t 13))), (rO 14 (.extract (.t 9) 0)), (rO 15 (.extract (.t 9) 1)), (rO 5 (.mov (.t 14))), (rO 6 (.mov (.t 15)))]) (.seq (.reg false [19, 21] [(rO 17 (.load (some 224) (.t 2))), (rO 18 (.call N.laws_toAlgebra [(.t 17)])), (rO 19 (.mov (.t 1))), (rO 20 (.call N.impl_PartNumber [(.t 18), (.t 19)])), (rO 16 (.mov (.t 20))), (rO 21 (.extract (.t 16) 0)), (rO 22 (.extract (.t 16) 1)), (rO 7 (.mov (.t 21))), (rO 8 (.mov (.t 22)))]) (.seq (.seq (.reg false [] [(rO 23 (.mov (.t 7))), (rO 24 (.mov (.t 5))), (rO 25 (.cmp .neq (.t 23) (.t 24))), (rO 26 (.mov (.t 25))), ⟨(some 27), 28, (.mov (.t 8)), (some (26, false)), [], none⟩, ⟨(some 28), 29, (.mov (.t 6)), (some (26, false)), [], none⟩, ⟨(some 29), 30, (.cmp .neq (.t 27) (.t 28)), (some (26, false)), [], none⟩, (rO 30 (.pick (.t 26) (.c (.bool true)) (.t 29)))]) (.cond (.t 30) (.seq (.reg false [] [(rO 4 (.mov (.c (.bool false))))]) .ret) .skip)) (.seq (.reg false [] [(rO 4 (.mov (.c (.bool true))))]) .ret)))))⟩
end Go.X
