import Derived.Test.YtckpoeaagbmlbaaM2
import Derived.Test.YtckpoeaagbmlbaaK2
set_option linter.all false
namespace Go.X
open Go Go.RowKit
def C_eqVector (P : Program) (N : FN) : Prop := ∀ {v w : Nat → Int}, Can P N.laws_eqVector [vecD v, vecD w] (.val (.bool (dB (VEq v w))))
theorem splice_whole {l m : List D} (h : m.length = l.length) : splice l 0 m = m := by
  unfold splice
  rw [List.take_zero, List.nil_append, h, Nat.zero_add, List.drop_length, List.append_nil]
theorem can_sub {P : Program} {f : FuncId} {as bs : List D} {r : Res} (h : Can P f as r) (hr : r.isPost = false) (hl : bs.length = as.length) (hs : ∀ (i : Nat) (a b : D), as[i]? = some a → bs[i]? = some b → ∀ W F v, Sees W F b v → Sees W F a v) : Can P f bs r := by
  obtain ⟨hp, hc⟩ := h.toD hr
  refine CanD.can ⟨hp, fun w F vs hF hv hsee => hc w F vs hF (by omega) fun i x v hx hv' => ?_⟩ hr
  have hi : i < bs.length := by
    have := (List.getElem?_eq_some_iff.1 hx).1; omega
  exact hs i x _ hx (List.getElem?_eq_getElem hi) w F v (hsee i _ v (List.getElem?_eq_getElem hi) hv')
theorem emp_lst {W : World} {F : Nat → Prop} {v : Value} {sz : Nat} (h : Sees W F .emp v) : Sees W F (.lst sz []) v := by
  cases h; exact .lnil _ _ _
theorem rd_st6 {v : Nat → Int} : sub2 (([[.int .u8 0, .int .u8 0, .int .u8 0, .int .u8 0, .int .u8 0, .int .u8 0]] : List (List D)).set 0 (splice [.int .u8 0, .int .u8 0, .int .u8 0, .int .u8 0, .int .u8 0, .int .u8 0] 0 (vecL v))) 0 0 6 = some (vecL v) := rd_stall rfl
end Go.X
namespace Go.X
open Go Go.RowKit
def FN.impl_powerAll (N : FN) : FuncId := N.f 132
def FN.impl_digits (N : FN) : FuncId := N.f 133
def FN.impl_CrossCapsOf (N : FN) : FuncId := N.f 134
def FN.spec_CrossCapsOf (N : FN) : FuncId := N.f 135
def FN.laws_markVectorS (N : FN) : FuncId := N.f 136
def FN.laws_heldVectorS (N : FN) : FuncId := N.f 137
def ir_impl_powerAll (N : FN) : CF := ⟨2, 14, [(.tmp 4)], (.seq (.reg false [] [(rO 4 (.mov (.c (.int .i64 0))))]) (.seq (.reg false [] [(rO 5 (.mov (.c (.int .i64 1))))]) (.seq (.seq (.reg false [] [(rO 6 (.mov (.t 1))), (rO 7 (.mov (.c (.int .i64 0))))]) (.block 0 (.loop (.seq (.reg false [] [(rO 8 (.cmp .lss (.t 7) (.t 6)))]) (.seq (.cond (.t 8) .skip (.exit 0)) (.seq (.block 1 (.reg false [] [(rO 9 (.mov (.t 5))), (rO 10 (.mov (.t 0))), (rO 11 (.arith .mul (.t 9) (.t 10))), (rO 5 (.mov (.t 11)))])) (.reg false [] [(rO 12 (.arith .add (.t 7) (.c (.int .i64 1)))), (rO 7 (.mov (.t 12)))]))))))) (.seq (.reg false [] [(rO 13 (.mov (.t 5))), (rO 4 (.mov (.t 13)))]) .ret))))⟩
def ir_impl_digits (N : FN) : CF := ⟨3, 27, [(.tmp 6)], (.seq (.reg false [] [(rO 6 (.mov (.c .emp)))]) (.seq (.reg false [11] [(rO 9 (.mov (.t 2))), (rO 10 (.mkrow 1 8 [(.int .i64 0)] (.t 9))), (rO 7 (.mov (.t 10)))]) (.seq (.seq (.reg false [] [(rO 11 (.mov (.t 2))), (rO 12 (.arith .sub (.t 11) (.c (.int .i64 1)))), (rO 8 (.mov (.t 12)))]) (.block 0 (.loop (.seq (.seq (.reg false [] [(rO 13 (.mov (.t 8))), (rO 14 (.cmp .geq (.t 13) (.c (.int .i64 0))))]) (.cond (.t 14) .skip (.exit 0))) (.seq (.block 1 (.seq (.reg false [] [(rO 17 (.mov (.t 7))), (rO 18 (.mov (.t 8))), (rO 19 (.mov (.t 0))), (rO 20 (.mov (.t 1))), (rO 21 (.arith .rem (.t 19) (.t 20))), (rO 22 (.iaddrS 1 (.t 17) (.t 18))), ⟨none, 34, (.store none (.t 22) (.t 21)), none, [], none⟩]) (.reg false [] [(rO 23 (.mov (.t 0))), (rO 24 (.mov (.t 1))), (rO 25 (.arith .quo (.t 23) (.t 24))), (rO 0 (.mov (.t 25)))]))) (.reg false [] [(rO 15 (.mov (.t 8))), (rO 16 (.arith .sub (.t 15) (.c (.int .i64 1)))), (rO 8 (.mov (.t 16)))])))))) (.seq (.reg false [] [(rO 26 (.mov (.t 7))), (rO 6 (.mov (.t 26)))]) .ret))))⟩
def ir_impl_CrossCapsOf (N : FN) : CF := ⟨2, 52, [(.tmp 4), (.tmp 5)], (.seq (.reg false [3] [(rO 2 (.box (.t 0))), (rO 4 (.mov (.c .emp))), (rO 5 (.mov (.c (.int .i64 0))))]) (.seq (.seq (.reg false [15] [(rO 12 (.load (some 224) (.t 2))), (rO 13 (.mov (.t 1))), (rO 14 (.call N.impl_stars [(.t 12), (.t 13), (.c .emp)])), (rO 6 (.mov (.t 14)))]) (.seq (.reg false [] [(rO 15 (.mov (.t 6))), (rO 16 (.cmp .neq (.t 15) (.c (.int .i64 0))))]) (.cond (.t 16) (.seq (.reg false [] [(rO 17 (.mov (.t 6))), (rO 4 (.mov (.c .emp))), (rO 5 (.mov (.t 17)))]) .ret) .skip))) (.seq (.ga (.dead [25]) (.ga (.ren [9]) (.reg false [23, 25, 26, 9] [(rO 18 (.faddr 0 (.t 2))), (rO 19 (.load none (.t 18))), (rO 20 (.faddr 1 (.t 2))), (rO 21 (.load none (.t 20))), (rO 22 (.call N.impl_powerAll [(.t 19), (.t 21)])), (rO 23 (.mov (.t 1))), (rO 24 (.call N.impl_Algebra_klein [(.t 2), (.t 23)])), (rO 25 (.bslice 6 [])), (rO 8 (.alloc [(.int .u8 0), (.int .u8 0), (.int .u8 0), (.int .u8 0), (.int .u8 0), (.int .u8 0)])), (rO 7 (.mov (.t 22))), ⟨none, 63, (.store (some 6) (.t 8) (.t 24)), none, [], none⟩, (rO 9 (.mov (.t 25)))]))) (.seq (.seq (.reg false [] [(rO 26 (.mov (.t 7))), (rO 27 (.cmp .gtr (.t 26) (.c (.int .i64 20000))))]) (.cond (.t 27) (.seq (.reg false [] [(rO 4 (.mov (.c .emp))), (rO 5 (.mov (.c (.int .i64 3))))]) .ret) .skip)) (.seq (.seq (.reg false [] [(rO 28 (.mov (.t 7))), (rO 29 (.mov (.c (.int .i64 0))))]) (.block 0 (.loop (.seq (.reg false [] [(rO 30 (.cmp .lss (.t 29) (.t 28)))]) (.seq (.cond (.t 30) .skip (.exit 0)) (.seq (.block 1 (.seq (.reg false [] [(rO 31 (.mov (.t 29))), (rO 10 (.mov (.t 31)))]) (.seq (.reg false [38, 39, 12] [(rO 32 (.mov (.t 10))), (rO 33 (.faddr 0 (.t 2))), (rO 34 (.load none (.t 33))), (rO 35 (.faddr 1 (.t 2))), (rO 36 (.load none (.t 35))), (rO 37 (.call N.impl_digits [(.t 32), (.t 34), (.t 36)])), (rO 38 (.call N.impl_vector [(.t 37)])), (rO 11 (.alloc [(.int .u8 0), (.int .u8 0), (.int .u8 0), (.int .u8 0), (.int .u8 0), (.int .u8 0)])), ⟨none, 61, (.store (some 6) (.t 11) (.t 38)), none, [], none⟩]) (.seq (.reg false [43] [(rO 39 (.mov (.t 1))), (rO 40 (.load (some 6) (.t 8))), (rO 41 (.load (some 6) (.t 11))), (rO 42 (.call N.impl_Algebra_crossCap [(.t 2), (.t 39), (.t 40), (.t 41)]))]) (.cond (.t 42) (.ga (.dead [46]) (.ga (.ren [9]) (.reg false [46, 47] [(rO 43 (.mov (.t 9))), (rO 44 (.load (some 6) (.t 11))), (rO 45 (.bslice 6 [(.t 44)])), (rO 46 (.app 6 6 (.t 43) (.t 45))), (rO 9 (.mov (.t 46)))]))) .skip))))) (.reg false [] [(rO 47 (.arith .add (.t 29) (.c (.int .i64 1)))), (rO 29 (.mov (.t 47)))]))))))) (.seq (.seq (.reg false [] [(rO 48 (.mov (.t 9))), (rO 49 (.len (.t 48))), (rO 50 (.cmp .gtr (.t 49) (.c (.int .i64 200))))]) (.cond (.t 50) (.seq (.reg false [] [(rO 4 (.mov (.c .emp))), (rO 5 (.mov (.c (.int .i64 3))))]) .ret) .skip)) (.seq (.reg false [] [(rO 51 (.mov (.t 9))), (rO 4 (.mov (.t 51))), (rO 5 (.mov (.c (.int .i64 0))))]) .ret)))))))⟩
def ir_spec_CrossCapsOf (N : FN) : CF := ⟨2, 75, [(.tmp 4), (.tmp 5)], (.seq (.reg false [3] [(rO 2 (.box (.t 0))), (rO 4 (.mov (.c .emp))), (rO 5 (.mov (.c (.int .i64 0))))]) (.seq (.seq (.reg false [18] [(rO 15 (.load (some 224) (.t 2))), (rO 16 (.mov (.t 1))), (rO 17 (.call N.spec_l08Code [(.t 15), (.t 16), (.c .emp)])), (rO 6 (.mov (.t 17)))]) (.seq (.reg false [] [(rO 18 (.mov (.t 6))), (rO 19 (.cmp .neq (.t 18) (.c (.int .i64 0))))]) (.cond (.t 19) (.seq (.reg false [] [(rO 20 (.mov (.t 6))), (rO 4 (.mov (.c .emp))), (rO 5 (.mov (.t 20)))]) .ret) .skip))) (.seq (.reg false [] [(rO 7 (.mov (.c (.int .i64 1))))]) (.seq (.seq (.reg false [] [(rO 8 (.mov (.c (.int .i64 0))))]) (.block 0 (.loop (.seq (.seq (.reg false [] [(rO 21 (.mov (.t 8))), (rO 22 (.faddr 1 (.t 2))), (rO 23 (.load none (.t 22))), (rO 24 (.cmp .lss (.t 21) (.t 23)))]) (.cond (.t 24) .skip (.exit 0))) (.seq (.block 1 (.reg false [] [(rO 27 (.mov (.t 7))), (rO 28 (.faddr 0 (.t 2))), (rO 29 (.load none (.t 28))), (rO 30 (.arith .mul (.t 27) (.t 29))), (rO 7 (.mov (.t 30)))])) (.reg false [] [(rO 25 (.mov (.t 8))), (rO 26 (.arith .add (.t 25) (.c (.int .i64 1)))), (rO 8 (.mov (.t 26)))])))))) (.seq (.seq (.reg false [] [(rO 31 (.mov (.t 7))), (rO 32 (.cmp .gtr (.t 31) (.c (.int .i64 20000))))]) (.cond (.t 32) (.seq (.reg false [] [(rO 4 (.mov (.c .emp))), (rO 5 (.mov (.c (.int .i64 3))))]) .ret) .skip)) (.seq (.ga (.dead [36]) (.ga (.ren [10]) (.reg false [36, 37, 10] [(rO 33 (.load (some 224) (.t 2))), (rO 34 (.mov (.t 1))), (rO 35 (.call N.spec_l08Klein [(.t 33), (.t 34)])), (rO 36 (.bslice 6 [])), (rO 9 (.alloc [(.int .u8 0), (.int .u8 0), (.int .u8 0), (.int .u8 0), (.int .u8 0), (.int .u8 0)])), ⟨none, 81, (.store (some 6) (.t 9) (.t 35)), none, [], none⟩, (rO 10 (.mov (.t 36)))]))) (.seq (.seq (.reg false [] [(rO 11 (.mov (.c (.int .i64 0))))]) (.block 2 (.loop (.seq (.seq (.reg false [] [(rO 37 (.mov (.t 11))), (rO 38 (.mov (.t 7))), (rO 39 (.cmp .lss (.t 37) (.t 38)))]) (.cond (.t 39) .skip (.exit 2))) (.seq (.block 3 (.seq (.reg false [13] [(rO 42 (.build [(.int .u8 0), (.int .u8 0), (.int .u8 0), (.int .u8 0), (.int .u8 0), (.int .u8 0)] [])), (rO 43 (.mov (.t 11))), (rO 12 (.alloc [(.int .u8 0), (.int .u8 0), (.int .u8 0), (.int .u8 0), (.int .u8 0), (.int .u8 0)])), ⟨none, 79, (.store (some 6) (.t 12) (.t 42)), none, [], none⟩, (rO 13 (.mov (.t 43)))]) (.seq (.seq (.reg false [] [(rO 44 (.faddr 1 (.t 2))), (rO 45 (.load none (.t 44))), (rO 46 (.arith .sub (.t 45) (.c (.int .i64 1)))), (rO 14 (.mov (.t 46)))]) (.block 4 (.loop (.seq (.seq (.reg false [] [(rO 47 (.mov (.t 14))), (rO 48 (.cmp .geq (.t 47) (.c (.int .i64 0))))]) (.cond (.t 48) .skip (.exit 4))) (.seq (.block 5 (.seq (.reg false [] [(rO 51 (.mov (.t 14))), (rO 52 (.mov (.t 13))), (rO 53 (.faddr 0 (.t 2))), (rO 54 (.load none (.t 53))), (rO 55 (.arith .rem (.t 52) (.t 54))), (rO 56 (.conv .u8 (.t 55))), (rO 57 (.iaddrA 6 1 (.t 12) (.t 51))), ⟨none, 83, (.store none (.t 57) (.t 56)), none, [], none⟩]) (.reg false [] [(rO 58 (.mov (.t 13))), (rO 59 (.faddr 0 (.t 2))), (rO 60 (.load none (.t 59))), (rO 61 (.arith .quo (.t 58) (.t 60))), (rO 13 (.mov (.t 61)))]))) (.reg false [] [(rO 49 (.mov (.t 14))), (rO 50 (.arith .sub (.t 49) (.c (.int .i64 1)))), (rO 14 (.mov (.t 50)))])))))) (.seq (.seq (.reg false [67] [(rO 62 (.load (some 224) (.t 2))), (rO 63 (.mov (.t 1))), (rO 64 (.load (some 6) (.t 12))), (rO 65 (.load (some 6) (.t 9))), (rO 66 (.call N.spec_l08CrossCap [(.t 62), (.t 63), (.t 64), (.t 65)]))]) (.cond (.t 66) (.ga (.dead [70]) (.ga (.ren [10]) (.reg false [70, 71] [(rO 67 (.mov (.t 10))), (rO 68 (.load (some 6) (.t 12))), (rO 69 (.bslice 6 [(.t 68)])), (rO 70 (.app 6 6 (.t 67) (.t 69))), (rO 10 (.mov (.t 70)))]))) .skip)) (.seq (.reg false [] [(rO 71 (.mov (.t 10))), (rO 72 (.len (.t 71))), (rO 73 (.cmp .gtr (.t 72) (.c (.int .i64 200))))]) (.cond (.t 73) (.seq (.reg false [] [(rO 4 (.mov (.c .emp))), (rO 5 (.mov (.c (.int .i64 3))))]) .ret) .skip)))))) (.reg false [] [(rO 40 (.mov (.t 11))), (rO 41 (.arith .add (.t 40) (.c (.int .i64 1)))), (rO 11 (.mov (.t 41)))])))))) (.seq (.reg false [] [(rO 74 (.mov (.t 10))), (rO 4 (.mov (.t 74))), (rO 5 (.mov (.c (.int .i64 0))))]) .ret))))))))⟩
def ir_laws_markVectorS (N : FN) : CF := ⟨2, 27, [(.tmp 4)], (.seq (.reg false [] [(rO 4 (.mov (.c (.int .i64 0))))]) (.seq (.seq (.reg false [] [(rO 5 (.mov (.c (.int .i64 0))))]) (.block 0 (.loop (.seq (.seq (.reg false [] [(rO 7 (.mov (.t 5))), (rO 8 (.mov (.t 0))), (rO 9 (.len (.t 8))), (rO 10 (.cmp .lss (.t 7) (.t 9)))]) (.cond (.t 10) .skip (.exit 0))) (.seq (.block 1 (.seq (.reg false [] [(rO 6 (.mov (.c (.int .i64 0))))]) (.block 2 (.loop (.seq (.seq (.reg false [] [(rO 13 (.mov (.t 6))), (rO 14 (.cmp .lss (.t 13) (.c (.int .i64 6))))]) (.cond (.t 14) .skip (.exit 2))) (.seq (.block 3 (.seq (.reg false [] [(rO 17 (.mov (.t 0))), (rO 18 (.mov (.t 5))), (rO 19 (.mov (.t 6))), (rO 20 (.mov (.t 1))), (rO 21 (.conv .u8 (.t 20))), (rO 22 (.iaddrS 6 (.t 17) (.t 18))), (rO 23 (.iaddrA 6 1 (.t 22) (.t 19))), ⟨none, 35, (.store none (.t 23) (.t 21)), none, [], none⟩]) (.reg false [] [(rO 24 (.mov (.t 1))), (rO 25 (.arith .add (.t 24) (.c (.int .i64 1)))), (rO 1 (.mov (.t 25)))]))) (.reg false [] [(rO 15 (.mov (.t 6))), (rO 16 (.arith .add (.t 15) (.c (.int .i64 1)))), (rO 6 (.mov (.t 16)))]))))))) (.reg false [] [(rO 11 (.mov (.t 5))), (rO 12 (.arith .add (.t 11) (.c (.int .i64 1)))), (rO 5 (.mov (.t 12)))])))))) (.seq (.reg false [] [(rO 26 (.mov (.t 1))), (rO 4 (.mov (.t 26)))]) .ret)))⟩
def ir_laws_heldVectorS (N : FN) : CF := ⟨2, 29, [(.tmp 4)], (.seq (.reg false [] [(rO 4 (.mov (.c (.int .i64 0))))]) (.seq (.seq (.reg false [] [(rO 5 (.mov (.c (.int .i64 0))))]) (.block 0 (.loop (.seq (.seq (.reg false [] [(rO 7 (.mov (.t 5))), (rO 8 (.mov (.t 0))), (rO 9 (.len (.t 8))), (rO 10 (.cmp .lss (.t 7) (.t 9)))]) (.cond (.t 10) .skip (.exit 0))) (.seq (.block 1 (.seq (.reg false [] [(rO 6 (.mov (.c (.int .i64 0))))]) (.block 2 (.loop (.seq (.seq (.reg false [] [(rO 13 (.mov (.t 6))), (rO 14 (.cmp .lss (.t 13) (.c (.int .i64 6))))]) (.cond (.t 14) .skip (.exit 2))) (.seq (.block 3 (.seq (.seq (.reg false [] [(rO 17 (.mov (.t 0))), (rO 18 (.mov (.t 5))), (rO 19 (.mov (.t 6))), (rO 20 (.iaddrS 6 (.t 17) (.t 18))), (rO 21 (.iaddrA 6 1 (.t 20) (.t 19))), (rO 22 (.load none (.t 21))), (rO 23 (.mov (.t 1))), (rO 24 (.conv .u8 (.t 23))), (rO 25 (.cmp .neq (.t 22) (.t 24)))]) (.cond (.t 25) (.seq (.reg false [] [(rO 4 (.mov (.c (.int .i64 (-1)))))]) .ret) .skip)) (.reg false [] [(rO 26 (.mov (.t 1))), (rO 27 (.arith .add (.t 26) (.c (.int .i64 1)))), (rO 1 (.mov (.t 27)))]))) (.reg false [] [(rO 15 (.mov (.t 6))), (rO 16 (.arith .add (.t 15) (.c (.int .i64 1)))), (rO 6 (.mov (.t 16)))]))))))) (.reg false [] [(rO 11 (.mov (.t 5))), (rO 12 (.arith .add (.t 11) (.c (.int .i64 1)))), (rO 5 (.mov (.t 12)))])))))) (.seq (.reg false [] [(rO 28 (.mov (.t 1))), (rO 4 (.mov (.t 28)))]) .ret)))⟩
end Go.X
namespace Go.X
open Go Go.RowKit
theorem sumN_comm {f : Nat → Nat → Int} {n : Nat} : ∀ m, sumN m (fun i => sumN n fun j => f i j) = sumN n fun j => sumN m fun i => f i j
  | 0 => (sumN_zero fun _ _ => rfl).symm
  | m + 1 => by
    simp only [sumN]
    rw [sumN_comm m, ← sumN_add]
theorem times_lt {a : Alg} {v w : Nat → Int} {k : Nat} (hk : k < a.n.toNat) : timesV a v w k = tsum a v w k a.n.toNat % a.p := by
  unfold timesV; rw [if_pos (by omega)]
theorem times_ge {a : Alg} {v w : Nat → Int} {k : Nat} (hk : a.n ≤ (k : Int)) : timesV a v w k = 0 := by
  unfold timesV; rw [if_neg (by omega)]
theorem times_l {a : Alg} {v : Nat → Int} {m k : Nat} (hm : m < a.n.toNat) (hk : k < a.n.toNat) : timesV a v (basV m) k = dot a.n.toNat (fun i => a.T i m k) v % a.p := by
  rw [times_lt hk]
  unfold tsum dot
  congr 1
  refine sumN_ext fun i _ => ?_
  rw [sumN_one (i := m) hm fun j h => by simp [basV, h]]
  simp [basV, Int.mul_comm]
theorem times_r {a : Alg} {v : Nat → Int} {m k : Nat} (hm : m < a.n.toNat) (hk : k < a.n.toNat) : timesV a (basV m) v k = dot a.n.toNat (fun i => a.T m i k) v % a.p := by
  rw [times_lt hk]
  unfold tsum dot
  congr 1
  rw [sumN_one (i := m) hm fun i h => sumN_zero fun j _ => by simp [basV, h]]
  refine sumN_ext fun j _ => ?_
  simp [basV, Int.mul_comm]
def LU (a : Alg) (v : Nat → Int) : Prop := ∀ m k, m < a.n.toNat → k < a.n.toNat → timesV a v (basV m) k = basV m k
def RU (a : Alg) (v : Nat → Int) : Prop := ∀ m k, m < a.n.toNat → k < a.n.toNat → timesV a (basV m) v k = basV m k
theorem basV_mod {p : Int} (hp : 2 ≤ p) (m k : Nat) : basV m k % p = basV m k := by
  unfold basV; split
  · exact Int.emod_eq_of_lt (by omega) (by omega)
  · simp
theorem unit_eq {a : Alg} {u v : Nat → Int} (hp : 2 ≤ a.p) (hu : Rw a.p u) (hv : Rw a.p v) (hl : LU a v) (hr : RU a u) : ∀ k, k < a.n.toNat → v k = u k := by
  intro k hk
  have e1 : (sumN a.n.toNat fun i => sumN a.n.toNat fun j => v i * (u j * a.T i j k)) % a.p = v k := by
    have : (sumN a.n.toNat fun i => sumN a.n.toNat fun j => v i * (u j * a.T i j k)) % a.p = (sumN a.n.toNat fun i => v i * basV i k) % a.p := sumN_mod fun i hi => by
      rw [sumN_mul]
      have h1 := hr i k hi hk
      rw [times_r hi hk] at h1
      refine cg_mul rfl ?_
      rw [basV_mod hp, ← h1]
      unfold dot
      rw [sumN_ext (n := a.n.toNat) (f := fun j => u j * a.T i j k) (g := fun j => a.T i j k * u j) fun j _ => Int.mul_comm ..]
    rw [this, sumN_one (i := k) hk fun i h => by simp [basV, Ne.symm h]]
    simp only [basV, if_true, Int.mul_one]
    exact rw_mod hv k
  have e2 : (sumN a.n.toNat fun i => sumN a.n.toNat fun j => v i * (u j * a.T i j k)) % a.p = u k := by
    rw [sumN_comm]
    have : (sumN a.n.toNat fun j => sumN a.n.toNat fun i => v i * (u j * a.T i j k)) % a.p = (sumN a.n.toNat fun j => u j * basV j k) % a.p := sumN_mod fun j hj => by
      have h1 := hl j k hj hk
      rw [times_l hj hk] at h1
      rw [sumN_ext (n := a.n.toNat) (f := fun i => v i * (u j * a.T i j k)) (g := fun i => u j * (a.T i j k * v i)) fun i _ => by rw [Int.mul_comm (v i), Int.mul_assoc], sumN_mul]
      refine cg_mul rfl ?_
      rw [basV_mod hp, ← h1]; rfl
    rw [this, sumN_one (i := k) hk fun i h => by simp [basV, Ne.symm h]]
    simp only [basV, if_true, Int.mul_one]
    exact rw_mod hu k
  rw [← e1, e2]
theorem LU.ext {a : Alg} {u v : Nat → Int} (h : LU a u) (e : ∀ i, i < a.n.toNat → v i = u i) : LU a v := fun m k hm hk => by
  rw [times_l hm hk, ← h m k hm hk, times_l hm hk]
  unfold dot
  rw [sumN_ext fun i hi => by rw [e i hi]]
theorem RU.ext {a : Alg} {u v : Nat → Int} (h : RU a u) (e : ∀ i, i < a.n.toNat → v i = u i) : RU a v := fun m k hm hk => by
  rw [times_r hm hk, ← h m k hm hk, times_r hm hk]
  unfold dot
  rw [sumN_ext fun i hi => by rw [e i hi]]
theorem mem_findIn {a : Alg} {i : Nat} {r : Row} : ∀ {k}, r ∈ findIn a i k ↔ ∃ k', k' < k ∧ r = findR a i k'
  | 0 => ⟨(fun h => by cases h), (fun ⟨_, h, _⟩ => by omega)⟩
  | k + 1 => by
    unfold findIn
    rw [List.mem_append, mem_findIn, List.mem_singleton]
    constructor
    · rintro (⟨k', h, e⟩ | e)
      · exact ⟨k', by omega, e⟩
      · exact ⟨k, by omega, e⟩
    · rintro ⟨k', h, e⟩
      by_cases c : k' = k
      · subst c; exact .inr e
      · exact .inl ⟨k', by omega, e⟩
theorem mem_findOut {a : Alg} {r : Row} : ∀ {m}, r ∈ findOut a m ↔ ∃ i k, i < m ∧ k < a.n.toNat ∧ r = findR a i k
  | 0 => ⟨(fun h => by cases h), (fun ⟨_, _, h, _⟩ => by omega)⟩
  | m + 1 => by
    unfold findOut
    rw [List.mem_append, mem_findOut, mem_findIn]
    constructor
    · rintro (⟨i, k, h, h2, e⟩ | ⟨k, h, e⟩)
      · exact ⟨i, k, by omega, h2, e⟩
      · exact ⟨m, k, by omega, h, e⟩
    · rintro ⟨i, k, h, h2, e⟩
      by_cases c : i = m
      · subst c; exact .inr ⟨k, h2, e⟩
      · exact .inl ⟨i, k, by omega, h2, e⟩
theorem sol_find {a : Alg} (hp : 2 ≤ a.p) {v : Row} : Sol a.p a.n.toNat (findOut a a.n.toNat) v ↔ LU a v := by
  have key : ∀ i k, i < a.n.toNat → k < a.n.toNat → (dot a.n.toNat (findR a i k) v % a.p = findR a i k a.n.toNat % a.p ↔ timesV a v (basV i) k = basV i k) := fun i k hi hk => by
    rw [times_l hi hk]
    have e1 : dot a.n.toNat (findR a i k) v = dot a.n.toNat (fun j => a.T j i k) v := sumN_ext fun j hj => by unfold findR; rw [if_pos hj]
    have e2 : findR a i k a.n.toNat % a.p = basV i k := by
      unfold findR
      rw [if_neg (by omega), ← basV_mod hp i k]
      congr 1
      unfold basV
      by_cases c : i = k
      · rw [if_pos c, if_pos c.symm]
      · rw [if_neg c, if_neg (fun e => c e.symm)]
    rw [e1, e2]
  rw [sol_iff]
  constructor
  · intro h m k hm hk
    exact (key m k hm hk).1 (h _ (mem_findOut.2 ⟨m, k, hm, hk, rfl⟩))
  · intro h r hr
    obtain ⟨i, k, hi, hk, rfl⟩ := mem_findOut.1 hr
    exact (key i k hi hk).2 (h i k hi hk)
def iRows (a : Alg) : List Row := arr (2 * a.n.toNat * a.n.toNat) (fullR (uM a) uT a.n.toNat)
theorem iRows_rw {a : Alg} (ha : AlgOk a) : RwL a.p (iRows a) := by
  have hp2 := prime_bd ha.p
  exact fullR_rw (fun q i k => uM_rw (by omega) q i k) (fun q k => uT_rw hp2.1 q k)
theorem iFind_eq (a : Alg) : iFindF a = (iSolveF a.p a.n.toNat (iRows a)).map (vecR a.n.toNat) := rfl
theorem sol_ifind {a : Alg} (ha : AlgOk a) {v : Row} : Sol a.p a.n.toNat (iRows a) v ↔ LU a v ∧ RU a v := by
  have hp2 := prime_bd ha.p
  have hn := ha.n
  have key : ∀ q k, q < 2 * a.n.toNat → k < a.n.toNat → fullR (uM a) uT a.n.toNat (q * a.n.toNat + k) = fun i => if i < a.n.toNat then uM a q i k else uT q k := fun q k hq hk => by
    funext i
    unfold fullR
    have hdiv : (q * a.n.toNat + k) / a.n.toNat = q := by rw [Nat.mul_comm, Nat.mul_add_div (by omega), Nat.div_eq_of_lt hk, Nat.add_zero]
    have hmod : (q * a.n.toNat + k) % a.n.toNat = k := by rw [Nat.mul_comm, Nat.mul_add_mod, Nat.mod_eq_of_lt hk]
    rw [hdiv, hmod]
  have k0 : ∀ m k, m < a.n.toNat → k < a.n.toNat → (dot a.n.toNat (fullR (uM a) uT a.n.toNat (2 * m * a.n.toNat + k)) v % a.p = fullR (uM a) uT a.n.toNat (2 * m * a.n.toNat + k) a.n.toNat % a.p ↔ timesV a v (basV m) k = basV m k) := fun m k hm hk => by
    rw [key (2 * m) k (by omega) hk, times_l hm hk]
    dsimp only
    rw [if_neg (Nat.lt_irrefl _)]
    have e1 : dot a.n.toNat (fun i => if i < a.n.toNat then uM a (2 * m) i k else uT (2 * m) k) v = dot a.n.toNat (fun j => a.T j m k) v := sumN_ext fun j hj => by
      dsimp only
      rw [if_pos hj]
      unfold uM
      rw [if_pos (by omega), show 2 * m / 2 = m by omega, bas_times ha (by omega) (by omega)]
    rw [e1]
    unfold uT
    rw [show 2 * m / 2 = m by omega, basV_mod hp2.1]
  have k1 : ∀ m k, m < a.n.toNat → k < a.n.toNat → (dot a.n.toNat (fullR (uM a) uT a.n.toNat ((2 * m + 1) * a.n.toNat + k)) v % a.p = fullR (uM a) uT a.n.toNat ((2 * m + 1) * a.n.toNat + k) a.n.toNat % a.p ↔ timesV a (basV m) v k = basV m k) := fun m k hm hk => by
    rw [key (2 * m + 1) k (by omega) hk, times_r hm hk]
    dsimp only
    rw [if_neg (Nat.lt_irrefl _)]
    have e1 : dot a.n.toNat (fun i => if i < a.n.toNat then uM a (2 * m + 1) i k else uT (2 * m + 1) k) v = dot a.n.toNat (fun j => a.T m j k) v := sumN_ext fun j hj => by
      dsimp only
      rw [if_pos hj]
      unfold uM
      rw [if_neg (by omega), show (2 * m + 1) / 2 = m by omega, bas_times ha (by omega) (by omega)]
    rw [e1]
    unfold uT
    rw [show (2 * m + 1) / 2 = m by omega, basV_mod hp2.1]
  have mem : ∀ q k, q < 2 * a.n.toNat → k < a.n.toNat → fullR (uM a) uT a.n.toNat (q * a.n.toNat + k) ∈ iRows a := fun q k hq hk => by
    unfold iRows arr
    refine List.mem_map.2 ⟨q * a.n.toNat + k, ?_, rfl⟩
    rw [List.mem_range]
    have h1 : (q + 1) * a.n.toNat ≤ 2 * a.n.toNat * a.n.toNat := Nat.mul_le_mul_right _ (by omega)
    rw [Nat.add_mul, Nat.one_mul] at h1
    omega
  rw [sol_iff]
  constructor
  · intro h
    exact ⟨fun m k hm hk => (k0 m k hm hk).1 (h _ (mem (2 * m) k (by omega) hk)), fun m k hm hk => (k1 m k hm hk).1 (h _ (mem (2 * m + 1) k (by omega) hk))⟩
  · rintro ⟨h0, h1⟩ r hr
    unfold iRows arr at hr
    obtain ⟨y, hy, rfl⟩ := List.mem_map.1 hr
    rw [List.mem_range] at hy
    have hk : y % a.n.toNat < a.n.toNat := Nat.mod_lt _ (by omega)
    have hq : y / a.n.toNat < 2 * a.n.toNat := Nat.div_lt_of_lt_mul (by rw [Nat.mul_comm]; exact hy)
    have e : y = y / a.n.toNat * a.n.toNat + y % a.n.toNat := by rw [Nat.mul_comm]; exact (Nat.div_add_mod ..).symm
    generalize y / a.n.toNat = q at *
    generalize y % a.n.toNat = k at *
    subst e
    rcases Nat.mod_two_eq_zero_or_one q with c | c
    · obtain ⟨m, rfl⟩ : ∃ m, q = 2 * m := ⟨q / 2, by omega⟩
      exact (k0 m k (by omega) hk).2 (h0 m k (by omega) hk)
    · obtain ⟨m, rfl⟩ : ∃ m, q = 2 * m + 1 := ⟨q / 2, by omega⟩
      exact (k1 m k (by omega) hk).2 (h1 m k (by omega) hk)
theorem vecR_lt {n : Nat} {r : Row} {i : Nat} (h : i < n) : vecR n r i = r i := by unfold vecR; rw [if_pos h]
theorem iFind_two {a : Alg} (ha : AlgOk a) {u : Nat → Int} (h : iFindF a = some u) : LU a u ∧ RU a u ∧ Rw a.p u ∧ ∀ i, a.n.toNat ≤ i → u i = 0 := by
  have hp2 := prime_bd ha.p
  rw [iFind_eq] at h
  cases hs : iSolveF a.p a.n.toNat (iRows a) with
  | none => rw [hs] at h; cases h
  | some r =>
    rw [hs] at h
    simp only [Option.map_some, Option.some.injEq] at h
    subst h
    obtain ⟨h1, h2⟩ := (sol_ifind ha).1 (iSolve_some ha.p (iRows_rw ha) hs)
    exact ⟨h1.ext fun i hi => vecR_lt hi, h2.ext fun i hi => vecR_lt hi, vecR_rw (by omega) (iSolve_rw ha.p (iRows_rw ha) hs), fun i hi => by unfold vecR; rw [if_neg (by omega)]⟩
theorem iFind_of {a : Alg} (ha : AlgOk a) {u : Nat → Int} (h1 : LU a u) (h2 : RU a u) : (iFindF a).isSome = true := by
  have := iSolve_none ha.p (iRows_rw ha) ((sol_ifind ha).2 ⟨h1, h2⟩)
  rw [iFind_eq]
  cases hs : iSolveF a.p a.n.toNat (iRows a) with
  | none => rw [hs] at this; cases this
  | some r => rfl
theorem find_two {a : Alg} (ha : AlgOk a) {u : Nat → Int} (h : findF a = some u) : LU a u ∧ RU a u := by
  have hp2 := prime_bd ha.p
  have hn := ha.n
  unfold findF at h
  cases hs : sSolveF a.p a.n.toNat (findOut a a.n.toNat) with
  | none => rw [hs] at h; cases h
  | some r =>
    rw [hs] at h
    dsimp only at h
    split at h
    · rename_i hc
      simp only [Option.some.injEq] at h
      subst h
      have h1 := (sol_find hp2.1).1 (sSolve_some ha.p (m_findOut_rw ha _) hs)
      exact ⟨h1.ext fun i hi => vecR_lt hi, fun m k hm hk => hc m hm k (by omega)⟩
    · cases h
theorem find_of {a : Alg} (ha : AlgOk a) {u : Nat → Int} (h1 : LU a u) (h2 : RU a u) (hu : Rw a.p u) : ∃ s, findF a = some s ∧ (∀ i, i < a.n.toNat → s i = u i) ∧ ∀ i, a.n.toNat ≤ i → s i = 0 := by
  have hp2 := prime_bd ha.p
  have hn := ha.n
  have hne : findOut a a.n.toNat ≠ [] := fun e => by
    have : findR a 0 0 ∈ findOut a a.n.toNat := mem_findOut.2 ⟨0, 0, by omega, by omega, rfl⟩
    rw [e] at this; cases this
  obtain ⟨s, hs, he⟩ := sSolve_of ha.p (m_findOut_rw ha _) hne ((sol_find hp2.1).2 h1) hu fun v hv hsv => unit_eq hp2.1 hu hv ((sol_find hp2.1).1 hsv) h2
  refine ⟨vecR a.n.toNat s, ?_, fun i hi => by rw [vecR_lt hi]; exact he i hi, fun i hi => by unfold vecR; rw [if_neg (by omega)]⟩
  unfold findF
  rw [hs]
  dsimp only
  rw [if_pos]
  intro i hi k hk
  rcases Nat.lt_or_ge k a.n.toNat with c | c
  · exact (h2.ext (v := vecR a.n.toNat s) fun i hi => by rw [vecR_lt hi]; exact he i hi) i k hi c
  · rw [times_ge (by omega)]
    unfold basV; rw [if_neg (by omega)]
theorem unit_same {a : Alg} (ha : AlgOk a) : ((iFindF a).isSome = true ↔ (findF a).isSome = true) ∧ iUnit a = sUnit a := by
  unfold iUnit sUnit
  cases hi : iFindF a with
  | some u =>
    obtain ⟨h1, h2, h3, h4⟩ := iFind_two ha hi
    obtain ⟨s, hs, e1, e2⟩ := find_of ha h1 h2 h3
    rw [hs]
    refine ⟨⟨fun _ => rfl, fun _ => rfl⟩, funext fun i => ?_⟩
    show u i = s i
    rcases Nat.lt_or_ge i a.n.toNat with c | c
    · exact (e1 i c).symm
    · rw [h4 i c, e2 i c]
  | none =>
    cases hs : findF a with
    | none => exact ⟨Iff.rfl, rfl⟩
    | some s =>
      obtain ⟨h1, h2⟩ := find_two ha hs
      have := iFind_of ha h1 h2
      rw [hi] at this; cases this
end Go.X
