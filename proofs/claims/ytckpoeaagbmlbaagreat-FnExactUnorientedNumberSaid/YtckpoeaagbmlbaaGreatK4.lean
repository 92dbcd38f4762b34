import Derived.Test.YtckpoeaagbmlbaaGreatK3
set_option linter.all false
namespace Go.X
open Go Go.RowKit
def foldV (a : Alg) (x b : Nat → Int) : Nat → Nat → Int
  | 0 => x
  | k + 1 => timesV a (foldV a x b k) b
theorem foldV_rw {a : Alg} (hp : 1 ≤ a.p) {x b : Nat → Int} (hx : Rw a.p x) : ∀ k, Rw a.p (foldV a x b k)
  | 0 => hx
  | _ + 1 => times_rw hp _ _
def iHandle (a : Alg) : Nat → Int := pairR a.p (fun k => (iCop a).getD k Z) a.T a.n.toNat (iCop a).length
def sHandle (a : Alg) : Nat → Int := pairR a.p (sCop a) (fun k l => timesV a (basV k) (basV l)) a.n.toNat a.n.toNat
theorem iHandle_rw {a : Alg} (hp : 1 ≤ a.p) : Rw a.p (iHandle a) := pairR_rw hp _
theorem sHandle_rw {a : Alg} (hp : 1 ≤ a.p) : Rw a.p (sHandle a) := pairR_rw hp _
def C_paired1 (P : Program) (N : FN) : Prop := ∀ {sz : Nat} {l : List (List D)} {e off : Nat} {a : Alg} {g : FuncId} {c : D} {of : Nat → Nat → Nat → Int}, AlgAt l e off a → AlgOk a → (∀ k l, Byts (of k l)) →
  (∀ k l : Nat, k < (iCop a).length → l < a.n.toNat → Can P g [.int .i64 k, .int .i64 l, c] (.val (vecD (of k l)))) → Can P N.impl_Algebra_paired [.pd sz l e off, .fn g [] [c]] (.val (vecD (pairR a.p (fun k => (iCop a).getD k Z) of a.n.toNat (iCop a).length)))
def C_handle1 (P : Program) (N : FN) : Prop := ∀ {sz : Nat} {l : List (List D)} {e off : Nat} {a : Alg} {k j : Nat}, AlgAt l e off a → k < 6 → j < 6 → Can P N.impl_Algebra_handle_1 [.int .i64 k, .int .i64 j, .pd 1 [[.pd sz l e off]] 0 0] (.val (vecD (a.T k j)))
def C_handle (P : Program) (N : FN) : Prop := ∀ {sz : Nat} {l : List (List D)} {e off : Nat} {a : Alg}, AlgAt l e off a → AlgOk a → Can P N.impl_Algebra_handle [.pd sz l e off] (.val (vecD (iHandle a)))
def C_vpower (P : Program) (N : FN) : Prop := ∀ {sz : Nat} {l : List (List D)} {e off : Nat} {a : Alg} {v : Nat → Int} {k : Nat}, AlgAt l e off a → AlgOk a → Byts v → k ≤ 1000 → Can P N.impl_Algebra_power [.pd sz l e off, vecD v, .int .i64 k] (.val (vecD (foldV a (iUnit a) v k)))
def C_isGenus (P : Program) (N : FN) : Prop := ∀ {g : Int}, Can P N.impl_isGenus [.int .i64 g] (.val (.bool (decide (0 ≤ g ∧ g ≤ 30))))
def C_sHandle (P : Program) (N : FN) : Prop := ∀ {a : Alg}, AlgOk a → (∀ j, j < a.n.toNat → (sCol a j).isSome = true) → Can P N.spec_l02Handle [algD a] (.val (vecD (sHandle a)))
def C_sHPower (P : Program) (N : FN) : Prop := ∀ {a : Alg} {g : Nat}, AlgOk a → (∀ j, j < a.n.toNat → (sCol a j).isSome = true) → g ≤ 1000 → Can P N.spec_l02Power [algD a, .int .i64 g] (.val (vecD (foldV a (sUnit a) (sHandle a) g)))
end Go.X
namespace Go.X
open Go Go.RowKit
def FN.impl_UnorientedNumber (N : FN) : FuncId := N.f 139
def FN.spec_UnorientedNumber (N : FN) : FuncId := N.f 140
def FN.laws_FnExactUnorientedNumber (N : FN) : FuncId := N.f 141
def ir_impl_UnorientedNumber (N : FN) : CF := ⟨5, 54, [(.tmp 10), (.tmp 11)], (.seq (.reg false [6, 8] [(rO 5 (.box (.t 0))), (rO 7 (.box (.t 2))), (rO 10 (.mov (.c (.int .i64 0)))), (rO 11 (.mov (.c (.int .i64 0))))]) (.seq (.reg false [17, 18] [(rO 13 (.load (some 224) (.t 5))), (rO 14 (.mov (.t 1))), (rO 15 (.load (some 6) (.t 7))), (rO 16 (.bslice 6 [(.t 15)])), (rO 17 (.call N.impl_stars [(.t 13), (.t 14), (.t 16)])), (rO 12 (.mov (.t 17)))]) (.seq (.block 0 (.seq (.reg false [] [(rO 19 (.mov (.t 12))), (rO 20 (.cmp .eql (.t 19) (.c (.int .i64 1)))), (rO 21 (.mov (.t 20))), ⟨(some 22), 23, (.mov (.t 12)), (some (21, false)), [], none⟩, ⟨(some 23), 24, (.cmp .eql (.t 22) (.c (.int .i64 2))), (some (21, false)), [], none⟩, (rO 24 (.pick (.t 21) (.c (.bool true)) (.t 23))), (rO 18 (.mov (.t 24)))]) (.cond (.t 18) (.seq (.reg false [] [(rO 25 (.mov (.t 12))), (rO 10 (.mov (.c (.int .i64 0)))), (rO 11 (.mov (.t 25)))]) .ret) (.seq (.reg false [29, 33] [(rO 27 (.mov (.t 3))), (rO 28 (.call N.impl_isGenus [(.t 27)])), (rO 29 (.not (.t 28))), (rO 30 (.mov (.t 29))), ⟨(some 31), 32, (.mov (.t 4)), (some (30, false)), [], none⟩, ⟨(some 32), 33, (.call N.impl_isGenus [(.t 31)]), (some (30, false)), [], none⟩, ⟨(some 33), 34, (.not (.t 32)), (some (30, false)), [], none⟩, (rO 34 (.pick (.t 30) (.c (.bool true)) (.t 33))), (rO 26 (.mov (.t 34)))]) (.cond (.t 26) (.seq (.reg false [] [(rO 10 (.mov (.c (.int .i64 0)))), (rO 11 (.mov (.c (.int .i64 2))))]) .ret) (.seq (.reg true [42, 44] [(rO 36 (.mov (.t 12))), (rO 37 (.cmp .neq (.t 36) (.c (.int .i64 0)))), (rO 38 (.mov (.t 37))), ⟨(some 39), 40, (.mov (.t 1)), (some (38, false)), [], none⟩, ⟨(some 40), 41, (.mov (.t 1)), (some (38, false)), [], none⟩, ⟨(some 41), 42, (.call N.impl_Algebra_klein [(.t 5), (.t 40)]), (some (38, false)), [44], none⟩, ⟨(some 42), 43, (.load (some 6) (.t 7)), (some (38, false)), [42, 44], none⟩, ⟨(some 43), 44, (.call N.impl_Algebra_crossCap [(.t 5), (.t 39), (.t 41), (.t 42)]), (some (38, false)), [], none⟩, ⟨(some 44), 45, (.not (.t 43)), (some (38, false)), [], none⟩, (rO 45 (.pick (.t 38) (.c (.bool true)) (.t 44))), (rO 35 (.mov (.t 45)))]) (.cond (.t 35) (.seq (.reg false [] [(rO 10 (.mov (.c (.int .i64 0)))), (rO 11 (.mov (.c (.int .i64 5))))]) .ret) .skip))))))) (.seq (.reg false [49, 50, 52, 53, 54] [(rO 46 (.load (some 6) (.t 7))), (rO 47 (.mov (.t 3))), (rO 48 (.call N.impl_Algebra_power [(.t 5), (.t 46), (.t 47)])), (rO 49 (.call N.impl_Algebra_handle [(.t 5)])), (rO 50 (.mov (.t 4))), (rO 51 (.call N.impl_Algebra_power [(.t 5), (.t 49), (.t 50)])), (rO 52 (.call N.impl_Algebra_times [(.t 5), (.t 48), (.t 51)])), (rO 53 (.call N.impl_Algebra_form [(.t 5), (.t 52)])), (rO 10 (.mov (.t 53))), (rO 11 (.mov (.c (.int .i64 0))))]) .ret))))⟩
def ir_spec_UnorientedNumber (N : FN) : CF := ⟨5, 67, [(.tmp 10), (.tmp 11)], (.seq (.reg false [6, 8] [(rO 5 (.box (.t 0))), (rO 7 (.box (.t 2))), (rO 10 (.mov (.c (.int .i64 0)))), (rO 11 (.mov (.c (.int .i64 0))))]) (.seq (.reg false [18, 19] [(rO 14 (.load (some 224) (.t 5))), (rO 15 (.mov (.t 1))), (rO 16 (.load (some 6) (.t 7))), (rO 17 (.bslice 6 [(.t 16)])), (rO 18 (.call N.spec_l08List [(.t 14), (.t 15), (.t 17)])), (rO 12 (.mov (.t 18)))]) (.seq (.seq (.reg false [24, 28] [(rO 19 (.mov (.t 12))), (rO 20 (.cmp .eql (.t 19) (.c (.int .i64 0)))), (rO 21 (.mov (.t 20))), ⟨(some 22), 23, (.mov (.t 3)), (some (21, true)), [], none⟩, ⟨(some 23), 24, (.call N.spec_l01In [(.t 22), (.c (.int .i64 0)), (.c (.int .i64 30))]), (some (21, true)), [], none⟩, ⟨(some 24), 25, (.not (.t 23)), (some (21, true)), [], none⟩, ⟨(some 25), 26, (.mov (.t 24)), (some (21, true)), [], none⟩, ⟨(some 26), 27, (.mov (.t 4)), (some (25, false)), [], none⟩, ⟨(some 27), 28, (.call N.spec_l01In [(.t 26), (.c (.int .i64 0)), (.c (.int .i64 30))]), (some (25, false)), [], none⟩, ⟨(some 28), 29, (.not (.t 27)), (some (25, false)), [], none⟩, ⟨(some 29), 30, (.pick (.t 25) (.c (.bool true)) (.t 28)), (some (21, true)), [], none⟩, (rO 30 (.pick (.t 21) (.t 29) (.c (.bool false))))]) (.cond (.t 30) (.reg false [] [(rO 12 (.mov (.c (.int .i64 2))))]) .skip)) (.seq (.seq (.reg false [] [(rO 31 (.mov (.t 12))), (rO 32 (.cmp .eql (.t 31) (.c (.int .i64 0))))]) (.cond (.t 32) (.reg false [37, 38] [(rO 33 (.load (some 224) (.t 5))), (rO 34 (.mov (.t 1))), (rO 35 (.load (some 6) (.t 7))), (rO 36 (.bslice 6 [(.t 35)])), (rO 37 (.call N.spec_l08Code [(.t 33), (.t 34), (.t 36)])), (rO 12 (.mov (.t 37)))]) .skip)) (.seq (.seq (.reg true [47, 48] [(rO 38 (.mov (.t 12))), (rO 39 (.cmp .eql (.t 38) (.c (.int .i64 0)))), (rO 40 (.mov (.t 39))), ⟨(some 41), 42, (.load (some 224) (.t 5)), (some (40, true)), [47, 48], none⟩, ⟨(some 42), 43, (.mov (.t 1)), (some (40, true)), [], none⟩, ⟨(some 43), 44, (.load (some 6) (.t 7)), (some (40, true)), [47, 48], none⟩, ⟨(some 44), 45, (.load (some 224) (.t 5)), (some (40, true)), [47, 48], none⟩, ⟨(some 45), 46, (.mov (.t 1)), (some (40, true)), [], none⟩, ⟨(some 46), 47, (.call N.spec_l08Klein [(.t 44), (.t 45)]), (some (40, true)), [48], none⟩, ⟨(some 47), 48, (.call N.spec_l08CrossCap [(.t 41), (.t 42), (.t 43), (.t 46)]), (some (40, true)), [], none⟩, ⟨(some 48), 49, (.not (.t 47)), (some (40, true)), [], none⟩, (rO 49 (.pick (.t 40) (.t 48) (.c (.bool false))))]) (.cond (.t 49) (.reg false [] [(rO 12 (.mov (.c (.int .i64 5))))]) .skip)) (.seq (.seq (.reg false [] [(rO 50 (.mov (.t 12))), (rO 51 (.cmp .neq (.t 50) (.c (.int .i64 0))))]) (.cond (.t 51) (.seq (.reg false [] [(rO 52 (.mov (.t 12))), (rO 10 (.mov (.c (.int .i64 0)))), (rO 11 (.mov (.t 52)))]) .ret) .skip)) (.seq (.reg false [56, 14] [(rO 53 (.load (some 224) (.t 5))), (rO 54 (.mov (.t 4))), (rO 55 (.call N.spec_l02Power [(.t 53), (.t 54)])), (rO 13 (.alloc [(.int .u8 0), (.int .u8 0), (.int .u8 0), (.int .u8 0), (.int .u8 0), (.int .u8 0)])), ⟨none, 72, (.store (some 6) (.t 13) (.t 55)), none, [], none⟩]) (.seq (.block 0 (.loop (.seq (.seq (.reg false [] [(rO 56 (.mov (.t 3))), (rO 57 (.cmp .gtr (.t 56) (.c (.int .i64 0))))]) (.cond (.t 57) .skip (.exit 0))) (.seq (.block 1 (.reg false [64] [(rO 60 (.load (some 224) (.t 5))), (rO 61 (.load (some 6) (.t 13))), (rO 62 (.load (some 6) (.t 7))), (rO 63 (.call N.spec_l01Times [(.t 60), (.t 61), (.t 62)])), ⟨none, 72, (.store (some 6) (.t 13) (.t 63)), none, [], none⟩])) (.reg false [] [(rO 58 (.mov (.t 3))), (rO 59 (.arith .sub (.t 58) (.c (.int .i64 1)))), (rO 3 (.mov (.t 59)))]))))) (.seq (.reg false [67] [(rO 64 (.load (some 224) (.t 5))), (rO 65 (.load (some 6) (.t 13))), (rO 66 (.call N.spec_l01Form [(.t 64), (.t 65)])), (rO 10 (.mov (.t 66))), (rO 11 (.mov (.c (.int .i64 0))))]) .ret)))))))))⟩
def ir_laws_FnExactUnorientedNumber (N : FN) : CF := ⟨5, 60, [(.tmp 10)], (.seq (.reg false [6, 8] [(rO 5 (.box (.t 0))), (rO 7 (.box (.t 2))), (rO 10 (.mov (.c (.bool false))))]) (.seq (.reg false [] [(rO 11 (.mov (.c (.int .i64 1048576))))]) (.seq (.reg false [20] [(rO 17 (.mov (.t 1))), (rO 18 (.mov (.t 11))), (rO 19 (.call N.laws_szVectorS [(.t 17), (.t 18)])), (rO 11 (.mov (.t 19)))]) (.seq (.seq (.reg false [] [(rO 20 (.mov (.t 11))), (rO 21 (.cmp .lss (.t 20) (.c (.int .i64 0))))]) (.cond (.t 21) (.seq (.reg false [] [(rO 10 (.mov (.c (.bool true))))]) .ret) .skip)) (.seq (.reg true [25, 27, 29, 32] [⟨(some 23), 24, (.load (some 224) (.t 5)), none, [25, 27, 29, 32], none⟩, ⟨(some 24), 25, (.call N.laws_toAlgebra [(.t 23)]), none, [27, 29, 32], none⟩, (rO 25 (.mov (.t 1))), ⟨(some 26), 27, (.call N.laws_toVectorS [(.t 25)]), none, [29, 32], none⟩, ⟨(some 27), 28, (.load (some 6) (.t 7)), none, [25, 27, 29, 32], none⟩, ⟨(some 28), 29, (.call N.laws_toVector [(.t 27)]), none, [32], none⟩, (rO 29 (.mov (.t 3))), (rO 30 (.mov (.t 4))), (rO 31 (.call N.spec_UnorientedNumber [(.t 24), (.t 26), (.t 28), (.t 29), (.t 30)])), (rO 22 (.mov (.t 31))), (rO 32 (.extract (.t 22) 0)), (rO 33 (.extract (.t 22) 1)), (rO 12 (.mov (.t 32))), (rO 13 (.mov (.t 33)))]) (.seq (.reg false [36] [(rO 34 (.mov (.t 1))), (rO 35 (.call N.laws_toVectorS [(.t 34)])), (rO 14 (.mov (.t 35)))]) (.seq (.reg true [39, 42, 45] [⟨(some 37), 38, (.load (some 224) (.t 5)), none, [39, 42, 45], none⟩, ⟨(some 38), 39, (.call N.laws_toAlgebra [(.t 37)]), none, [42, 45], none⟩, (rO 39 (.mov (.t 14))), ⟨(some 40), 41, (.load (some 6) (.t 7)), none, [39, 42, 45], none⟩, ⟨(some 41), 42, (.call N.laws_toVector [(.t 40)]), none, [45], none⟩, (rO 42 (.mov (.t 3))), (rO 43 (.mov (.t 4))), (rO 44 (.call N.impl_UnorientedNumber [(.t 38), (.t 39), (.t 41), (.t 42), (.t 43)])), (rO 36 (.mov (.t 44))), (rO 45 (.extract (.t 36) 0)), (rO 46 (.extract (.t 36) 1)), (rO 15 (.mov (.t 45))), (rO 16 (.mov (.t 46)))]) (.seq (.seq (.reg false [] [(rO 47 (.mov (.t 15))), (rO 48 (.mov (.t 12))), (rO 49 (.cmp .neq (.t 47) (.t 48))), (rO 50 (.mov (.t 49))), ⟨(some 51), 52, (.mov (.t 16)), (some (50, false)), [], none⟩, ⟨(some 52), 53, (.mov (.t 13)), (some (50, false)), [], none⟩, ⟨(some 53), 54, (.cmp .neq (.t 51) (.t 52)), (some (50, false)), [], none⟩, (rO 54 (.pick (.t 50) (.c (.bool true)) (.t 53)))]) (.cond (.t 54) (.seq (.reg false [] [(rO 10 (.mov (.c (.bool false))))]) .ret) .skip)) (.seq (.seq (.reg false [58, 59] [(rO 55 (.mov (.t 14))), (rO 56 (.mov (.t 1))), (rO 57 (.call N.laws_toVectorS [(.t 56)])), (rO 58 (.call N.laws_eqVectorS [(.t 55), (.t 57)])), (rO 59 (.not (.t 58)))]) (.cond (.t 59) (.seq (.reg false [] [(rO 10 (.mov (.c (.bool false))))]) .ret) .skip)) (.seq (.reg false [] [(rO 10 (.mov (.c (.bool true))))]) .ret))))))))))⟩
end Go.X
namespace Go.X
open Go Go.RowKit
def LinF (p : Int) (n : Nat) (F : (Nat → Int) → Int) : Prop := ∀ v, F v % p = sumN n (fun i => v i * F (basV i)) % p
theorem LinF.ext {p : Int} {n : Nat} {F G : (Nat → Int) → Int} (hF : LinF p n F) (hG : LinF p n G) (h : ∀ i, i < n → F (basV i) % p = G (basV i) % p) (v : Nat → Int) : F v % p = G v % p := by
  rw [hF v, hG v]
  exact sumN_mod fun i hi => cg_mul rfl (h i hi)
theorem LinF.comp {p : Int} {n m : Nat} {F : (Nat → Int) → Int} {G : (Nat → Int) → Nat → Int} (hF : LinF p m F) (hG : ∀ k, k < m → LinF p n fun v => G v k) : LinF p n fun v => F (G v) := fun v => by
  show F (G v) % p = _
  rw [hF (G v)]
  have e1 : sumN m (fun k => G v k * F (basV k)) % p = sumN m (fun k => sumN n (fun i => v i * (G (basV i) k * F (basV k)))) % p := sumN_mod fun k hk => by
    rw [cg_mul (hG k hk v) rfl, Int.mul_comm, ← sumN_mul]
    congr 1
    exact sumN_ext fun i _ => by rw [Int.mul_comm, Int.mul_assoc]
  rw [e1, sumN_comm]
  refine sumN_mod fun i _ => ?_
  rw [sumN_mul]
  exact cg_mul rfl (hF (G (basV i))).symm
theorem lin_l {a : Alg} {w : Nat → Int} (q : Nat) : LinF a.p a.n.toNat fun v => timesV a v w q := fun v => by
  show timesV a v w q % a.p = _
  by_cases hq : q < a.n.toNat
  · rw [times_lt hq, cg_mod]
    unfold tsum
    refine sumN_mod fun i hi => ?_
    show sumN a.n.toNat (fun j => v i * w j * a.T i j q) % a.p = v i * timesV a (basV i) w q % a.p
    rw [times_r hi hq, cg_mul rfl (cg_mod a.p _)]
    congr 1
    unfold dot
    rw [← sumN_mul]
    exact sumN_ext fun j _ => by rw [Int.mul_assoc, Int.mul_comm (w j)]
  · rw [times_ge (by omega), sumN_zero fun i _ => by show v i * timesV a (basV i) w q = 0; rw [times_ge (by omega), Int.mul_zero]]
theorem lin_r {a : Alg} {v : Nat → Int} (q : Nat) : LinF a.p a.n.toNat fun w => timesV a v w q := fun w => by
  show timesV a v w q % a.p = _
  by_cases hq : q < a.n.toNat
  · rw [times_lt hq, cg_mod]
    unfold tsum
    rw [sumN_comm]
    refine sumN_mod fun j hj => ?_
    show sumN a.n.toNat (fun i => v i * w j * a.T i j q) % a.p = w j * timesV a v (basV j) q % a.p
    rw [times_l hj hq, cg_mul rfl (cg_mod a.p _)]
    congr 1
    unfold dot
    rw [← sumN_mul]
    exact sumN_ext fun i _ => by rw [Int.mul_comm (v i), Int.mul_assoc, Int.mul_comm (v i)]
  · rw [times_ge (by omega), sumN_zero fun i _ => by show w i * timesV a v (basV i) q = 0; rw [times_ge (by omega), Int.mul_zero]]
theorem lin_id {p : Int} {n q : Nat} (hq : q < n) : LinF p n fun v => v q := fun v => by
  show v q % p = _
  congr 1
  rw [sumN_one' (i := q) hq fun k _ hne => by
    show v k * (if q = k then 1 else 0) = 0
    rw [if_neg (fun h => hne h.symm), Int.mul_zero]]
  show v q = v q * (if q = q then 1 else 0)
  rw [if_pos rfl, Int.mul_one]
theorem bas_times2 {a : Alg} (ha : AlgOk a) {i j : Nat} (hi : i < a.n.toNat) (hj : j < a.n.toNat) : timesV a (basV i) (basV j) = a.T i j := funext fun k => bas_times ha (by omega) (by omega) k
theorem times_assoc {a : Alg} (ha : AlgOk a) (hs : AssocP a) (u v w : Nat → Int) : timesV a (timesV a u v) w = timesV a u (timesV a v w) := by
  have hp2 := prime_bd ha.p
  funext q
  rw [← rw_mod (times_rw (a := a) (by omega) (timesV a u v) w) q, ← rw_mod (times_rw (a := a) (by omega) u (timesV a v w)) q]
  by_cases hq : q < a.n.toNat
  · refine LinF.ext (F := fun u => timesV a (timesV a u v) w q) (G := fun u => timesV a u (timesV a v w) q) (LinF.comp (F := fun x => timesV a x w q) (G := fun u => timesV a u v) (lin_l q) fun k _ => lin_l k) (lin_l q) (fun i hi => ?_) u
    refine LinF.ext (F := fun v => timesV a (timesV a (basV i) v) w q) (G := fun v => timesV a (basV i) (timesV a v w) q) (LinF.comp (F := fun x => timesV a x w q) (G := fun v => timesV a (basV i) v) (lin_l q) fun k _ => lin_r k)
      (LinF.comp (F := fun x => timesV a (basV i) x q) (G := fun v => timesV a v w) (lin_r q) fun k _ => lin_l k) (fun j hj => ?_) v
    refine LinF.ext (F := fun w => timesV a (timesV a (basV i) (basV j)) w q) (G := fun w => timesV a (basV i) (timesV a (basV j) w) q) (lin_r q)
      (LinF.comp (F := fun x => timesV a (basV i) x q) (G := fun w => timesV a (basV j) w) (lin_r q) fun k _ => lin_r k) (fun k hk => ?_) w
    show timesV a (timesV a (basV i) (basV j)) (basV k) q % a.p = timesV a (basV i) (timesV a (basV j) (basV k)) q % a.p
    rw [bas_times2 ha hi hj, bas_times2 ha hj hk]
    have hn := ha.n
    rw [hs i j k (by omega) (by omega) (by omega) q (by omega)]
  · rw [times_ge (by omega), times_ge (by omega)]
theorem times_ur {a : Alg} (hp : 1 ≤ a.p) {u x : Nat → Int} (hu : RU a u) (hx : Rw a.p x) (hz : ∀ i, a.n.toNat ≤ i → x i = 0) : timesV a x u = x := by
  funext q
  by_cases hq : q < a.n.toNat
  · rw [← rw_mod (times_rw (a := a) hp x u) q, ← rw_mod hx q]
    refine LinF.ext (F := fun x => timesV a x u q) (G := fun x => x q) (lin_l q) (lin_id hq) (fun i hi => ?_) x
    show timesV a (basV i) u q % a.p = _
    rw [hu i q hi hq]
  · rw [times_ge (by omega), hz q (by omega)]
end Go.X
namespace Go.X
open Go Go.RowKit
theorem VEq.rfl' {v : Nat → Int} : VEq v v := fun _ _ => rfl
theorem shape_iff {a : Alg} : ShapeP a ↔ a.p ∈ primes ∧ (1 ≤ a.n ∧ a.n ≤ 6) ∧ TabP a := by
  unfold ShapeP TabP
  constructor
  · rintro ⟨h1, h2, h3, h4⟩
    refine ⟨h1, h2, fun i j hi hj => ⟨fun k hk => ?_, fun hz k hk => ?_⟩, h3⟩
    · have := h4 i j hi hj k hk
      refine ⟨this.1, fun hn => this.2 ?_⟩
      split <;> omega
    · have := h4 i j hi hj k hk
      rw [if_pos hz] at this
      exact this.2 (by omega)
  · rintro ⟨h1, h2, h3, h4⟩
    refine ⟨h1, h2, h4, fun i j hi hj k hk => ?_⟩
    obtain ⟨g1, g2⟩ := h3 i j hi hj
    refine ⟨(g1 k hk).1, fun hn => ?_⟩
    by_cases c : a.n ≤ (i : Int) ∨ a.n ≤ (j : Int)
    · exact g2 c k hk
    · rw [if_neg c] at hn
      exact (g1 k hk).2 hn
theorem alg_iff {a : Alg} (h : AlgIn a) : IsAlgP a ↔ sAlgP a := by
  unfold IsAlgP sAlgP
  rw [shape_iff]
  constructor
  · rintro ⟨h1, h2, h3, h4, h5⟩
    exact ⟨⟨h1, h2, h3⟩, h4, (unit_same (h.ok h1 h2 h3)).1.1 h5⟩
  · rintro ⟨⟨h1, h2, h3⟩, h4, h5⟩
    exact ⟨h1, h2, h3, h4, (unit_same (h.ok h1 h2 h3)).1.2 h5⟩
theorem comm_iff {a : Alg} (ha : AlgOk a) : CommP a ↔ sCommP a := by
  have hn := ha.n
  constructor
  · intro h i hi j hj
    by_cases c : (i : Int) < a.n
    · exact h i j c hj
    · intro k hk
      rw [ha.z i j k (by omega), ha.z j i k (by omega)]
  · intro h i j hi hj
    exact h i (by omega) j hj
theorem frob_iff {a : Alg} (ha : AlgOk a) : FrobP a ↔ sFrobP a := by
  have hn := ha.n
  have := rank_eq (m := a.n.toNat) ha.p (tabL_rw ha a.n.toNat)
  unfold FrobP sFrobP
  omega
theorem dot_split {m n : Nat} {r z : Row} : dot (m + n) r z = dot m r z + sumN n fun i => r (m + i) * z (m + i) := by
  unfold dot
  induction n with
  | zero => simp [sumN]
  | succ n ih =>
    rw [← Nat.add_assoc]
    simp only [sumN]
    rw [ih]; omega
def two (n : Nat) (u v : Row) : Row := fun i => if i < n then u i else v (i - n)
theorem dot_two {n : Nat} {r u v : Row} : dot (n + n) r (two n u v) = dot n r u + dot n (fun i => r (n + i)) v := by
  rw [dot_split]
  congr 1
  · exact sumN_ext fun i hi => by unfold two; rw [if_pos hi]
  · refine sumN_ext fun i hi => ?_
    unfold two; rw [if_neg (by omega), show n + i - n = i by omega]
theorem aug_dot {a : Alg} {i : Nat} (hi : i < a.n.toNat) {u v : Row} : dot (a.n.toNat + a.n.toNat) (augR a i) (two a.n.toNat u v) = dot a.n.toNat (tabR a i) u + v i := by
  rw [dot_two]
  congr 1
  · exact sumN_ext fun j hj => by unfold augR; rw [if_pos hj]
  · unfold dot
    rw [sumN_one' (i := i) hi fun k hk hne => ?_]
    · have : augR a i (a.n.toNat + i) = 1 := by
        unfold augR
        rw [if_neg (by omega), show a.n.toNat + i - a.n.toNat = i by omega, if_pos rfl]
      show augR a i (a.n.toNat + i) * v i = v i
      rw [this, Int.one_mul]
    · have : augR a i (a.n.toNat + k) = 0 := by
        unfold augR
        rw [if_neg (by omega), show a.n.toNat + k - a.n.toNat = k by omega, if_neg hne]
      show augR a i (a.n.toNat + k) * v k = 0
      rw [this, Int.zero_mul]
theorem ker_aug {a : Alg} {u v : Row} : Ker a.p (a.n.toNat + a.n.toNat) (augL a) (two a.n.toNat u v) ↔ ∀ i, i < a.n.toNat → (dot a.n.toNat (tabR a i) u + v i) % a.p = 0 := by
  unfold Ker augL arr
  constructor
  · intro h i hi
    rw [← aug_dot hi]
    exact h _ (List.mem_map.2 ⟨i, by simpa using hi, rfl⟩)
  · intro h r hr
    obtain ⟨i, hi, rfl⟩ := List.mem_map.1 hr
    rw [aug_dot (by simpa using hi)]
    exact h i (by simpa using hi)
theorem ker_tab {a : Alg} {u : Row} : Ker a.p a.n.toNat (tabL a a.n.toNat) u ↔ ∀ i, i < a.n.toNat → dot a.n.toNat (tabR a i) u % a.p = 0 := by
  unfold Ker tabL arr
  constructor
  · intro h i hi
    exact h _ (List.mem_map.2 ⟨i, by simpa using hi, rfl⟩)
  · intro h r hr
    obtain ⟨i, hi, rfl⟩ := List.mem_map.1 hr
    exact h i (by simpa using hi)
theorem cop_rr {a : Alg} (ha : AlgOk a) (hf : sFrobP a) : (redF a.p (a.n.toNat + a.n.toNat) (augL a)).length = a.n.toNat ∧ ∀ ld, RR a.p (a.n.toNat + a.n.toNat) (redF a.p (a.n.toNat + a.n.toNat) (augL a)) ld → ∀ i, i < a.n.toNat → ld i = i := by
  have hp2 := prime_bd ha.p
  have hn := ha.n
  have hle : (redF a.p (a.n.toNat + a.n.toNat) (augL a)).length ≤ a.n.toNat := by
    have := (redN_inv (p := a.p) (rows := augL a) (by omega) (augL_rw ha) (a.n.toNat + a.n.toNat)).2.2
    have e : (augL a).length = a.n.toNat := arr_len ..
    unfold redF; omega
  have hkz := kerZ_ech (m := a.n.toNat) ha.p (tabL_rw ha a.n.toNat) (by unfold sFrobP at hf; omega)
  have key : ∀ ld, RR a.p (a.n.toNat + a.n.toNat) (redF a.p (a.n.toNat + a.n.toNat) (augL a)) ld → ∀ c, c < a.n.toNat → ∃ i, i < (redF a.p (a.n.toNat + a.n.toNat) (augL a)).length ∧ ld i = c := by
    intro ld rr c hc
    apply Classical.byContradiction
    intro hno
    have hne : ∀ i, i < (redF a.p (a.n.toNat + a.n.toNat) (augL a)).length → ld i ≠ c := fun i hi e => hno ⟨i, hi, e⟩
    have hk := (redF_ker ha.p (augL_rw ha)).1 (kv_ker rr (by omega) hne)
    have hz : ∀ j, a.n.toNat ≤ j → j < a.n.toNat + a.n.toNat → kv a.p (redF a.p (a.n.toNat + a.n.toNat) (augL a)) ld c j = 0 := fun j hj hj2 => by
      by_cases e : ∃ i, i < (redF a.p (a.n.toNat + a.n.toNat) (augL a)).length ∧ ld i = j
      · obtain ⟨i, hi, rfl⟩ := e
        rw [kv_ld rr hi (hne i hi), (rr.lead i hi).2.2 c (by omega)]; simp
      · exact kv_no (by omega) (fun i hi e' => e ⟨i, hi, e'⟩)
    have hkt : Ker a.p a.n.toNat (tabL a a.n.toNat) (kv a.p (redF a.p (a.n.toNat + a.n.toNat) (augL a)) ld c) := ker_tab.2 fun i hi => by
      have h1 := hk (augR a i) (by unfold augL arr; exact List.mem_map.2 ⟨i, by simpa using hi, rfl⟩)
      rw [dot_split, sumN_zero fun k hk => by rw [hz _ (by omega) (by omega), Int.mul_zero], Int.add_zero] at h1
      rw [← h1]
      congr 1
      exact sumN_ext fun j hj => by unfold augR; rw [if_pos hj]
    have := hkz _ (kv_rw hp2.1) hkt c hc
    rw [kv_c] at this; omega
  have fin : ∀ ld, RR a.p (a.n.toNat + a.n.toNat) (redF a.p (a.n.toNat + a.n.toNat) (augL a)) ld → (redF a.p (a.n.toNat + a.n.toNat) (augL a)).length = a.n.toNat ∧ ∀ i, i < a.n.toNat → ld i = i := by
    intro ld rr
    have kk := key ld rr
    have hge : ∀ c, c < a.n.toNat → ∃ i, i < (redF a.p (a.n.toNat + a.n.toNat) (augL a)).length ∧ ld i = c ∧ c ≤ i := by
      intro c
      induction c with
      | zero => intro hc; obtain ⟨i, hi, e⟩ := kk 0 hc; exact ⟨i, hi, e, by omega⟩
      | succ c ih =>
        intro hc
        obtain ⟨i, hi, e, hle⟩ := ih (by omega)
        obtain ⟨i', hi', e'⟩ := kk (c + 1) hc
        refine ⟨i', hi', e', ?_⟩
        rcases Nat.lt_trichotomy i i' with t | t | t
        · omega
        · subst t; omega
        · have := rr.sort i' i t hi; omega
    have hlen : (redF a.p (a.n.toNat + a.n.toNat) (augL a)).length = a.n.toNat := by
      obtain ⟨i, hi, _, hle⟩ := hge (a.n.toNat - 1) (by omega); omega
    refine ⟨hlen, fun i hi => ?_⟩
    obtain ⟨i', hi', e', hle'⟩ := hge i hi
    have h1 := rr.ld_ge i (by omega)
    rcases Nat.lt_trichotomy i i' with t | t | t
    · have := rr.sort i i' t hi'; omega
    · subst t; exact e'
    · omega
  obtain ⟨ld, rr⟩ := redF_rr (m := a.n.toNat + a.n.toNat) ha.p (augL_rw ha)
  exact ⟨(fin ld rr).1, fun ld rr => (fin ld rr).2⟩
def copB (a : Alg) (k j : Nat) : Int := (redF a.p (a.n.toNat + a.n.toNat) (augL a)).getD k Z (a.n.toNat + j)
theorem cop_dot {a : Alg} (ha : AlgOk a) (hf : sFrobP a) {k : Nat} (hk : k < a.n.toNat) {u v : Row} : dot (a.n.toNat + a.n.toNat) ((redF a.p (a.n.toNat + a.n.toNat) (augL a)).getD k Z) (two a.n.toNat u v) = u k + dot a.n.toNat (copB a k) v := by
  obtain ⟨hl, hld⟩ := cop_rr ha hf
  obtain ⟨ld, rr⟩ := redF_rr (m := a.n.toNat + a.n.toNat) ha.p (augL_rw ha)
  have hld := hld ld rr
  rw [dot_two]
  congr 1
  unfold dot
  rw [sumN_one' (i := k) hk fun i hi hne => ?_]
  · have := (rr.lead k (by omega)).2.1
    rw [hld k hk] at this
    rw [this, Int.one_mul]
  · have := rr.zero i k (by omega) (by omega) hne
    rw [hld i hi] at this
    rw [this, Int.zero_mul]
def neg1 (j : Nat) : Row := fun i => if i = j then -1 else 0
theorem dot_neg1 {n : Nat} {r : Row} {j : Nat} (hj : j < n) : dot n r (neg1 j) = -(r j) := by
  unfold dot
  rw [sumN_one' (i := j) hj fun k _ hne => by unfold neg1; rw [if_neg hne, Int.mul_zero]]
  unfold neg1; rw [if_pos rfl]; omega
theorem sAug_rw {a : Alg} (ha : AlgOk a) (j : Nat) : RwL a.p (arr a.n.toNat (sAug a j)) := fun r hr => by
  have hp2 := prime_bd ha.p
  simp only [arr, List.mem_map] at hr
  obtain ⟨i', _, rfl⟩ := hr
  intro q
  unfold sAug
  split
  · exact tabR_rw ha i' q
  · split <;> omega
theorem sol_col {a : Alg} {j : Nat} {v : Row} : Sol a.p a.n.toNat (arr a.n.toNat (sAug a j)) v ↔ ∀ i, i < a.n.toNat → (dot a.n.toNat (tabR a i) v + neg1 j i) % a.p = 0 := by
  have key : ∀ i, (dot a.n.toNat (sAug a j i) v % a.p = sAug a j i a.n.toNat % a.p ↔ (dot a.n.toNat (tabR a i) v + neg1 j i) % a.p = 0) := fun i => by
    have e1 : dot a.n.toNat (sAug a j i) v = dot a.n.toNat (tabR a i) v := sumN_ext fun q hq => by unfold sAug; rw [if_pos hq]
    have e2 : sAug a j i a.n.toNat = -(neg1 j i) := by
      unfold sAug neg1
      rw [if_neg (Nat.lt_irrefl _)]
      split <;> rfl
    rw [e1, e2, Int.emod_eq_emod_iff_emod_sub_eq_zero, Int.sub_neg]
  rw [sol_iff]
  constructor
  · intro h i hi
    exact (key i).1 (h _ (by unfold arr; exact List.mem_map.2 ⟨i, by simpa using hi, rfl⟩))
  · intro h r hr
    unfold arr at hr
    obtain ⟨i, hi, rfl⟩ := List.mem_map.1 hr
    exact (key i).2 (h i (by simpa using hi))
theorem copB_rw {a : Alg} (ha : AlgOk a) (k : Nat) : Rw a.p (copB a k) := fun j => by
  have hp2 := prime_bd ha.p
  obtain ⟨ld, rr⟩ := redF_rr (m := a.n.toNat + a.n.toNat) ha.p (augL_rw ha)
  exact rr.rw.get (by omega) k _
theorem col_eq {a : Alg} (ha : AlgOk a) (hf : sFrobP a) {j : Nat} (hj : j < a.n.toNat) : ∃ s, sCol a j = some s ∧ ∀ i, i < a.n.toNat → s i = copB a i j := by
  have hp2 := prime_bd ha.p
  have hn := ha.n
  obtain ⟨hl, _⟩ := cop_rr ha hf
  have hkz := kerZ_ech (m := a.n.toNat) ha.p (tabL_rw ha a.n.toNat) (by unfold sFrobP at hf; omega)
  have h1 : Sol a.p a.n.toNat (arr a.n.toNat (sAug a j)) (fun i => copB a i j) := sol_col.2 <| ker_aug.1 <| (redF_ker ha.p (augL_rw ha)).1 fun r hr => by
    obtain ⟨k, hk, rfl⟩ := mem_getD hr
    rw [cop_dot ha hf (by omega), dot_neg1 hj, Int.add_right_neg]; simp
  have hne : arr a.n.toNat (sAug a j) ≠ [] := fun e => by
    have := congrArg List.length e
    rw [arr_len] at this
    simp at this; omega
  refine sSolve_of ha.p (sAug_rw ha j) hne h1 (fun i => copB_rw ha i j) fun v hv hs i hi => ?_
  have h2 := sol_col.1 hs
  have h3 := sol_col.1 h1
  have hk : Ker a.p a.n.toNat (tabL a a.n.toNat) (fun i => (v i - copB a i j) % a.p) := ker_tab.2 fun i hi => by
    have e : dot a.n.toNat (tabR a i) (fun i => (v i - copB a i j) % a.p) % a.p = dot a.n.toNat (tabR a i) (fun i => v i - copB a i j) % a.p := dot_mod fun i _ => cg_mod _ _
    rw [e, dot_sub]
    have e0 : (0 : Int) % a.p = 0 := by simp
    have h2' : (dot a.n.toNat (tabR a i) v + neg1 j i) % a.p = 0 % a.p := by rw [h2 i hi, e0]
    have h3' : (dot a.n.toNat (tabR a i) (fun i => copB a i j) + neg1 j i) % a.p = 0 % a.p := by rw [h3 i hi, e0]
    have := cg_sub h2' h3'
    rw [show dot a.n.toNat (tabR a i) v - dot a.n.toNat (tabR a i) (fun i => copB a i j) = dot a.n.toNat (tabR a i) v + neg1 j i - (dot a.n.toNat (tabR a i) (fun i => copB a i j) + neg1 j i) by omega, this]
    simp
  have h4 := hkz _ (fun i => mod_bd _ (by omega)) hk i hi
  have h5 := (Int.emod_eq_emod_iff_emod_sub_eq_zero (m := v i) (n := a.p) (k := copB a i j)).2 h4
  rw [rw_mod hv, rw_mod (copB_rw ha i)] at h5
  exact h5
theorem sCol_some {a : Alg} (ha : AlgOk a) (hf : sFrobP a) : ∀ j, j < a.n.toNat → (sCol a j).isSome = true := fun j hj => by
  obtain ⟨s, hs, _⟩ := col_eq ha hf hj
  rw [hs]; rfl
theorem iCop_len2 {a : Alg} (ha : AlgOk a) (hf : sFrobP a) : (iCop a).length = a.n.toNat := by
  unfold iCop
  rw [List.length_map]
  exact (cop_rr ha hf).1
theorem cop_same {a : Alg} (ha : AlgOk a) (hf : sFrobP a) {k l : Nat} (hk : k < a.n.toNat) (hl : l < a.n.toNat) : (iCop a).getD k Z l = sCop a k l := by
  obtain ⟨s, hs, he⟩ := col_eq ha hf hl
  have hlen := (cop_rr ha hf).1
  unfold sCop
  rw [hs]
  show _ = s k
  rw [he k hk]
  unfold iCop
  rw [getD_map (by omega)]; rfl
theorem pairC_ext {p : Int} {B C : Nat → Row} {of : Nat → Nat → Nat → Int} {k : Nat} : ∀ {acc : Nat → Int} (l : Nat), (∀ j, j < l → B k j = C k j) → pairC p B of acc k l = pairC p C of acc k l
  | _, 0, _ => rfl
  | acc, l + 1, h => by
    unfold pairC
    rw [pairC_ext l (fun j hj => h j (by omega)), h l (by omega)]
theorem pairR_ext {p : Int} {B C : Nat → Row} {of : Nat → Nat → Nat → Int} {n : Nat} : ∀ k, (∀ i j, i < k → j < n → B i j = C i j) → pairR p B of n k = pairR p C of n k
  | 0, _ => rfl
  | k + 1, h => by
    unfold pairR
    rw [pairR_ext k (fun i j hi hj => h i j (by omega) hj), pairC_ext n (fun j hj => h k j (by omega) hj)]
end Go.X
