import Derived.Test.YtckpoeaagbmlbaaGreatM1
import Derived.Test.YtckpoeaagbmlbaaGreatM2
set_option linter.all false
namespace Go.X
open Go Go.RowKit
end Go.X
namespace Go.X
open Go Go.RowKit
def ir2_spec_l02Copairing (N : FN) : CF := ⟨1, 76, [(.tmp 2)], (.seq (.reg false [2] [(rO 1 (.box (.t 0))), (rO 2 (.mov (.c .emp)))]) (.seq (.reg false [] [(rO 14 (.faddr 1 (.t 1))), (rO 15 (.load none (.t 14))), (rO 3 (.mov (.t 15)))]) (.seq (.ga (.put [5]) (.ga (.dead [16]) (.ga (.ren [4]) (.reg false [17] [(rO 16 (.bslice 1 [])), (rO 4 (.mov (.t 16)))])))) (.seq (.seq (.reg false [] [(rO 5 (.mov (.c (.int .i64 0))))]) (.block 0 (.loop (.seq (.seq (.reg false [] [(rO 17 (.mov (.t 5))), (rO 18 (.mov (.t 3))), (rO 19 (.cmp .lss (.t 17) (.t 18)))]) (.cond (.t 19) .skip (.exit 0))) (.seq (.block 1 (.ga (.put [5]) (.ga (.dead [26]) (.ga (.ren [4]) (.reg false [25, 26, 27] [(rO 22 (.mov (.t 4))), (rO 23 (.mov (.t 3))), (rO 24 (.mkrow 1 8 [(.int .i64 0)] (.t 23))), (rO 25 (.bslice 1 [(.t 24)])), (rO 26 (.app 1 24 (.t 22) (.t 25))), (rO 4 (.mov (.t 26)))]))))) (.reg false [] [(rO 20 (.mov (.t 5))), (rO 21 (.arith .add (.t 20) (.c (.int .i64 1)))), (rO 5 (.mov (.t 21)))])))))) (.seq (.seq (.reg false [] [(rO 6 (.mov (.c (.int .i64 0))))]) (.block 2 (.loop (.seq (.seq (.reg false [] [(rO 27 (.mov (.t 6))), (rO 28 (.mov (.t 3))), (rO 29 (.cmp .lss (.t 27) (.t 28)))]) (.cond (.t 29) .skip (.exit 2))) (.seq (.block 3 (.seq (.ga (.dead [33]) (.ga (.ren [7]) (.reg false [34] [(rO 32 (.load (some 224) (.t 1))), (rO 33 (.call N.spec_l02Table [(.t 32)])), (rO 7 (.mov (.t 33)))]))) (.seq (.seq (.reg false [] [(rO 8 (.mov (.c (.int .i64 0))))]) (.block 4 (.loop (.seq (.seq (.reg false [] [(rO 34 (.mov (.t 8))), (rO 35 (.mov (.t 3))), (rO 36 (.cmp .lss (.t 34) (.t 35)))]) (.cond (.t 36) .skip (.exit 4))) (.seq (.block 5 (.seq (.reg false [] [(rO 9 (.mov (.c (.int .i64 0))))]) (.seq (.seq (.reg false [] [(rO 39 (.mov (.t 8))), (rO 40 (.mov (.t 6))), (rO 41 (.cmp .eql (.t 39) (.t 40)))]) (.cond (.t 41) (.reg false [] [(rO 9 (.mov (.c (.int .i64 1))))]) .skip)) (.ga (.put [8]) (.reg false [48, 50, 51] [(rO 42 (.mov (.t 7))), (rO 43 (.mov (.t 8))), (rO 44 (.mov (.t 7))), (rO 45 (.mov (.t 8))), (rO 46 (.iaddrS 1 (.t 44) (.t 45))), (rO 47 (.loadS (.t 46))), (rO 48 (.mov (.t 9))), (rO 49 (.bslice 1 [(.t 48)])), (rO 50 (.app 1 8 (.t 47) (.t 49))), (rO 51 (.iaddrS 1 (.t 42) (.t 43))), ⟨none, 87, (.store none (.t 51) (.t 50)), none, [], none⟩]))))) (.reg false [] [(rO 37 (.mov (.t 8))), (rO 38 (.arith .add (.t 37) (.c (.int .i64 1)))), (rO 8 (.mov (.t 38)))])))))) (.seq (.gh (.frz [8]) (.reg false [57] [(rO 53 (.faddr 0 (.t 1))), (rO 54 (.load none (.t 53))), (rO 55 (.mov (.t 7))), (rO 56 (.call N.spec_l01Solve [(.t 54), (.t 55)])), (rO 52 (.mov (.t 56))), (rO 57 (.extract (.t 52) 0)), (rO 58 (.extract (.t 52) 1)), (rO 10 (.mov (.t 57))), (rO 11 (.mov (.t 58)))])) (.seq (.reg false [] [(rO 12 (.mov (.c (.int .i64 0))))]) (.block 6 (.loop (.seq (.seq (.reg false [] [(rO 59 (.mov (.t 12))), (rO 60 (.mov (.t 3))), (rO 61 (.cmp .lss (.t 59) (.t 60)))]) (.cond (.t 61) .skip (.exit 6))) (.seq (.block 7 (.seq (.reg false [68] [(rO 64 (.mov (.t 4))), (rO 65 (.mov (.t 12))), (rO 66 (.iaddrS 1 (.t 64) (.t 65))), (rO 67 (.loadS (.t 66))), (rO 13 (.mov (.t 67)))]) (.ga (.put [5]) (.reg false [] [(rO 68 (.mov (.t 13))), (rO 69 (.mov (.t 6))), (rO 70 (.mov (.t 10))), (rO 71 (.mov (.t 12))), (rO 72 (.iaddrS 1 (.t 70) (.t 71))), (rO 73 (.load none (.t 72))), (rO 74 (.iaddrS 1 (.t 68) (.t 69))), ⟨none, 84, (.store none (.t 74) (.t 73)), none, [], none⟩])))) (.reg false [] [(rO 62 (.mov (.t 12))), (rO 63 (.arith .add (.t 62) (.c (.int .i64 1)))), (rO 12 (.mov (.t 63)))])))))))))) (.reg false [] [(rO 30 (.mov (.t 6))), (rO 31 (.arith .add (.t 30) (.c (.int .i64 1)))), (rO 6 (.mov (.t 31)))])))))) (.seq (.reg false [] [(rO 75 (.mov (.t 4))), (rO 2 (.mov (.t 75)))]) .ret))))))⟩
end Go.X
namespace Go.X
open Go Go.RowKit
theorem m_findR_rw {a : Alg} (h : AlgOk a) (i k : Nat) : Rw a.p (findR a i k) := fun j => by
  have := prime_bd h.p
  unfold findR
  split
  · exact h.T j i k
  · split <;> omega
theorem m_findIn_rw {a : Alg} (h : AlgOk a) (i : Nat) : ∀ k, RwL a.p (findIn a i k)
  | 0 => fun r hr => by cases hr
  | k + 1 => fun r hr => by
    rcases List.mem_append.1 hr with hr | hr
    · exact m_findIn_rw h i k r hr
    · simp only [List.mem_singleton] at hr; subst hr; exact m_findR_rw h i k
theorem m_findOut_rw {a : Alg} (h : AlgOk a) : ∀ i, RwL a.p (findOut a i)
  | 0 => fun r hr => by cases hr
  | i + 1 => fun r hr => by
    rcases List.mem_append.1 hr with hr | hr
    · exact m_findOut_rw h i r hr
    · exact m_findIn_rw h i _ r hr
theorem m_sol_rw {p : Int} {n : Nat} {L : List Row} {r : Row} (hp : p ∈ primes) (hR : RwL p L) (h : sSolveF p n L = some r) : Rw p r := by
  have hp2 := prime_bd hp
  unfold sSolveF at h
  split at h
  · simp only [Option.some.injEq] at h; subst h
    obtain ⟨⟨ld, rr⟩, _⟩ := echN_rr (m := n + 1) hp hR _ (Nat.le_refl _)
    exact fun i => (rr.rw.get (by omega) i) n
  · cases h
theorem sUnit_rw {a : Alg} (ha : AlgOk a) : Rw a.p (sUnit a) := by
  have hp2 := prime_bd ha.p
  unfold sUnit findF
  cases h : sSolveF a.p a.n.toNat (findOut a a.n.toNat) with
  | none => intro i; simp [Z]; omega
  | some r =>
    dsimp only
    split
    · exact vecR_rw (by omega) (m_sol_rw ha.p (m_findOut_rw ha _) h)
    · intro i; simp [Z]; omega
end Go.X
