import Derived.Test.YtphelkciklpakaaM1
set_option linter.all false
namespace Go.X
open Go Go.RowKit
def algZ : List D := .int .i64 0 :: .int .i64 0 :: List.replicate 222 (.int .u8 0)
theorem algZ_len : algZ.length = 224 := by unfold algZ; rw [List.length_cons, List.length_cons, List.length_replicate]
end Go.X
namespace Go.X
open Go Go.RowKit
end Go.X
namespace Go.X
open Go Go.RowKit
theorem m_findR_rw {a : Alg} (h : AlgOk a) (i k : Nat) : Rw a.p (findR a i k) := fun j => by
  have := prime_bd h.p
  unfold findR
  split
  · exact h.T j i k
  · split <;> omega
theorem m_findIn_rw {a : Alg} (h : AlgOk a) (i : Nat) : ∀ k, RwL a.p (findIn a i k)
  | 0 => fun r hr => by cases hr
  | k + 1 => fun r hr => by
    rcases List.mem_append.1 hr with hr | hr
    · exact m_findIn_rw h i k r hr
    · simp only [List.mem_singleton] at hr; subst hr; exact m_findR_rw h i k
theorem m_findOut_rw {a : Alg} (h : AlgOk a) : ∀ i, RwL a.p (findOut a i)
  | 0 => fun r hr => by cases hr
  | i + 1 => fun r hr => by
    rcases List.mem_append.1 hr with hr | hr
    · exact m_findOut_rw h i r hr
    · exact m_findIn_rw h i _ r hr
theorem m_sol_rw {p : Int} {n : Nat} {L : List Row} {r : Row} (hp : p ∈ primes) (hR : RwL p L) (h : sSolveF p n L = some r) : Rw p r := by
  have hp2 := prime_bd hp
  unfold sSolveF at h
  split at h
  · simp only [Option.some.injEq] at h; subst h
    obtain ⟨⟨ld, rr⟩, _⟩ := echN_rr (m := n + 1) hp hR _ (Nat.le_refl _)
    exact fun i => (rr.rw.get (by omega) i) n
  · cases h
theorem sUnit_rw {a : Alg} (ha : AlgOk a) : Rw a.p (sUnit a) := by
  have hp2 := prime_bd ha.p
  unfold sUnit findF
  cases h : sSolveF a.p a.n.toNat (findOut a a.n.toNat) with
  | none => intro i; simp [Z]; omega
  | some r =>
    dsimp only
    split
    · exact vecR_rw (by omega) (m_sol_rw ha.p (m_findOut_rw ha _) h)
    · intro i; simp [Z]; omega
end Go.X
