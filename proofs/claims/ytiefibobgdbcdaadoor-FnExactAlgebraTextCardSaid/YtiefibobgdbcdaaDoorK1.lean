import Derived.Test.YtiefibobgdbcdaaDoorM1
set_option linter.all false
namespace Go.X
open Go Go.RowKit
end Go.X
namespace Go.X
open Go Go.RowKit
theorem m_findR_rw {a : Alg} (h : AlgOk a) (i k : Nat) : Rw a.p (findR a i k) := fun j => by
  have := prime_bd h.p
  unfold findR
  split
  · exact h.T j i k
  · split <;> omega
theorem m_findIn_rw {a : Alg} (h : AlgOk a) (i : Nat) : ∀ k, RwL a.p (findIn a i k)
  | 0 => fun r hr => by cases hr
  | k + 1 => fun r hr => by
    rcases List.mem_append.1 hr with hr | hr
    · exact m_findIn_rw h i k r hr
    · simp only [List.mem_singleton] at hr; subst hr; exact m_findR_rw h i k
theorem m_findOut_rw {a : Alg} (h : AlgOk a) : ∀ i, RwL a.p (findOut a i)
  | 0 => fun r hr => by cases hr
  | i + 1 => fun r hr => by
    rcases List.mem_append.1 hr with hr | hr
    · exact m_findOut_rw h i r hr
    · exact m_findIn_rw h i _ r hr
end Go.X
