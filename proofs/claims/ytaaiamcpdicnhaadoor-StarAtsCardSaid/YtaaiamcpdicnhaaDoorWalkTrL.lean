/- The walks through the laws TrigRoots and TrigSins. -/
import Derived.Test.YtaaiamcpdicnhaaDoorWalkTr
import Derived.Test.YtaaiamcpdicnhaaDoorWalkSva
import Derived.Test.YtaaiamcpdicnhaaDoorTrC
set_option linter.unusedVariables false
set_option linter.unusedSimpArgs false
namespace Go.Proofs.YtaaiamcpdicnhaaDoor
open Go.RowKit
theorem prt9_bd {v : Int} (v1 : -1200000000000000000 ≤ v) (v2 : v ≤ 1200000000000000000) : -1200000000000000 ≤ prt 1000000000 v ∧ prt 1000000000 v ≤ 1200000000000000 := by
  unfold prt
  split <;> omega
theorem root_facts {lo hi p q : Int} (hr : RootOk lo hi p q) (hh : lo ≤ hi) (h1 : hi ≤ 1000000000000000000) : p ≤ q ∧ q ≤ 1000000000 ∧ 0 ≤ p * p ∧ p * p ≤ 1000000000000000000 ∧ 0 ≤ q * q ∧ q * q ≤ 1000000000000000000 ∧ 0 ≤ (p + 1) * (p + 1) ∧ (p + 1) * (p + 1) ≤ 1100000000000000000 ∧ (q ≠ 0 → 0 ≤ (q - 1) * (q - 1) ∧ (q - 1) * (q - 1) ≤ 1000000000000000000) := by
  obtain ⟨p0, p1, p2, q0, q1, q2⟩ := hr
  have hq : q ≤ 1000000000 := by
    by_cases k : q ≤ 1000000000
    · exact k
    · have := sq_mono (a := 1000000000) (b := q - 1) (by omega) (by omega); omega
  have hpq : p ≤ q := by
    by_cases k : p ≤ q
    · exact k
    · have := sq_mono (a := q + 1) (b := p) (by omega) (by omega)
      have e : (q + 1) * (q + 1) = q * q + 2 * q + 1 := by grind
      omega
  have a1 := sq_mono (a := p + 1) (b := 1000000001) (by omega) (by omega)
  have a2 := sq_mono (a := q) (b := 1000000000) (by omega) (by omega)
  have a3 := sq_mono (a := p) (b := 1000000000) (by omega) (by omega)
  refine ⟨hpq, hq, Int.mul_nonneg p0 p0, by omega, Int.mul_nonneg q0 q0, by omega, Int.mul_nonneg (by omega) (by omega), by omega, fun k => ⟨Int.mul_nonneg (by omega) (by omega), ?_⟩⟩
  have := sq_mono (a := q - 1) (b := 1000000000) (by omega) (by omega)
  omega
end Go.Proofs.YtaaiamcpdicnhaaDoor
