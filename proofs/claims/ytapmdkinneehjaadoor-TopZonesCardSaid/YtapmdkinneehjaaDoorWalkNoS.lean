/- The walk through the law NoticeSigns. -/
import Derived.Test.YtapmdkinneehjaaDoorWalkNo7
set_option linter.unusedVariables false
set_option linter.unusedSimpArgs false
namespace Go.Proofs.YtapmdkinneehjaaDoor
open Go.RowKit
theorem noE_sum {a n s : Int} {l : List UInt8} (h : noE a n s l = 0) : noE a n 0 l = 0 := by
  obtain ⟨a0, a1, n0, n1, s0, s1, l1, l2⟩ := noE_ok h
  unfold noE
  rw [if_neg (by omega), if_neg (by omega), if_neg (by rw [l2]; decide)]
theorem keyB_f {key : Int} (h : keyB key = false) : (key < 1) ∨ (¬ key < 1 ∧ 1000000000 < key) := by
  unfold keyB at h
  by_cases h1 : 1 ≤ key
  · by_cases h2 : key ≤ 1000000000
    · rw [decide_eq_true h1, decide_eq_true h2] at h; cases h
    · exact .inr ⟨by omega, by omega⟩
  · exact .inl (by omega)
end Go.Proofs.YtapmdkinneehjaaDoor
