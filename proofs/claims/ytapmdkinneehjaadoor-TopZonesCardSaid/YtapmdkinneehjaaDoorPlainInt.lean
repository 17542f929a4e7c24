/- Plain facts on integer division. No program in sight. -/
import Derived.IntWalk
set_option linter.unusedVariables false
set_option linter.unusedSimpArgs false
namespace Go.Proofs.YtapmdkinneehjaaDoor
theorem tdiv_pos (a b : Int) (hb : 0 < b) (h : 0 ≤ a) : a.tdiv b = a / b ∧ a.tmod b = a % b :=
  ⟨Int.tdiv_eq_ediv_of_nonneg h, Int.tmod_eq_emod_of_nonneg h⟩
theorem tdiv_neg (a b : Int) (hb : 0 < b) (h : a < 0) : (a.tmod b = 0 → a.tdiv b = a / b ∧ a % b = 0) ∧ (a.tmod b ≠ 0 → a.tdiv b - 1 = a / b ∧ a.tmod b + b = a % b ∧ a.tmod b < 0) := by
  have h1 := Int.tmod_add_mul_tdiv a b
  have h2 := Int.emod_add_mul_ediv a b
  have h3 := Int.emod_nonneg a (show b ≠ 0 by omega)
  have h4 := Int.emod_lt_of_pos a hb
  have h5 : a.tmod b ≤ 0 := by
    have := Int.tmod_nonneg (a := -a) b (by omega)
    rw [Int.neg_tmod] at this; omega
  have h6 : -b < a.tmod b := by
    have := Int.tmod_lt_of_pos (-a) hb
    rw [Int.neg_tmod] at this; omega
  constructor
  · intro h0
    have : b * (a.tdiv b - a / b) = a % b := by rw [Int.mul_sub]; omega
    have hq : a.tdiv b - a / b = 0 := by
      rcases Int.lt_trichotomy (a.tdiv b - a / b) 0 with hq | hq | hq
      · have : b * (a.tdiv b - a / b) ≤ b * (-1) := Int.mul_le_mul_of_nonneg_left (by omega) (by omega)
        omega
      · exact hq
      · have : b * 1 ≤ b * (a.tdiv b - a / b) := Int.mul_le_mul_of_nonneg_left (by omega) (by omega)
        omega
    rw [hq] at this
    omega
  · intro h0
    have : b * (a.tdiv b - a / b) = a % b - a.tmod b := by rw [Int.mul_sub]; omega
    have hq : a.tdiv b - a / b = 1 := by
      rcases Int.lt_trichotomy (a.tdiv b - a / b) 1 with hq | hq | hq
      · have : b * (a.tdiv b - a / b) ≤ b * 0 := Int.mul_le_mul_of_nonneg_left (by omega) (by omega)
        omega
      · exact hq
      · have : b * 2 ≤ b * (a.tdiv b - a / b) := Int.mul_le_mul_of_nonneg_left (by omega) (by omega)
        omega
    rw [hq] at this
    omega
end Go.Proofs.YtapmdkinneehjaaDoor
