/- math.sin's answer by octants is near the sine. No program in sight. -/
import Derived.Test.YtffnmfcaoldlhaaDoorPlainRed
import Derived.Test.YtffnmfcaoldlhaaDoorPlainCut
set_option linter.unusedVariables false
set_option linter.unusedSimpArgs false
namespace Go.Proofs.YtffnmfcaoldlhaaDoor
open Ieee
theorem ap_sin {y : Nat} {Z : Rat} (hz : rabs Z ≤ 393/500) (h : Ap y (Z + Z * (Z * Z) * (((((cv sC0 * (Z * Z) + cv sC1) * (Z * Z) + cv sC2) * (Z * Z) + cv sC3) * (Z * Z) + cv sC4) * (Z * Z) + cv sC5)) (18 / 1000000000000000)) : Ap y (S Z) (19 / 1000000000000000) := by
  obtain ⟨a, b⟩ := sinP_near hz
  exact (h.move a b).mono (by decide +kernel)
theorem ap_cos {y : Nat} {Z : Rat} (hz : rabs Z ≤ 393/500) (h : Ap y (1 - 1/2 * (Z * Z) + Z * Z * (Z * Z) * (((((cv cC0 * (Z * Z) + cv cC1) * (Z * Z) + cv cC2) * (Z * Z) + cv cC3) * (Z * Z) + cv cC4) * (Z * Z) + cv cC5)) (18 / 1000000000000000)) : Ap y (C Z) (19 / 1000000000000000) := by
  obtain ⟨a, b⟩ := cosP_near hz
  exact (h.move a b).mono (by decide +kernel)
theorem quart {Z : Rat} (hz : rabs Z ≤ 393/500) : (S (Z + piQ / 2) ≤ C Z + 1 / 10 ^ 18 ∧ C Z ≤ S (Z + piQ / 2) + 1 / 10 ^ 18) ∧ (S (Z + piQ) ≤ -S Z + 1 / 10 ^ 18 ∧ -S Z ≤ S (Z + piQ) + 1 / 10 ^ 18) ∧
    (S (Z + 3 * piQ / 2) ≤ -C Z + 1 / 10 ^ 18 ∧ -C Z ≤ S (Z + 3 * piQ / 2) + 1 / 10 ^ 18) ∧ (S (Z + 2 * piQ) ≤ S Z + 1 / 10 ^ 18 ∧ S Z ≤ S (Z + 2 * piQ) + 1 / 10 ^ 18) := by
  have hz' : rabs Z ≤ 4/5 := by grind
  have h1 := pv_near hz' _ _ quart1s
  have h2 := pv_near hz' _ _ quart2s
  have h3 := pv_near hz' _ _ quart3s
  have h4 := pv_near hz' _ _ quart4s
  rw [pv_shift] at h1 h2 h3 h4
  rw [pv_scale] at h2 h3
  unfold S C
  refine ⟨h1, ?_, ?_, h4⟩
  · constructor <;> grind
  · constructor <;> grind
theorem Ap.neg {w : Nat} {X e : Rat} (h : Ap w X e) : ∃ s m p, Reads w s m p ∧ rv (!s) m p ≤ -X + e ∧ -X ≤ rv (!s) m p + e := by
  obtain ⟨s, m, p, h1, h2, h3⟩ := h
  exact ⟨s, m, p, h1, by rw [rv_neg]; grind, by rw [rv_neg]; grind⟩
end Go.Proofs.YtffnmfcaoldlhaaDoor
