/- The polynomials of math.sin are near the sine and the cosine. No program in sight. -/
import Derived.Test.YtffnmfcaoldlhaaDoorPlainSin
set_option linter.unusedVariables false
set_option linter.unusedSimpArgs false
namespace Go.Proofs.YtffnmfcaoldlhaaDoor
def sinL : List Rat := [0, 1, 0, cv sC5, 0, cv sC4, 0, cv sC3, 0, cv sC2, 0, cv sC1, 0, cv sC0]
def cosL : List Rat := [1, 0, -1/2, 0, cv cC5, 0, cv cC4, 0, cv cC3, 0, cv cC2, 0, cv cC1, 0, cv cC0]
/-- Two polynomials are near on an interval around a centre. -/
theorem near_on {p q : List Rat} {c r e x : Rat} (h : pbd (pshift c (padd p (pscale (-1) q))) r ≤ e) (hx : rabs (x - c) ≤ r) : pv p x ≤ pv q x + e ∧ pv q x ≤ pv p x + e := by
  have g := pv_bd hx (pshift c (padd p (pscale (-1) q)))
  rw [pv_shift, show x - c + c = x by grind, pv_add, pv_scale] at g
  obtain ⟨h1, h2⟩ := rabs_le.1 (show rabs (pv p x + -1 * pv q x) ≤ e by grind)
  constructor <;> grind
/-- Near on each of n intervals of the half width r, from a on. -/
def nearAll (p q : List Rat) (r e : Rat) : Nat → Rat → Bool
  | 0, _ => true
  | n + 1, a => decide (pbd (pshift (a + r) (padd p (pscale (-1) q))) r ≤ e) && nearAll p q r e n (a + 2 * r)
theorem near_all {p q : List Rat} {r e : Rat} (hr : 0 ≤ r) : ∀ (n : Nat) (a x : Rat), nearAll p q r e n a = true → a ≤ x → x ≤ a + 2 * r * (n : Rat) → n ≠ 0 → pv p x ≤ pv q x + e ∧ pv q x ≤ pv p x + e
  | 0, _, _, _, _, _, h => absurd rfl h
  | n + 1, a, x, h, h1, h2, _ => by
    unfold nearAll at h
    simp only [Bool.and_eq_true, decide_eq_true_eq] at h
    by_cases c : x ≤ a + 2 * r
    · exact near_on h.1 (by rw [rabs_le]; constructor <;> grind)
    · refine near_all hr n (a + 2 * r) x h.2 (by grind) (by push_cast at h2; grind) ?_
      intro h0
      subst h0
      apply c
      have e1 : ((0 + 1 : Nat) : Rat) = 1 := by decide +kernel
      rw [e1] at h2
      grind
theorem sinL_near : nearAll sinL sT (393/8000) (1 / 1000000000000000) 16 (-393/500) = true := by decide +kernel
theorem cosL_near : nearAll cosL cT (393/8000) (1 / 1000000000000000) 16 (-393/500) = true := by decide +kernel
theorem near_z {p q : List Rat} {e Z : Rat} (h : nearAll p q (393/8000) e 16 (-393/500) = true) (hz : rabs Z ≤ 393/500) : pv p Z ≤ pv q Z + e ∧ pv q Z ≤ pv p Z + e := by
  obtain ⟨z1, z2⟩ := rabs_le.1 hz
  have e16 : ((16 : Nat) : Rat) = 16 := rfl
  exact near_all (by decide +kernel) 16 _ Z h (by grind) (by rw [e16]; grind) (by decide)
theorem sinP_near {Z : Rat} (hz : rabs Z ≤ 393/500) : Z + Z * (Z * Z) * (((((cv sC0 * (Z * Z) + cv sC1) * (Z * Z) + cv sC2) * (Z * Z) + cv sC3) * (Z * Z) + cv sC4) * (Z * Z) + cv sC5) ≤ S Z + 1 / 1000000000000000 ∧ S Z ≤ Z + Z * (Z * Z) * (((((cv sC0 * (Z * Z) + cv sC1) * (Z * Z) + cv sC2) * (Z * Z) + cv sC3) * (Z * Z) + cv sC4) * (Z * Z) + cv sC5) + 1 / 1000000000000000 := by
  have h := near_z sinL_near hz
  have e : pv sinL Z = Z + Z * (Z * Z) * (((((cv sC0 * (Z * Z) + cv sC1) * (Z * Z) + cv sC2) * (Z * Z) + cv sC3) * (Z * Z) + cv sC4) * (Z * Z) + cv sC5) := by
    unfold pv sinL
    simp only [List.foldr_cons, List.foldr_nil]
    grind
  rw [← e]
  exact h
theorem cosP_near {Z : Rat} (hz : rabs Z ≤ 393/500) : 1 - 1/2 * (Z * Z) + Z * Z * (Z * Z) * (((((cv cC0 * (Z * Z) + cv cC1) * (Z * Z) + cv cC2) * (Z * Z) + cv cC3) * (Z * Z) + cv cC4) * (Z * Z) + cv cC5) ≤ C Z + 1 / 1000000000000000 ∧ C Z ≤ 1 - 1/2 * (Z * Z) + Z * Z * (Z * Z) * (((((cv cC0 * (Z * Z) + cv cC1) * (Z * Z) + cv cC2) * (Z * Z) + cv cC3) * (Z * Z) + cv cC4) * (Z * Z) + cv cC5) + 1 / 1000000000000000 := by
  have h := near_z cosL_near hz
  have e : pv cosL Z = 1 - 1/2 * (Z * Z) + Z * Z * (Z * Z) * (((((cv cC0 * (Z * Z) + cv cC1) * (Z * Z) + cv cC2) * (Z * Z) + cv cC3) * (Z * Z) + cv cC4) * (Z * Z) + cv cC5) := by
    unfold pv cosL
    simp only [List.foldr_cons, List.foldr_nil]
    grind
  rw [← e]
  exact h
end Go.Proofs.YtffnmfcaoldlhaaDoor
