/- TrigArcSins' statement. No program in sight. -/
import Derived.Test.YtffnmfcaoldlhaaDoorPlainAsin2
set_option linter.unusedVariables false
set_option linter.unusedSimpArgs false
namespace Go.Proofs.YtffnmfcaoldlhaaDoor
open Ieee
def asLo (a : Int) : Int := max (arLo (asinW (cl9 a))) (-250000000)
def asHi (a : Int) : Int := min (arHi (asinW (cl9 a))) 250000000
/-- A number lies between the sines of two angles. -/
structure AsinOk (lo hi : Int) (z : Rat) : Prop where
  s1 : siU lo ≤ z + 2 / 1000000000
  s2 : z ≤ siU hi + 2 / 1000000000
theorem siU_tq {a : Int} (h1 : -250000000 ≤ a) (h2 : a ≤ 250000000) : rabs (siU a - S (tq * a)) ≤ 1 / 1000000000000 := by
  unfold siU
  rw [angU_tq]
  obtain ⟨m0, m1⟩ := emod_bd a
  have h := sc_shift m0 m1 (θ := tq * a) (by
    by_cases q : 0 ≤ a
    · left; have : a % 1000000000 = a := by omega
      rw [this]
    · right; have : a % 1000000000 = a + 1000000000 := by omega
      rw [this, ← tq_turn]; push_cast; grind)
  have e : S (tq * ((a % 1000000000 : Int) : Rat)) - S (tq * a) = -(S (tq * a) - S (tq * ((a % 1000000000 : Int) : Rat))) := by grind
  rw [e, rabs_neg]
  exact h.1
theorem tq_quarter : tq * 250000000 = piQ / 2 := by decide +kernel
theorem tq_rng {a : Int} (h1 : -250000000 ≤ a) (h2 : a ≤ 250000000) : rabs (tq * a) ≤ piQ / 2 := by
  have c1 : ((250000000 : Int) : Rat) = 250000000 := rfl
  have c2 : ((-250000000 : Int) : Rat) = -250000000 := rfl
  have a1 := tq_le (icast h1)
  have a2 := tq_le (icast h2)
  rw [c2] at a1
  rw [c1, tq_quarter] at a2
  have e : tq * -250000000 = -(piQ / 2) := by rw [← tq_quarter]; grind
  rw [e] at a1
  exact rabs_le.2 ⟨a2, a1⟩
theorem cl9_rng (n : Int) : -1000000000 ≤ cl9 n ∧ cl9 n ≤ 1000000000 := by unfold cl9; omega
theorem at_ends : rabs (siU (-250000000) + 1) ≤ 1 / 1000000000000 ∧ rabs (siU 250000000 - 1) ≤ 1 / 1000000000000 := by decide +kernel
theorem asD_rng {n : Int} {D : Rat} (h : Asin n D) : D ≤ 250000000 + 4/100 ∧ -(250000000 + 4/100) ≤ D := by
  obtain ⟨t1, t2, -⟩ := tq_num
  have hb := rabs_le.1 h.b
  have tz : (0 : Rat) < tq := by grind
  have lim : piQ / 2 + 2 / 10000000000 ≤ tq * (250000000 + 4/100) := by decide +kernel
  have g : ∀ {z : Rat}, tq * z ≤ tq * (250000000 + 4/100) → z ≤ 250000000 + 4/100 := fun h => Rat.le_of_mul_le_mul_left h tz
  exact ⟨g (by grind), by have := g (z := -D) (by grind); grind⟩
theorem as_bounds (a : Int) : -250000000 ≤ asLo a ∧ asLo a ≤ 250000000 ∧ -250000000 ≤ asHi a ∧ asHi a ≤ 250000000 ∧ asHi a - asLo a ≤ 3 := by
  obtain ⟨n1, n2⟩ := cl9_rng a
  obtain ⟨-, D, -, ha, -, l1, l2, h1, h2⟩ := asin_run (cl9 a) n1 n2
  obtain ⟨d1, d2⟩ := asD_rng ha
  unfold asLo asHi
  have c1 : ((250000000 : Int) : Rat) = 250000000 := rfl
  have c2 : ((-250000000 : Int) : Rat) = -250000000 := rfl
  have c3 : ((3 : Int) : Rat) = 3 := rfl
  generalize arLo (asinW (cl9 a)) = lo at *
  generalize arHi (asinW (cl9 a)) = hi at *
  have u1 : lo ≤ 250000000 := int_of_rat (x := D - 9/10000) l1 (by rw [c1]; grind)
  have u2 : -250000000 ≤ hi := int_of_rat (x := D + 9/10000 + 1/2) (by rw [c2]; grind) (by grind)
  have u3 : hi - lo ≤ 3 := by
    have : ((hi - lo : Int) : Rat) ≤ ((3 : Int) : Rat) := by rw [c3]; push_cast; grind
    exact Rat.intCast_le_intCast.1 this
  omega
theorem as_low (a : Int) {z : Rat} (hz : (cl9 a : Rat) / 1000000000 ≤ z) : siU (asLo a) ≤ z + 2 / 1000000000 := by
  obtain ⟨n1, n2⟩ := cl9_rng a
  obtain ⟨-, D, -, ha, -, l1, l2, h1, h2⟩ := asin_run (cl9 a) n1 n2
  obtain ⟨b1, b2, -, -, -⟩ := as_bounds a
  have hs := rabs_le.1 ha.s
  have hb := ha.b
  have c2 : ((-1000000000 : Int) : Rat) = -1000000000 := rfl
  have N1 := icast n1
  rw [c2] at N1
  rcases (show asLo a = -250000000 ∨ asLo a = arLo (asinW (cl9 a)) by unfold asLo; omega) with h | h
  · rw [h]
    have := rabs_le.1 at_ends.1
    grind
  · have st := rabs_le.1 (siU_tq b1 b2)
    have mono := sin_mono (x := tq * (asLo a : Rat)) (y := tq * D) (tq_le (by rw [h]; grind)) (by have := tq_rng b1 b2; grind) (by grind)
    grind
theorem as_high (a : Int) {z : Rat} (hz : z ≤ (cl9 a : Rat) / 1000000000) : z ≤ siU (asHi a) + 2 / 1000000000 := by
  obtain ⟨n1, n2⟩ := cl9_rng a
  obtain ⟨-, D, -, ha, -, l1, l2, h1, h2⟩ := asin_run (cl9 a) n1 n2
  obtain ⟨-, -, b1, b2, -⟩ := as_bounds a
  have hs := rabs_le.1 ha.s
  have hb := ha.b
  have c1 : ((1000000000 : Int) : Rat) = 1000000000 := rfl
  have N2 := icast n2
  rw [c1] at N2
  rcases (show asHi a = 250000000 ∨ asHi a = arHi (asinW (cl9 a)) by unfold asHi; omega) with h | h
  · rw [h]
    have := rabs_le.1 at_ends.2
    grind
  · have st := rabs_le.1 (siU_tq b1 b2)
    have mono := sin_mono (x := tq * D) (y := tq * (asHi a : Rat)) (tq_le (by rw [h]; grind)) (by grind) (by have := tq_rng b1 b2; grind)
    grind
theorem as_order {a b : Int} (h : a ≤ b) : asLo a ≤ asHi b := by
  obtain ⟨n1, n2⟩ := cl9_rng a
  obtain ⟨m1, m2⟩ := cl9_rng b
  have r1 := as_bounds a
  have r2 := as_bounds b
  by_cases q : cl9 a = cl9 b
  · have e : asHi b = asHi a := by unfold asHi; rw [q]
    rw [e]
    obtain ⟨-, D, -, ha, -, l1, l2, h1, h2⟩ := asin_run (cl9 a) n1 n2
    have : arLo (asinW (cl9 a)) ≤ arHi (asinW (cl9 a)) := int_of_rat (x := D) (by grind) (by grind)
    unfold asLo asHi at *
    omega
  · obtain ⟨-, D, -, ha, -, l1, l2, h1, h2⟩ := asin_run (cl9 a) n1 n2
    obtain ⟨-, E, -, hb, -, k1, k2, j1, j2⟩ := asin_run (cl9 b) m1 m2
    have lt : cl9 a < cl9 b := by unfold cl9 at *; omega
    have := asin_lt lt ha hb
    have : arLo (asinW (cl9 a)) ≤ arHi (asinW (cl9 b)) := int_of_rat (x := D) (by grind) (by grind)
    unfold asLo asHi at *
    omega
/-- A number of units in the reference's unit. -/
def fu (n : Int) : Int := n * 1152921504 + (n * 606846976).tdiv 1000000000
theorem fu_near (n : Int) : rabs ((fu n : Rat) - uQ * ((n : Rat) / 1000000000)) ≤ 2 := by
  have h := tdiv_near (n * 606846976) 1000000000 (by decide)
  have c1 : ((1000000000 : Int) : Rat) = 1000000000 := rfl
  rw [c1] at h
  unfold fu
  have hu : uQ = 1152921504606846976 := rfl
  rw [hu, rabs_le]
  push_cast at h ⊢
  constructor <;> grind
/-- What InArcSin asks. -/
def InAsin (lo hi z : Int) : Prop := (sc (lo % 1000000000 * 1000000)).1 ≤ z + 4294967296 ∧ z ≤ (sc (hi % 1000000000 * 1000000)).1 + 4294967296
theorem inAsin_of {lo hi z : Int} {x : Rat} (hz : rabs ((z : Rat) - uQ * x) ≤ 100000000) (s1 : siU lo ≤ x + 3 / 1000000000) (s2 : x ≤ siU hi + 3 / 1000000000) : InAsin lo hi z := by
  obtain ⟨m0, m1⟩ := emod_bd lo
  obtain ⟨k0, k1⟩ := emod_bd hi
  have g1 := rabs_le.1 (sc_ang m0 m1).1
  have g2 := rabs_le.1 (sc_ang k0 k1).1
  have hz := rabs_le.1 hz
  have hu : uQ = 1152921504606846976 := rfl
  unfold siU at s1 s2
  have r : ∀ {p q : Int}, (p : Rat) ≤ (q : Rat) → p ≤ q := fun h => Rat.intCast_le_intCast.1 h
  rw [hu] at g1 g2 hz
  constructor
  · apply r; push_cast; grind
  · apply r; push_cast; grind
end Go.Proofs.YtffnmfcaoldlhaaDoor
