/- A direction between two angles has an angle; a number between two sines is a sine. No program in sight. The sidereal angle: the program's interval and the reference's argument; what place.look computes. No program in sight. What place.look computes. No program in sight. The intervals of place.look hold the parts of every direction whose angles they hold. No program in sight. The intervals of place.look hold the parts of a direction that the intervals of its coordinates hold, up to a unit. No program in sight. -/
import Derived.Test.YtcgnhnmigmdalaaGreatDoorEqB
import Derived.Test.YtcgnhnmigmdalaaGreatDoorSmA
set_option linter.unusedVariables false
set_option linter.unusedSimpArgs false
namespace Go.Proofs.YtcgnhnmigmdalaaGreatDoor
section
open Ieee
end
section
open Ieee
def sdA (t : Int) : Int := angLo 275313108 1002737909350806 [] 0 t
def sdB (t : Int) : Int := angHi 275313108 1002737909350806 [] 0 t
theorem sid_e : sumE 275313108 1002737909350806 [] 0 = 0 := by decide +kernel
def sidLo (lon t : Int) : Int := (sdA t + lon) % 1000000000
def sidHi (lon t : Int) : Int := (sdA t + lon) % 1000000000 + (sdB t + lon) - (sdA t + lon)
def refSid (lon t : Int) : Int := (argV 1002737909350806 t + (275313108 + lon) * 1000000) % 1000000000000000
/-- An argument in the unit of the sums. -/
def unitA (a : Int) : Int := a / 1000000 * 1048576 + a % 1000000 * 1048576 / 1000000
theorem unit_of (A n : Int) (a0 : 0 ≤ A) (a1 : A < 1000000000000000) : unitA ((A + n * 1000000) % 1000000000000000) = (n * 1048576 + A / 1000000 * 1048576 + A % 1000000 * 1048576 / 1000000) % 1048576000000000 := by
  unfold unitA
  have e1 : (A + n * 1000000) % 1000000000000000 = 1000000 * ((A / 1000000 + n) % 1000000000) + A % 1000000 := by omega
  have q0 : 0 ≤ A / 1000000 := by omega
  have q1 : A / 1000000 < 1000000000 := by omega
  have r0 : 0 ≤ A % 1000000 := by omega
  have r1 : A % 1000000 < 1000000 := by omega
  rw [e1]
  generalize A / 1000000 = q at *
  generalize A % 1000000 = ρ at *
  clear e1 a0 a1
  have k0 := Int.emod_nonneg (q + n) (show (1000000000 : Int) ≠ 0 by omega)
  have k1 := Int.emod_lt_of_pos (q + n) (show (0 : Int) < 1000000000 by omega)
  have kk : q + n = 1000000000 * ((q + n) / 1000000000) + (q + n) % 1000000000 := (Int.mul_ediv_add_emod _ _).symm
  generalize (q + n) / 1000000000 = d at *
  generalize (q + n) % 1000000000 = m at *
  have e2 : (1000000 * m + ρ) / 1000000 = m := by omega
  have e3 : (1000000 * m + ρ) % 1000000 = ρ := by omega
  rw [e2, e3]
  have f0 : 0 ≤ ρ * 1048576 / 1000000 := by omega
  have f1 : ρ * 1048576 / 1000000 < 1048576 := by omega
  generalize ρ * 1048576 / 1000000 = f at *
  clear e2 e3 r0 r1
  have e4 : n * 1048576 + q * 1048576 + f = m * 1048576 + f + 1048576000000000 * d := by omega
  rw [e4, Int.add_mul_emod_self_left]
  omega
theorem whole_nil (m r t : Int) : wholeV m r [] t = (m * 1048576 + argV r t / 1000000 * 1048576 + argV r t % 1000000 * 1048576 / 1000000) % 1048576000000000 := by
  have e : refAt m [] t ([] : List Tm).length = m * 1048576 := rfl
  unfold wholeV
  rw [e]
/-- What is known of the sidereal interval. -/
structure SidOk (lon t : Int) : Prop where
  l0 : 0 ≤ sidLo lon t
  l1 : sidLo lon t < 1000000000
  o : sidLo lon t ≤ sidHi lon t
  w : sidHi lon t - sidLo lon t ≤ 1
  r : (unitA (refSid lon t) - sidLo lon t * 1048576 + 2000) % 1048576000000000 ≤ (sidHi lon t - sidLo lon t) * 1048576 + 4000
  u0 : 0 ≤ unitA (refSid lon t)
  u1 : unitA (refSid lon t) < 1048576000000000
  a0 : 0 ≤ refSid lon t
  a1 : refSid lon t < 1000000000000000
theorem sid_ok (lon t : Int) : SidOk lon t := by
  obtain ⟨v1, v2, v3, v4, v5⟩ := ang_contains (inst := t) (sumOk_of sid_e)
  have v6 := ang_contains2 (inst := t) (sumOk_of sid_e) (by decide)
  have hb : bndAt 0 ([] : List Tm) = 0 := by decide +kernel
  rw [hb] at v4
  obtain ⟨g0, g1⟩ := argV_bd 1002737909350806 t
  have ew := whole_nil 275313108 1002737909350806 t
  have eu := unit_of (argV 1002737909350806 t) (275313108 + lon) g0 g1
  have er : refSid lon t = (argV 1002737909350806 t + (275313108 + lon) * 1000000) % 1000000000000000 := rfl
  rw [← er] at eu
  have r0 : 0 ≤ refSid lon t := by rw [er]; omega
  have r1 : refSid lon t < 1000000000000000 := by rw [er]; omega
  generalize argV 1002737909350806 t / 1000000 * 1048576 = X at *
  generalize argV 1002737909350806 t % 1000000 * 1048576 / 1000000 = Y at *
  have sl : sidLo lon t = (sdA t + lon) % 1000000000 := rfl
  have sh : sidHi lon t = (sdA t + lon) % 1000000000 + (sdB t + lon) - (sdA t + lon) := rfl
  change (_ : Int) ≤ sdA t at v1
  change sdA t < _ at v2
  change sdB t - sdA t ≤ _ at v4
  change (_ - sdA t * 1048576 + 2000) % _ ≤ (sdB t - sdA t - _) * _ + _ at v6
  clear v3 v5 er g0 g1 hb
  generalize wholeV 275313108 1002737909350806 [] t = W at *
  generalize hU : unitA (refSid lon t) = U at *
  generalize sdA t = a at *
  generalize sdB t = b at *
  refine ⟨by omega, by omega, by omega, by omega, ?_, by rw [hU]; omega, by rw [hU]; omega, r0, r1⟩
  rw [sl, sh, hU]
  have e1 : (U - (a + lon) % 1000000000 * 1048576 + 2000) % 1048576000000000 = (W - 0 * 1048576 - a * 1048576 + 2000) % 1048576000000000 := by omega
  rw [e1]
  omega
end
section
open Ieee
end
section
open Ieee
theorem sc_neg_turn {θ : Rat} (h0 : -1000000000 ≤ θ) (h1 : θ ≤ 0) : rabs (S (tq * (θ + 1000000000)) - S (tq * θ)) ≤ 1 / 1000000000000 ∧ rabs (C (tq * (θ + 1000000000)) - C (tq * θ)) ≤ 1 / 1000000000000 := by
  have hp := pi_num
  have q := tq_le h0
  have q' := tq_le h1
  have z : tq * 0 = 0 := by grind
  rw [z] at q'
  have e : tq * (θ + 1000000000) = tq * θ + 2 * piQ := by rw [← tq_turn]; grind
  have t1 : tq * 500000000 = piQ := tq_num.2.2.2.2.2.2.2
  by_cases h : -500000000 ≤ θ
  · have k := tq_le h
    have t2 : tq * -500000000 = -piQ := by rw [← t1]; grind
    rw [t2] at k
    rw [e]
    exact sin_turn (x := tq * θ) (rabs_le.2 ⟨by grind, by grind⟩)
  · have k := tq_le (show θ + 1000000000 ≤ 500000000 by grind)
    have k0 := tq_le (show 0 ≤ θ + 1000000000 by grind)
    rw [z] at k0
    rw [t1] at k
    obtain ⟨a, b⟩ := sin_turn (x := -(tq * (θ + 1000000000))) (rabs_le.2 ⟨by grind, by grind⟩)
    rw [show -(tq * (θ + 1000000000)) + 2 * piQ = -(tq * θ) by rw [e]; grind, S_neg, S_neg] at a
    rw [show -(tq * (θ + 1000000000)) + 2 * piQ = -(tq * θ) by rw [e]; grind, C_neg, C_neg] at b
    have a := rabs_le.1 a
    have b := rabs_le.1 b
    constructor
    · rw [rabs_le]; constructor <;> grind
    · rw [rabs_le]; constructor <;> grind
/-- The sine at an angle from minus a turn to a turn, and at the one from 0 on. -/
theorem sc_any {θ z : Rat} {j : Int} (h0 : -1000000000 ≤ θ) (h1 : θ ≤ 1000000000) (z0 : 0 ≤ z) (z1 : z ≤ 1000000000) (e : z = θ + (j : Rat) * 1000000000) : rabs (S (tq * z) - S (tq * θ)) ≤ 4 / 1000000000000 ∧ rabs (C (tq * z) - C (tq * θ)) ≤ 4 / 1000000000000 := by
  have zz : rabs (0 : Rat) ≤ 0 := by decide +kernel
  by_cases h : 0 ≤ θ
  · have k := sc_turns (z := z) (b := θ) (j := j) (μ := 0) (by grind) (by grind) (by grind) (by grind) (by rw [e, show θ + (j : Rat) * 1000000000 - θ - (j : Rat) * 1000000000 = 0 by grind]; exact zz) (by grind)
    exact ⟨by have := k.1; grind, by have := k.2; grind⟩
  · have k := sc_turns (z := z) (b := θ + 1000000000) (j := j - 1) (μ := 0) (by grind) (by grind) (by grind) (by grind) (by rw [e]; push_cast; rw [show θ + (j : Rat) * 1000000000 - (θ + 1000000000) - ((j : Rat) - 1) * 1000000000 = 0 by grind]; exact zz) (by grind)
    obtain ⟨n1, n2⟩ := sc_neg_turn h0 (by grind)
    have k1 := rabs_le.1 k.1
    have k2 := rabs_le.1 k.2
    have n1 := rabs_le.1 n1
    have n2 := rabs_le.1 n2
    exact ⟨rabs_le.2 ⟨by grind, by grind⟩, rabs_le.2 ⟨by grind, by grind⟩⟩
/-- The sine and the cosine of a difference. -/
theorem sc_minus {a z h : Rat} {j : Int} (a0 : 0 ≤ a) (a1 : a ≤ 1000000000) (z0 : 0 ≤ z) (z1 : z ≤ 1000000000) (h0 : 0 ≤ h) (h1 : h ≤ 1000000000) (e : h = a - z + (j : Rat) * 1000000000) :
    rabs (S (tq * h) - (S (tq * a) * C (tq * z) - C (tq * a) * S (tq * z))) ≤ 3 / 100000000000 ∧ rabs (C (tq * h) - (C (tq * a) * C (tq * z) + S (tq * a) * S (tq * z))) ≤ 3 / 100000000000 := by
  have hp := pi_num
  obtain ⟨z', jz, e1, b1, b2⟩ : ∃ (z' : Rat) (jz : Int), z = z' + (jz : Rat) * 1000000000 ∧ -500000000 ≤ z' ∧ z' ≤ 500000000 := by
    by_cases q : z ≤ 500000000
    · exact ⟨z, 0, by rw [show ((0 : Int) : Rat) = 0 from rfl]; grind, by grind, q⟩
    · exact ⟨z - 1000000000, 1, by rw [show ((1 : Int) : Rat) = 1 from rfl]; grind, by grind, by grind⟩
  obtain ⟨a', ja, e2, c1, c2⟩ : ∃ (a' : Rat) (ja : Int), a = a' + (ja : Rat) * 1000000000 ∧ -500000000 ≤ a' ∧ a' ≤ 500000000 := by
    by_cases q : a ≤ 500000000
    · exact ⟨a, 0, by rw [show ((0 : Int) : Rat) = 0 from rfl]; grind, by grind, q⟩
    · exact ⟨a - 1000000000, 1, by rw [show ((1 : Int) : Rat) = 1 from rfl]; grind, by grind, by grind⟩
  obtain ⟨s1, s2⟩ := sc_any (θ := z') (z := z) (by grind) (by grind) z0 z1 e1
  obtain ⟨s3, s4⟩ := sc_any (θ := a') (z := a) (by grind) (by grind) a0 a1 e2
  obtain ⟨s5, s6⟩ := sc_any (θ := a' - z') (z := h) (j := j + ja - jz) (by grind) (by grind) h0 h1 (by push_cast; grind)
  have t1 : tq * 500000000 = piQ := tq_num.2.2.2.2.2.2.2
  have t2 : tq * -500000000 = -piQ := by rw [← t1]; grind
  have k1 := tq_le b1
  have k2 := tq_le b2
  have k3 := tq_le c1
  have k4 := tq_le c2
  rw [t1] at k2 k4
  rw [t2] at k1 k3
  have hz : rabs (tq * z') ≤ 16/5 := rabs_le.2 ⟨by grind, by grind⟩
  have ha : rabs (tq * a') ≤ 32/5 := rabs_le.2 ⟨by grind, by grind⟩
  have hz2 : rabs (-(tq * z')) ≤ 16/5 := by rw [rabs_neg]; exact hz
  have p1 := sin_sub ha hz
  have p2 := cos_add ha hz2
  rw [S_neg, C_neg] at p2
  have ee : tq * (a' - z') = tq * a' - tq * z' := by grind
  have ee2 : tq * a' + -(tq * z') = tq * a' - tq * z' := by grind
  rw [ee2] at p2
  rw [ee] at s5 s6
  have bz := SC_bd (y := tq * z') (by grind)
  have ba := sc_one a0 a1
  have m1 := rabs_le.1 (mul_rabs ba.1 s1)
  have m2 := rabs_le.1 (mul_rabs ba.1 s2)
  have m3 := rabs_le.1 (mul_rabs ba.2 s1)
  have m4 := rabs_le.1 (mul_rabs ba.2 s2)
  have m5 := rabs_le.1 (mul_rabs s3 bz.1)
  have m6 := rabs_le.1 (mul_rabs s3 bz.2)
  have m7 := rabs_le.1 (mul_rabs s4 bz.1)
  have m8 := rabs_le.1 (mul_rabs s4 bz.2)
  have s5 := rabs_le.1 s5
  have s6 := rabs_le.1 s6
  have p1 := rabs_le.1 p1
  have p2 := rabs_le.1 p2
  clear s1 s2 s3 s4 hz ha hz2 bz ba k1 k2 k3 k4 t1 t2 ee ee2 e1 e2 e
  generalize S (tq * a) = sa at *
  generalize C (tq * a) = ca at *
  generalize S (tq * z) = sz at *
  generalize C (tq * z) = cz at *
  generalize S (tq * a') = sa' at *
  generalize C (tq * a') = ca' at *
  generalize S (tq * z') = sz' at *
  generalize C (tq * z') = cz' at *
  constructor
  · rw [rabs_le]; constructor <;> grind
  · rw [rabs_le]; constructor <;> grind
end
section
open Ieee
theorem cauchy {s c a b R : Rat} (hc : rabs (s * s + c * c - 1) ≤ 1 / 1000000000) (R0 : 0 ≤ R) (h : (a * a + b * b) * (1 + 1 / 1000000000) ≤ R * R) : rabs (s * a + c * b) ≤ R := by
  have hc := rabs_le.1 hc
  have sq : ∀ z : Rat, 0 ≤ z * z := fun z => by rw [← rabs_sq]; exact Rat.mul_nonneg (rabs_nonneg z) (rabs_nonneg z)
  have k := sq (s * b - c * a)
  have e : (s * a + c * b) * (s * a + c * b) = (s * s + c * c) * (a * a + b * b) - (s * b - c * a) * (s * b - c * a) := by grind
  have a0 : 0 ≤ a * a + b * b := by have := sq a; have := sq b; grind
  have m := Rat.mul_le_mul_of_nonneg_right (show s * s + c * c ≤ 1 + 1 / 1000000000 by grind) a0
  refine sq_rabs R0 ?_
  rw [e]
  clear e hc
  generalize (s * s + c * c) * (a * a + b * b) = u at *
  generalize (s * b - c * a) * (s * b - c * a) = v at *
  generalize a * a + b * b = n at *
  grind
theorem sq_bd {x b : Rat} (h : rabs x ≤ b) : x * x ≤ b * b := by
  have := sq_le_sq (rabs_nonneg x) h
  rw [rabs_sq] at this; exact this
end
end Go.Proofs.YtcgnhnmigmdalaaGreatDoor
