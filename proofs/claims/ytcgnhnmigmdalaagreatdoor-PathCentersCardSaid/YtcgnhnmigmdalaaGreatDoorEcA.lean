/- Between two instants a sum keeps near its chord: the second difference. No program in sight. What the latitude can move beside its ends, in floating point; the latitudes between two near instants. No program in sight. The latitudes of the moon between two near instants lie in eclipse.latitudes' interval. No program in sight. -/
import Derived.Test.YtcgnhnmigmdalaaGreatDoorGwA
import Derived.Test.YtcgnhnmigmdalaaGreatDoorSmA
set_option linter.unusedVariables false
set_option linter.unusedSimpArgs false
namespace Go.Proofs.YtcgnhnmigmdalaaGreatDoor
section
open Ieee
theorem S_cube {x : Rat} (hx : rabs x ≤ 1 / 100) : rabs (S x - x) ≤ rabs x * (1 / 500 * rabs x) := by
  have hb := k_bd (x := x) (by have := rabs_le.1 hx; exact rabs_le.2 ⟨by grind, by grind⟩)
  have hr := rabs_nonneg x
  have h1 : rabs (x * x * pv kT x) ≤ 1 / 500 * rabs x := by
    have m1 := mul_rabs (a := x) (b := x) (A := rabs x) (B := 1 / 100) Rat.le_refl hx
    have m2 := mul_rabs (a := x * x) (b := pv kT x) (A := rabs x * (1 / 100)) (B := 1 / 5) m1 (rabs_le.2 ⟨by grind, by grind⟩)
    grind
  have e : S x - x = x * (x * x * pv kT x) := by rw [S_gT, gT_kT]; grind
  rw [e]
  exact mul_rabs Rat.le_refl h1
/-- The sine at an angle that was brought into a turn. -/
theorem sin_bring {x y d : Rat} {j : Int} (hx0 : 0 ≤ x) (hx1 : x ≤ 2 * piQ) (hy0 : 0 ≤ y) (hy1 : y ≤ 2 * piQ) (hd : rabs d ≤ 1 / 100) (h : y = x + d + (j : Rat) * (2 * piQ)) (hj : j = -1 ∨ j = 0 ∨ j = 1) :
    rabs (S y - S (x + d)) ≤ 1 / 1000000000000 := by
  have pib := pi_num
  obtain ⟨d1, d2⟩ := rabs_le.1 hd
  rcases hj with rfl | rfl | rfl
  · have c : ((-1 : Int) : Rat) = -1 := rfl
    rw [c] at h
    obtain ⟨t1, t2⟩ := rabs_le.1 (sin_turn (x := y) (rabs_le.2 ⟨by grind, by grind⟩)).1
    have e : x + d = y + 2 * piQ := by grind
    rw [e, rabs_le]
    constructor <;> grind
  · have c : ((0 : Int) : Rat) = 0 := rfl
    rw [c] at h
    have e : x + d = y := by grind
    rw [e, rabs_le]
    constructor <;> grind
  · have c : ((1 : Int) : Rat) = 1 := rfl
    rw [c] at h
    obtain ⟨t1, t2⟩ := rabs_le.1 (sin_turn (x := x + d) (rabs_le.2 ⟨by grind, by grind⟩)).1
    have e : y = x + d + 2 * piQ := by grind
    rw [e, rabs_le]
    constructor <;> grind
/-- The chord of a sine between x and x + D, at x + d: h d = u D. -/
theorem chord_one {x d D h u E y y1 : Rat} (hx : rabs x ≤ 32/5) (hd : rabs d ≤ E) (hD : rabs D ≤ E) (hE : E ≤ 1 / 100) (u0 : 0 ≤ u) (u1 : u ≤ h) (hl : h * d = u * D) (hy : rabs (S y - S (x + d)) ≤ 1 / 1000000000000) (hy1 : rabs (S y1 - S (x + D)) ≤ 1 / 1000000000000) :
    rabs (h * S y - ((h - u) * S x + u * S y1)) ≤ h * (51 / 100 * (E * E) + 1 / 10000000000) := by
  have E0 : 0 ≤ E := Rat.le_trans (rabs_nonneg d) hd
  have small : ∀ z, rabs z ≤ E → rabs z ≤ 1 / 100 ∧ rabs z ≤ 8/5 ∧ rabs z ≤ 16/5 ∧ rabs z ≤ 32/5 := fun z hz => ⟨by grind, by grind, by grind, by grind⟩
  have one : ∀ z, rabs z ≤ E → rabs (S (x + z) - S x - (C z - 1) * S x - C x * z) ≤ (1 + 1 / 100000000000) * (1 / 500 * (E * E)) + 1 / 10000000000000 ∧ -(E * E / 2) ≤ C z - 1 ∧ C z - 1 ≤ 1 / 100000000000 := by
    intro z hz
    obtain ⟨z1, z2, z3, z4⟩ := small z hz
    have a := rabs_le.1 (sin_add hx z3)
    have cx := (SC_bd hx).2
    have s3 := S_cube z1
    have s4 : rabs (S z - z) ≤ 1 / 500 * (E * E) := by
      have n := rabs_nonneg z
      have p := Rat.mul_nonneg (show 0 ≤ E - rabs z by grind) (show 0 ≤ E + rabs z by grind)
      grind
    have m := rabs_le.1 (mul_rabs cx s4)
    have cl := C_lin z2
    have cu := rabs_le.1 (SC_bd z4).2
    have zz : z * z ≤ E * E := by
      obtain ⟨q1, q2⟩ := rabs_le.1 hz
      have p := Rat.mul_nonneg (show 0 ≤ E - z by grind) (show 0 ≤ E + z by grind)
      grind
    refine ⟨?_, by grind, by grind⟩
    rw [rabs_le]
    constructor <;> grind
  obtain ⟨a1, a2, a3⟩ := one d hd
  obtain ⟨b1, b2, b3⟩ := one D hD
  have sx := rabs_le.1 (SC_bd hx).1
  have EE : 0 ≤ E * E := Rat.mul_nonneg E0 E0
  have h0 : 0 ≤ h := Rat.le_trans u0 u1
  obtain ⟨a4, a5⟩ := rabs_le.1 a1
  obtain ⟨b4, b5⟩ := rabs_le.1 b1
  obtain ⟨y4, y5⟩ := rabs_le.1 hy
  obtain ⟨z4, z5⟩ := rabs_le.1 hy1
  -- the two differences against the tangent
  generalize S (x + d) = sd at *
  generalize S (x + D) = sD at *
  generalize S y = sy at *
  generalize S y1 = sy1 at *
  generalize C d - 1 = cd at *
  generalize C D - 1 = cD at *
  generalize S x = s at *
  generalize C x = c at *
  generalize E * E = Q at *
  clear one small hd hD hx a1 b1 hy hy1
  -- P: what is left of the chord beside the tangent
  obtain ⟨e1, he1⟩ : ∃ e, e = sy - s - cd * s - c * d := ⟨_, rfl⟩
  obtain ⟨e2, he2⟩ : ∃ e, e = sy1 - s - cD * s - c * D := ⟨_, rfl⟩
  have k1 : rabs e1 ≤ 3 / 1000 * Q + 2 / 1000000000000 := rabs_le.2 ⟨by grind, by grind⟩
  have k2 : rabs e2 ≤ 3 / 1000 * Q + 2 / 1000000000000 := rabs_le.2 ⟨by grind, by grind⟩
  have id : h * sy - ((h - u) * s + u * sy1) = (h * cd - u * cD) * s + h * e1 - u * e2 := by
    have : c * (h * d) = c * (u * D) := by rw [hl]
    grind
  have q1 : rabs (h * cd - u * cD) ≤ h * (Q / 2 + 1 / 100000000000) := by
    have p1 := Rat.mul_le_mul_of_nonneg_left a2 h0
    have p2 := Rat.mul_le_mul_of_nonneg_left a3 h0
    have p3 := Rat.mul_le_mul_of_nonneg_left b2 u0
    have p4 := Rat.mul_le_mul_of_nonneg_left b3 u0
    have p5 := Rat.mul_nonneg (show 0 ≤ h - u by grind) EE
    rw [rabs_le]
    constructor <;> grind
  have q2 := rabs_le.1 (mul_rabs q1 (rabs_le.2 sx))
  have q3 := rabs_le.1 (mul_rabs (a := h) (A := h) (rabs_le.2 ⟨Rat.le_refl, by grind⟩) k1)
  have q4 := rabs_le.1 (mul_rabs (a := u) (A := h) (rabs_le.2 ⟨u1, by grind⟩) k2)
  have hQ := Rat.mul_nonneg h0 EE
  rw [id, rabs_le]
  clear id he1 he2 k1 k2 q1 a2 a3 a4 a5 b2 b3 b4 b5 y4 y5 z4 z5 sx hl
  generalize (h * cd - u * cD) * s = A1 at *
  generalize h * e1 = A2 at *
  generalize u * e2 = A3 at *
  constructor <;> grind
/-- What a term turns in a millisecond, at most. -/
def rtQ (t : Tm) : Rat := tq * (rabs t.rt * (1 / 86400000000000))
theorem term_chord (t : Tm) {x0 x x1 : Int} (h0 : x0 ≤ x) (h1 : x ≤ x1) (hq : rtQ t * ((x1 - x0 : Int) : Rat) ≤ 1 / 100) :
    rabs (((x1 - x0 : Int) : Rat) * termX x t - ((((x1 - x0 : Int) : Rat) - ((x - x0 : Int) : Rat)) * termX x0 t + ((x - x0 : Int) : Rat) * termX x1 t)) ≤ ((x1 - x0 : Int) : Rat) * (rabs t.amp * (51 / 100 * (rtQ t * ((x1 - x0 : Int) : Rat) * (rtQ t * ((x1 - x0 : Int) : Rat))) + 1 / 10000000000)) := by
  obtain ⟨k0, e0⟩ := partA_u t x0
  obtain ⟨k, e⟩ := partA_u t x
  obtain ⟨k1, e1⟩ := partA_u t x1
  obtain ⟨p0, p0'⟩ := partA_bd t x0
  obtain ⟨p, p'⟩ := partA_bd t x
  obtain ⟨p1, p1'⟩ := partA_bd t x1
  have dx := uA_diff t x0 x
  have d1 := uA_diff t x0 x1
  have u0 : (0 : Rat) ≤ ((x - x0 : Int) : Rat) := by exact_mod_cast (show 0 ≤ x - x0 by omega)
  have u1 : ((x - x0 : Int) : Rat) ≤ ((x1 - x0 : Int) : Rat) := Rat.intCast_le_intCast.2 (by omega)
  have tp : 0 ≤ tq ∧ tq * 1000000000 = 2 * piQ := by decide +kernel
  rw [termX_tq, termX_tq, termX_tq]
  generalize ((x - x0 : Int) : Rat) = u at *
  generalize ((x1 - x0 : Int) : Rat) = h at *
  have hA := rabs_nonneg (t.rt : Rat)
  have rt1 := rabs_le.1 (show rabs (t.rt : Rat) ≤ rabs (t.rt : Rat) from Rat.le_refl)
  -- the steps of the angle
  have stp : ∀ v, 0 ≤ v → v ≤ h → rabs (tq * ((t.rt : Rat) * v * (1 / 86400000000000))) ≤ rtQ t * h := by
    intro v v0 v1
    have m := mul_rabs (a := (t.rt : Rat)) (b := v * (1 / 86400000000000)) (A := rabs t.rt) (B := h * (1 / 86400000000000)) Rat.le_refl (rabs_le.2 ⟨by grind, by grind⟩)
    have m2 := mul_rabs (a := tq) (A := tq) (rabs_le.2 ⟨Rat.le_refl, by grind⟩) m
    unfold rtQ
    rw [show tq * ((t.rt : Rat) * v * (1 / 86400000000000)) = tq * ((t.rt : Rat) * (v * (1 / 86400000000000))) by grind]
    refine Rat.le_trans m2 ?_
    grind
  have hs := stp u u0 u1
  have hS := stp h (by grind) Rat.le_refl
  have turn : ∀ (q : Int) (P v : Rat), 0 ≤ P → P ≤ 1000000000 → P = partA t x0 + (t.rt : Rat) * v * (1 / 86400000000000) + (q : Rat) * 1000000000 → rabs (tq * ((t.rt : Rat) * v * (1 / 86400000000000))) ≤ 1 / 100 →
      rabs (S (tq * P) - S (tq * partA t x0 + tq * ((t.rt : Rat) * v * (1 / 86400000000000)))) ≤ 1 / 1000000000000 := by
    intro q P v P0 P1 hP hv
    have hv' := rabs_le.1 hv
    have big : rabs ((t.rt : Rat) * v * (1 / 86400000000000)) ≤ 10000000 := by
      have t1 : 6 / 1000000000 ≤ tq := by decide +kernel
      generalize (t.rt : Rat) * v * (1 / 86400000000000) = z at *
      rw [rabs_le]
      constructor
      · rcases (Rat.le_total : z ≤ 10000000 ∨ 10000000 ≤ z) with hz | hz
        · exact hz
        · have := Rat.mul_le_mul_of_nonneg_left hz tp.1
          grind
      · rcases (Rat.le_total : (-10000000) ≤ z ∨ z ≤ -10000000) with hz | hz
        · exact hz
        · have := Rat.mul_le_mul_of_nonneg_left hz tp.1
          grind
    have big' := rabs_le.1 big
    have hj : q = -1 ∨ q = 0 ∨ q = 1 := by
      refine turn_cases (a := partA t x0 + (t.rt : Rat) * v * (1 / 86400000000000)) (b := P) hP ?_ ?_
      · grind
      · grind
    refine sin_bring (j := q) ?_ ?_ ?_ ?_ hv ?_ hj
    · exact Rat.mul_nonneg tp.1 p0
    · have := Rat.mul_le_mul_of_nonneg_left p0' tp.1; grind
    · exact Rat.mul_nonneg tp.1 P0
    · have := Rat.mul_le_mul_of_nonneg_left P1 tp.1; grind
    · rw [hP, ← tp.2]; grind
  have c1 := turn (k0 - k) (partA t x) u p p' (by push_cast; grind) (Rat.le_trans hs hq)
  have c2 := turn (k0 - k1) (partA t x1) h p1 p1' (by push_cast; grind) (Rat.le_trans hS hq)
  have X0 : rabs (tq * partA t x0) ≤ 32/5 := by
    have a := Rat.mul_nonneg tp.1 p0
    have b := Rat.mul_le_mul_of_nonneg_left p0' tp.1
    have pib := pi_num
    exact rabs_le.2 ⟨by grind, by grind⟩
  have main := chord_one X0 hs hS hq u0 u1 (by grind) c1 c2
  have fin := mul_rabs (a := (t.amp : Rat)) (A := rabs t.amp) Rat.le_refl main
  rw [show h * ((t.amp : Rat) * S (tq * partA t x)) - ((h - u) * ((t.amp : Rat) * S (tq * partA t x0)) + u * ((t.amp : Rat) * S (tq * partA t x1))) = (t.amp : Rat) * (h * S (tq * partA t x) - ((h - u) * S (tq * partA t x0) + u * S (tq * partA t x1))) by grind]
  refine Rat.le_trans fin ?_
  grind
end
section
open Ieee
def spd : Int := 3648980
def mA (h : Int) : Nat := fdiv (fmul (fofI spd) (fofI h)) wDayF
def mB (h : Int) : Nat := fdiv (fmul (mA h) (fofI h)) wDayF
def mF (h : Int) : Int := ((double.read (mB h)).toInt .zero).getD 0
theorem more_run {h : Int} (h0 : 0 ≤ h) (h1 : h ≤ 600000) : ∃ p r, double.mul (fofI spd) (fofI h) = some p ∧ double.div p wDayF = some (mA h) ∧ double.mul (mA h) (fofI h) = some r ∧ double.div r wDayF = some (mB h) ∧ (double.read (mB h)).toInt .zero = some (mF h) ∧
    3648980 * ((h : Rat) * (1 / 86400000)) * ((h : Rat) * (1 / 86400000)) - 1 - 1 / 1000 ≤ (mF h : Rat) ∧ 0 ≤ mF h ∧ mF h ≤ 176 := by
  have H0 : (0 : Rat) ≤ (h : Rat) := by exact_mod_cast h0
  have H1 : (h : Rat) ≤ 600000 := Rat.intCast_le_intCast.2 h1
  have nS : Num (fofI spd) ((spd : Int) : Rat) := fofI_num spd (by decide) (by decide)
  have eS : ((spd : Int) : Rat) = 3648980 := rfl
  rw [eS] at nS
  have nH := fofI_num h (by omega) (by omega)
  have nD : Num wDayF (cv wDayF) := cv_num (by decide +kernel)
  have eD : cv wDayF = 86400000 := by decide +kernel
  rw [eD] at nD
  have dv : ∀ x : Rat, x / 86400000 = x * (1 / 86400000) := fun x => by rw [Rat.div_def, Rat.div_def]; grind
  have u41 : p2 ((41 : Nat) : Int) = 2199023255552 ∧ p2 (((41 : Nat) : Int) - 53) = 1 / 4096 := by decide +kernel
  have u15 : p2 ((15 : Nat) : Int) = 32768 ∧ p2 (((15 : Nat) : Int) - 54) ≤ 1 / 100000000000 ∧ p2 (((15 : Nat) : Int) - 53) ≤ 1 / 100000000000 ∧ 0 ≤ p2 (((15 : Nat) : Int) - 54) ∧ 0 ≤ p2 (((15 : Nat) : Int) - 53) := by decide +kernel
  have u34 : p2 ((34 : Nat) : Int) = 17179869184 ∧ p2 (((34 : Nat) : Int) - 53) ≤ 1 / 100000 ∧ 0 ≤ p2 (((34 : Nat) : Int) - 53) := by decide +kernel
  have u8 : p2 ((8 : Nat) : Int) = 256 ∧ p2 (((8 : Nat) : Int) - 54) ≤ 1 / 1000000000000 ∧ p2 (((8 : Nat) : Int) - 53) ≤ 1 / 1000000000000 ∧ 0 ≤ p2 (((8 : Nat) : Int) - 54) ∧ 0 ≤ p2 (((8 : Nat) : Int) - 53) := by decide +kernel
  -- the first product
  obtain ⟨p, p1, p3⟩ := mul_ap (a := 0) (b := 0) 3648980 600000 41 (by omega) nS.ap nH.ap (by grind) (by grind) H1 (by grind) (by rw [u41.1]; grind)
  have p4 : Ap p (3648980 * (h : Rat)) (1 / 4096) := p3.mono (by rw [u41.2]; grind)
  have X0 : (0 : Rat) ≤ 3648980 * (h : Rat) := by grind
  obtain ⟨q, q1, q3⟩ := div_ap (a := 1 / 4096) (b := 0) 86400000 25341 15 (by omega) p4 nD.ap (by decide +kernel) (by grind) (by rw [dv]; exact rabs_le.2 ⟨by grind, by grind⟩) (by
    rw [u15.1]
    have e : (1 / 4096 + 25341 * (0 : Rat)) / 86400000 ≤ 1 / 100000000000 := by decide +kernel
    have := u15.2.1
    grind)
  rw [dv] at q3
  have q4 : Ap q (3648980 * (h : Rat) * (1 / 86400000)) (4 / 100000000000) := q3.mono (by
    have e : (1 / 4096 + 25341 * (0 : Rat)) / 86400000 ≤ 1 / 100000000000 := by decide +kernel
    have := u15.2
    grind)
  have eA : mA h = q := by unfold mA; rw [fmul_of p1, fdiv_of q1]
  obtain ⟨r, r1, r3⟩ := mul_ap (b := 0) 25341 600000 34 (by omega) q4 nH.ap (by grind) (by grind) H1 (by grind) (by rw [u34.1]; grind)
  have hp63 : p < 9223372036854775808 := mul_lt63 (fofI_lt63 spd (by decide)) (fofI_lt63 h h0) nS nH p1
  obtain ⟨sp, mp, pp, a1, a2, a3⟩ := p4
  have hq63 : q < 9223372036854775808 := div_lt63 hp63 (by decide +kernel) ⟨sp, mp, pp, a1, rfl⟩ nD (by decide +kernel) q1
  obtain ⟨sq, mq, pq, b1, b2, b3⟩ := q4
  have hr63 : r < 9223372036854775808 := mul_lt63 hq63 (fofI_lt63 h h0) ⟨sq, mq, pq, b1, rfl⟩ nH r1
  have r4 : Ap r (3648980 * (h : Rat) * (1 / 86400000) * (h : Rat)) (4 / 100000) := r3.mono (by have := u34.2; grind)
  have HH : 0 ≤ (h : Rat) * (h : Rat) := Rat.mul_nonneg H0 H0
  have HH1 : (h : Rat) * (h : Rat) ≤ 600000 * 600000 := by
    have := Rat.mul_nonneg (show 0 ≤ 600000 - (h : Rat) by grind) (show 0 ≤ 600000 + (h : Rat) by grind)
    grind
  obtain ⟨v, v1, v3⟩ := div_ap (b := 0) 86400000 177 8 (by omega) r4 nD.ap (by decide +kernel) (by grind) (by rw [dv]; exact rabs_le.2 ⟨by grind, by grind⟩) (by
    rw [u8.1]
    have e : (4 / 100000 + 177 * (0 : Rat)) / 86400000 ≤ 1 / 1000000000000 := by decide +kernel
    have := u8.2.1
    grind)
  rw [dv] at v3
  have eB : mB h = v := by unfold mB; rw [eA, fmul_of r1, fdiv_of v1]
  obtain ⟨sr, mr, pr, c1, c2, c3⟩ := r4
  have hv63 : v < 9223372036854775808 := div_lt63 hr63 (by decide +kernel) ⟨sr, mr, pr, c1, rfl⟩ nD (by decide +kernel) v1
  obtain ⟨s, m, e, d1, d2, d3⟩ := v3
  have hs := sign_of hv63 d1
  subst hs
  obtain ⟨k, k1, k2, k3⟩ := toInt_pos m e
  have ei : (double.read v).toInt .zero = some ((k : Nat) : Int) := by
    unfold Reads at d1
    rw [d1]; exact k1
  have ef : mF h = (k : Int) := by unfold mF; rw [eB, ei]; rfl
  have e0 : (4 / 100000 + 177 * (0 : Rat)) / 86400000 ≤ 1 / 1000000000000 := by decide +kernel
  have ek : (((k : Nat) : Int) : Rat) = (k : Rat) := rfl
  have w8 := u8.2
  refine ⟨p, r, p1, by rw [eA]; exact q1, by rw [eA]; exact r1, by rw [eB]; exact v1, by rw [eB, ef]; exact ei, ?_, by rw [ef]; omega, ?_⟩
  · rw [ef, ek]
    clear p1 p3 q1 q3 r1 r3 v1 a1 b1 c1 d1 k1 ei ef eA eB nS nH nD
    generalize p2 (((8 : Nat) : Int) - 54) = y1 at *
    generalize p2 (((8 : Nat) : Int) - 53) = y2 at *
    generalize rv false m e = z at *
    grind
  · rw [ef]
    have : ((k : Nat) : Rat) < ((177 : Nat) : Rat) := by
      have c : ((177 : Nat) : Rat) = 177 := rfl
      rw [c]
      clear p1 p3 q1 q3 r1 r3 v1 a1 b1 c1 d1 k1 ei ef eA eB nS nH nD
      generalize p2 (((8 : Nat) : Int) - 54) = y1 at *
      generalize p2 (((8 : Nat) : Int) - 53) = y2 at *
      generalize rv false m e = z at *
      grind
    have : k < 177 := by exact_mod_cast this
    omega
end
section
open Ieee
def eLo (x0 x1 : Int) : Int := min (northLo x0) (northLo x1) - (mF (x1 - x0) + 2)
def eHi (x0 x1 : Int) : Int := max (northHi x0) (northHi x1) + (mF (x1 - x0) + 2)
def nT0 : Tm := ⟨14244783, 648500531, 36748195111111⟩
def nT1 : Tm := ⟨779450, 747884547, 73039842194444⟩
def nT2 : Tm := ⟨771369, 450883485, -456548027778⟩
theorem north_three (y : Int) : xAt northL y northL.length = termX y nT0 + termX y nT1 + termX y nT2 := by
  have e0 : xAt northL y 0 = 0 := rfl
  have e1 := xAt_snoc northL y 0 (by decide)
  have e2 := xAt_snoc northL y 1 (by decide)
  have e3 := xAt_snoc northL y 2 (by decide)
  show xAt northL y 3 = _
  rw [e3, e2, e1, e0]
  have f0 : northL[0] = nT0 := rfl
  have f1 : northL[1] = nT1 := rfl
  have f2 : northL[2] = nT2 := rfl
  rw [f0, f1, f2]
  grind
theorem nT_num : (rtQ nT0 * 600000 ≤ 1 / 100 ∧ rtQ nT1 * 600000 ≤ 1 / 100 ∧ rtQ nT2 * 600000 ≤ 1 / 100) ∧ (0 ≤ rtQ nT0 ∧ 0 ≤ rtQ nT1 ∧ 0 ≤ rtQ nT2) ∧
    51 / 100 * (rabs nT0.amp * (rtQ nT0 * rtQ nT0) + rabs nT1.amp * (rtQ nT1 * rtQ nT1) + rabs nT2.amp * (rtQ nT2 * rtQ nT2)) ≤ 480000 * ((1 / 86400000) * (1 / 86400000)) ∧ (rabs nT0.amp + rabs nT1.amp + rabs nT2.amp) * (1 / 10000000000) ≤ 1 / 100 := by decide +kernel
theorem mul_pos_nn {h z : Rat} (hh : 0 < h) (hz : 0 ≤ h * z) : 0 ≤ z := by
  rcases (Rat.le_total : 0 ≤ z ∨ z ≤ 0) with q | q
  · exact q
  · have := Rat.mul_nonneg (show 0 ≤ h by grind) (show 0 ≤ -z by grind)
    by_cases e : z = 0
    · grind
    · have : 0 < h * -z := Rat.mul_pos hh (by grind)
      grind
/-- The sum keeps near its chord. -/
theorem north_chord {x0 x x1 : Int} (h0 : x0 ≤ x) (h1 : x ≤ x1) (hw : x1 - x0 ≤ 600000) {m M : Rat} (a0 : m ≤ xAt northL x0 northL.length) (a1 : m ≤ xAt northL x1 northL.length) (b0 : xAt northL x0 northL.length ≤ M) (b1 : xAt northL x1 northL.length ≤ M) :
    m - (480000 * (((x1 - x0 : Int) : Rat) * (1 / 86400000)) * (((x1 - x0 : Int) : Rat) * (1 / 86400000)) + 1 / 100) ≤ xAt northL x northL.length ∧ xAt northL x northL.length ≤ M + (480000 * (((x1 - x0 : Int) : Rat) * (1 / 86400000)) * (((x1 - x0 : Int) : Rat) * (1 / 86400000)) + 1 / 100) := by
  have hn : (0 : Rat) ≤ ((x1 - x0 : Int) : Rat) := by exact_mod_cast (show 0 ≤ x1 - x0 by omega)
  have hsq := Rat.mul_nonneg hn hn
  by_cases hz : x1 = x0
  · have e : x = x0 := by omega
    subst e
    constructor <;> grind
  · have hp : (0 : Rat) < ((x1 - x0 : Int) : Rat) := by exact_mod_cast (show 0 < x1 - x0 by omega)
    have hW : ((x1 - x0 : Int) : Rat) ≤ 600000 := Rat.intCast_le_intCast.2 hw
    obtain ⟨⟨r0, r1, r2⟩, ⟨p0, p1, p2⟩, q1, q2⟩ := nT_num
    have up : ∀ r : Rat, 0 ≤ r → r * 600000 ≤ 1 / 100 → r * ((x1 - x0 : Int) : Rat) ≤ 1 / 100 := fun r hr hb => by
      have := Rat.mul_le_mul_of_nonneg_left hW hr
      grind
    have c0 := rabs_le.1 (term_chord nT0 h0 h1 (up _ p0 r0))
    have c1 := rabs_le.1 (term_chord nT1 h0 h1 (up _ p1 r1))
    have c2 := rabs_le.1 (term_chord nT2 h0 h1 (up _ p2 r2))
    have u0 : (0 : Rat) ≤ ((x - x0 : Int) : Rat) := by exact_mod_cast (show 0 ≤ x - x0 by omega)
    have u1 : ((x - x0 : Int) : Rat) ≤ ((x1 - x0 : Int) : Rat) := Rat.intCast_le_intCast.2 (by omega)
    rw [north_three] at a0 a1 b0 b1
    rw [north_three]
    clear r0 r1 r2 up hW
    generalize ((x1 - x0 : Int) : Rat) = h at *
    generalize ((x - x0 : Int) : Rat) = u at *
    obtain ⟨A, hA⟩ : ∃ A, A = termX x0 nT0 + termX x0 nT1 + termX x0 nT2 := ⟨_, rfl⟩
    obtain ⟨B, hB⟩ : ∃ B, B = termX x1 nT0 + termX x1 nT1 + termX x1 nT2 := ⟨_, rfl⟩
    rw [← hA] at a0 b0
    rw [← hB] at a1 b1
    obtain ⟨K, hK⟩ : ∃ K, K = rabs nT0.amp * (rtQ nT0 * rtQ nT0) + rabs nT1.amp * (rtQ nT1 * rtQ nT1) + rabs nT2.amp * (rtQ nT2 * rtQ nT2) := ⟨_, rfl⟩
    rw [← hK] at q1
    have k1 := Rat.mul_le_mul_of_nonneg_right q1 hsq
    have k2 := Rat.mul_le_mul_of_nonneg_right k1 hn
    have k3 := Rat.mul_le_mul_of_nonneg_right q2 hn
    have m1 := Rat.mul_le_mul_of_nonneg_left a0 (show 0 ≤ h - u by grind)
    have m2 := Rat.mul_le_mul_of_nonneg_left a1 u0
    have m3 := Rat.mul_le_mul_of_nonneg_left b0 (show 0 ≤ h - u by grind)
    have m4 := Rat.mul_le_mul_of_nonneg_left b1 u0
    have lin : rabs (h * (termX x nT0 + termX x nT1 + termX x nT2) - ((h - u) * A + u * B)) ≤ h * (480000 * (h * (1 / 86400000)) * (h * (1 / 86400000)) + 1 / 100) := by
      have big : h * (rabs nT0.amp * (51 / 100 * (rtQ nT0 * h * (rtQ nT0 * h)) + 1 / 10000000000)) + h * (rabs nT1.amp * (51 / 100 * (rtQ nT1 * h * (rtQ nT1 * h)) + 1 / 10000000000)) + h * (rabs nT2.amp * (51 / 100 * (rtQ nT2 * h * (rtQ nT2 * h)) + 1 / 10000000000)) ≤ h * (480000 * (h * (1 / 86400000)) * (h * (1 / 86400000)) + 1 / 100) := by
        have e : h * (rabs nT0.amp * (51 / 100 * (rtQ nT0 * h * (rtQ nT0 * h)) + 1 / 10000000000)) + h * (rabs nT1.amp * (51 / 100 * (rtQ nT1 * h * (rtQ nT1 * h)) + 1 / 10000000000)) + h * (rabs nT2.amp * (51 / 100 * (rtQ nT2 * h * (rtQ nT2 * h)) + 1 / 10000000000)) = 51 / 100 * K * (h * h) * h + (rabs nT0.amp + rabs nT1.amp + rabs nT2.amp) * (1 / 10000000000) * h := by rw [hK]; grind
        rw [e]
        grind
      rw [rabs_le, hA, hB]
      constructor <;> grind
    have lin := rabs_le.1 lin
    clear c0 c1 c2 q1 q2 k1 k2 k3 hK hA hB
    generalize termX x nT0 + termX x nT1 + termX x nT2 = F at *
    generalize 480000 * (h * (1 / 86400000)) * (h * (1 / 86400000)) + 1 / 100 = E at *
    constructor
    · have := mul_pos_nn (z := F - (m - E)) hp (by grind)
      grind
    · have := mul_pos_nn (z := M + E - F) hp (by grind)
      grind
theorem ecl_in {x0 x x1 : Int} (h0 : x0 ≤ x) (h1 : x ≤ x1) (hw : x1 - x0 ≤ 600000) : eLo x0 x1 * 1048576 + 1000000 ≤ northV x - 20000 * 1048576 ∧ northV x + 20000 * 1048576 + 1000000 ≤ eHi x0 x1 * 1048576 := by
  have hs := sumOk_of north_e
  obtain ⟨l0, -, -, g0⟩ := val_at (i := x0) hs
  obtain ⟨l1, -, -, g1⟩ := val_at (i := x1) hs
  obtain ⟨-, l0', g0', -⟩ := val_at (i := x0) hs
  obtain ⟨-, l1', g1', -⟩ := val_at (i := x1) hs
  have hn := rabs_le.1 (refAt_near (m := 0) (inst := x) hs.tm northL.length (Nat.le_refl _))
  obtain ⟨-, -, -, -, -, -, -, mb, mz, -⟩ := more_run (h := x1 - x0) (by omega) hw
  have eL : northL.length = 3 := rfl
  rw [eL] at hn l0 l1 g0 g1 l0' l1' g0' g1'
  have c1 : ((20000 : Int) : Rat) = 20000 := rfl
  have c0 : ((0 : Int) : Rat) = 0 := rfl
  have n3 : ((3 : Nat) : Rat) = 3 := rfl
  have hq : 0 ≤ ((x1 - x0 : Int) : Rat) * (1 / 86400000) * (((x1 - x0 : Int) : Rat) * (1 / 86400000)) := by
    have : (0 : Rat) ≤ ((x1 - x0 : Int) : Rat) * (1 / 86400000) := Rat.mul_nonneg (by exact_mod_cast (show 0 ≤ x1 - x0 by omega)) (by decide +kernel)
    exact Rat.mul_nonneg this this
  have ch := @north_chord x0 x x1 h0 h1 hw
  rw [eL] at ch
  rw [c1, c0] at l0 l1 g0 g1 l0' l1' g0' g1'
  rw [c0, n3] at hn
  have nl0 : valLo 0 northL 20000 x0 = northLo x0 := rfl
  have nl1 : valLo 0 northL 20000 x1 = northLo x1 := rfl
  have nh0 : valHi 0 northL 20000 x0 = northHi x0 := rfl
  have nh1 : valHi 0 northL 20000 x1 = northHi x1 := rfl
  have nv : refAt 0 northL x 3 = northV x := rfl
  rw [nl0] at l0 l0'
  rw [nl1] at l1 l1'
  rw [nh0] at g0 g0'
  rw [nh1] at g1 g1'
  rw [nv] at hn
  obtain ⟨lo, hlo⟩ : ∃ lo, lo = min (northLo x0) (northLo x1) := ⟨_, rfl⟩
  obtain ⟨hi, hhi⟩ : ∃ hi, hi = max (northHi x0) (northHi x1) := ⟨_, rfl⟩
  have z0 : (lo : Rat) ≤ (northLo x0 : Rat) := Rat.intCast_le_intCast.2 (by omega)
  have z1 : (lo : Rat) ≤ (northLo x1 : Rat) := Rat.intCast_le_intCast.2 (by omega)
  have y0 : (northHi x0 : Rat) ≤ (hi : Rat) := Rat.intCast_le_intCast.2 (by omega)
  have y1 : (northHi x1 : Rat) ≤ (hi : Rat) := Rat.intCast_le_intCast.2 (by omega)
  obtain ⟨r1, r2⟩ := ch (m := (lo : Rat) + 20000 - 1 / 1000) (M := (hi : Rat) - 20000 + 1 / 1000) (by grind) (by grind) (by grind) (by grind)
  have s1 : ((eLo x0 x1 * 1048576 + 1000000 : Int) : Rat) ≤ ((northV x - 20000 * 1048576 : Int) : Rat) := by
    unfold eLo
    rw [← hlo]
    push_cast
    clear hlo hhi g0 g1 g0' g1' l0 l1 l0' l1' r2 ch
    grind
  have s2 : ((northV x + 20000 * 1048576 + 1000000 : Int) : Rat) ≤ ((eHi x0 x1 * 1048576 : Int) : Rat) := by
    unfold eHi
    rw [← hhi]
    push_cast
    clear hlo hhi g0 g1 g0' g1' l0 l1 l0' l1' r1 ch
    grind
  exact ⟨Rat.intCast_le_intCast.1 s1, Rat.intCast_le_intCast.1 s2⟩
theorem north_aR : aR northL northL.length * ((628320 / 100000000000000) * (1 / 86400000000000) * 600000) ≤ 25345 ∧ aS northL northL.length * (2 / 100000000) ≤ 1 ∧ 0 ≤ aR northL northL.length := by decide +kernel
theorem ecl_wide {x0 x1 : Int} (h0 : x0 ≤ x1) (hw : x1 - x0 ≤ 600000) : eLo x0 x1 ≤ eHi x0 x1 ∧ eHi x0 x1 - eLo x0 x1 ≤ 66000 := by
  have hs := sumOk_of north_e
  obtain ⟨l0, l0', -, -⟩ := val_at (i := x0) hs
  obtain ⟨l1, l1', -, -⟩ := val_at (i := x1) hs
  have li := rabs_le.1 (xAt_lip northL x0 x1 h0 northL.length (Nat.le_refl _))
  obtain ⟨q1, q2, q3⟩ := north_aR
  have hW : ((x1 - x0 : Int) : Rat) ≤ 600000 := Rat.intCast_le_intCast.2 hw
  have m := Rat.mul_le_mul_of_nonneg_left (Rat.mul_le_mul_of_nonneg_left hW (show (0 : Rat) ≤ (628320 / 100000000000000) * (1 / 86400000000000) by decide +kernel)) q3
  have nl0 : valLo 0 northL 20000 x0 = northLo x0 := rfl
  have nl1 : valLo 0 northL 20000 x1 = northLo x1 := rfl
  rw [nl0] at l0 l0'
  rw [nl1] at l1 l1'
  have d : -25350 ≤ northLo x1 - northLo x0 ∧ northLo x1 - northLo x0 ≤ 25350 := by
    have a1 : ((-25350 : Int) : Rat) ≤ ((northLo x1 - northLo x0 : Int) : Rat) := by
      rw [show ((-25350 : Int) : Rat) = -25350 from rfl]; push_cast; grind
    have a2 : ((northLo x1 - northLo x0 : Int) : Rat) ≤ ((25350 : Int) : Rat) := by
      rw [show ((25350 : Int) : Rat) = 25350 from rfl]; push_cast; grind
    exact ⟨Rat.intCast_le_intCast.1 a1, Rat.intCast_le_intCast.1 a2⟩
  obtain ⟨-, -, f0, -, -⟩ := north_facts x0
  obtain ⟨-, -, f1, -, -⟩ := north_facts x1
  obtain ⟨o0, -⟩ := ecl_in (Int.le_refl x0) h0 hw
  obtain ⟨-, o1⟩ := ecl_in (Int.le_refl x0) h0 hw
  obtain ⟨-, -, -, -, -, -, -, -, mz, m6⟩ := more_run (h := x1 - x0) (by omega) hw
  unfold eLo eHi at *
  omega
end
end Go.Proofs.YtcgnhnmigmdalaaGreatDoor
