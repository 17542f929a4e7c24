/- Between two instants a sum keeps near its chord: the second difference. No program in sight. -/
import Derived.Test.YtcgnhnmigmdalaaDoorGwA
set_option linter.unusedVariables false
set_option linter.unusedSimpArgs false
namespace Go.Proofs.YtcgnhnmigmdalaaDoor
open Ieee
theorem S_cube {x : Rat} (hx : rabs x ≤ 1 / 100) : rabs (S x - x) ≤ rabs x * (1 / 500 * rabs x) := by
  have hb := k_bd (x := x) (by have := rabs_le.1 hx; exact rabs_le.2 ⟨by grind, by grind⟩)
  have hr := rabs_nonneg x
  have h1 : rabs (x * x * pv kT x) ≤ 1 / 500 * rabs x := by
    have m1 := mul_rabs (a := x) (b := x) (A := rabs x) (B := 1 / 100) Rat.le_refl hx
    have m2 := mul_rabs (a := x * x) (b := pv kT x) (A := rabs x * (1 / 100)) (B := 1 / 5) m1 (rabs_le.2 ⟨by grind, by grind⟩)
    grind
  have e : S x - x = x * (x * x * pv kT x) := by rw [S_gT, gT_kT]; grind
  rw [e]
  exact mul_rabs Rat.le_refl h1
/-- The sine at an angle that was brought into a turn. -/
theorem sin_bring {x y d : Rat} {j : Int} (hx0 : 0 ≤ x) (hx1 : x ≤ 2 * piQ) (hy0 : 0 ≤ y) (hy1 : y ≤ 2 * piQ) (hd : rabs d ≤ 1 / 100) (h : y = x + d + (j : Rat) * (2 * piQ)) (hj : j = -1 ∨ j = 0 ∨ j = 1) :
    rabs (S y - S (x + d)) ≤ 1 / 1000000000000 := by
  have pib := pi_num
  obtain ⟨d1, d2⟩ := rabs_le.1 hd
  rcases hj with rfl | rfl | rfl
  · have c : ((-1 : Int) : Rat) = -1 := rfl
    rw [c] at h
    obtain ⟨t1, t2⟩ := rabs_le.1 (sin_turn (x := y) (rabs_le.2 ⟨by grind, by grind⟩)).1
    have e : x + d = y + 2 * piQ := by grind
    rw [e, rabs_le]
    constructor <;> grind
  · have c : ((0 : Int) : Rat) = 0 := rfl
    rw [c] at h
    have e : x + d = y := by grind
    rw [e, rabs_le]
    constructor <;> grind
  · have c : ((1 : Int) : Rat) = 1 := rfl
    rw [c] at h
    obtain ⟨t1, t2⟩ := rabs_le.1 (sin_turn (x := x + d) (rabs_le.2 ⟨by grind, by grind⟩)).1
    have e : y = x + d + 2 * piQ := by grind
    rw [e, rabs_le]
    constructor <;> grind
/-- The chord of a sine between x and x + D, at x + d: h d = u D. -/
theorem chord_one {x d D h u E y y1 : Rat} (hx : rabs x ≤ 32/5) (hd : rabs d ≤ E) (hD : rabs D ≤ E) (hE : E ≤ 1 / 100) (u0 : 0 ≤ u) (u1 : u ≤ h) (hl : h * d = u * D) (hy : rabs (S y - S (x + d)) ≤ 1 / 1000000000000) (hy1 : rabs (S y1 - S (x + D)) ≤ 1 / 1000000000000) :
    rabs (h * S y - ((h - u) * S x + u * S y1)) ≤ h * (51 / 100 * (E * E) + 1 / 10000000000) := by
  have E0 : 0 ≤ E := Rat.le_trans (rabs_nonneg d) hd
  have small : ∀ z, rabs z ≤ E → rabs z ≤ 1 / 100 ∧ rabs z ≤ 8/5 ∧ rabs z ≤ 16/5 ∧ rabs z ≤ 32/5 := fun z hz => ⟨by grind, by grind, by grind, by grind⟩
  have one : ∀ z, rabs z ≤ E → rabs (S (x + z) - S x - (C z - 1) * S x - C x * z) ≤ (1 + 1 / 100000000000) * (1 / 500 * (E * E)) + 1 / 10000000000000 ∧ -(E * E / 2) ≤ C z - 1 ∧ C z - 1 ≤ 1 / 100000000000 := by
    intro z hz
    obtain ⟨z1, z2, z3, z4⟩ := small z hz
    have a := rabs_le.1 (sin_add hx z3)
    have cx := (SC_bd hx).2
    have s3 := S_cube z1
    have s4 : rabs (S z - z) ≤ 1 / 500 * (E * E) := by
      have n := rabs_nonneg z
      have p := Rat.mul_nonneg (show 0 ≤ E - rabs z by grind) (show 0 ≤ E + rabs z by grind)
      grind
    have m := rabs_le.1 (mul_rabs cx s4)
    have cl := C_lin z2
    have cu := rabs_le.1 (SC_bd z4).2
    have zz : z * z ≤ E * E := by
      obtain ⟨q1, q2⟩ := rabs_le.1 hz
      have p := Rat.mul_nonneg (show 0 ≤ E - z by grind) (show 0 ≤ E + z by grind)
      grind
    refine ⟨?_, by grind, by grind⟩
    rw [rabs_le]
    constructor <;> grind
  obtain ⟨a1, a2, a3⟩ := one d hd
  obtain ⟨b1, b2, b3⟩ := one D hD
  have sx := rabs_le.1 (SC_bd hx).1
  have EE : 0 ≤ E * E := Rat.mul_nonneg E0 E0
  have h0 : 0 ≤ h := Rat.le_trans u0 u1
  obtain ⟨a4, a5⟩ := rabs_le.1 a1
  obtain ⟨b4, b5⟩ := rabs_le.1 b1
  obtain ⟨y4, y5⟩ := rabs_le.1 hy
  obtain ⟨z4, z5⟩ := rabs_le.1 hy1
  -- the two differences against the tangent
  generalize S (x + d) = sd at *
  generalize S (x + D) = sD at *
  generalize S y = sy at *
  generalize S y1 = sy1 at *
  generalize C d - 1 = cd at *
  generalize C D - 1 = cD at *
  generalize S x = s at *
  generalize C x = c at *
  generalize E * E = Q at *
  clear one small hd hD hx a1 b1 hy hy1
  -- P: what is left of the chord beside the tangent
  obtain ⟨e1, he1⟩ : ∃ e, e = sy - s - cd * s - c * d := ⟨_, rfl⟩
  obtain ⟨e2, he2⟩ : ∃ e, e = sy1 - s - cD * s - c * D := ⟨_, rfl⟩
  have k1 : rabs e1 ≤ 3 / 1000 * Q + 2 / 1000000000000 := rabs_le.2 ⟨by grind, by grind⟩
  have k2 : rabs e2 ≤ 3 / 1000 * Q + 2 / 1000000000000 := rabs_le.2 ⟨by grind, by grind⟩
  have id : h * sy - ((h - u) * s + u * sy1) = (h * cd - u * cD) * s + h * e1 - u * e2 := by
    have : c * (h * d) = c * (u * D) := by rw [hl]
    grind
  have q1 : rabs (h * cd - u * cD) ≤ h * (Q / 2 + 1 / 100000000000) := by
    have p1 := Rat.mul_le_mul_of_nonneg_left a2 h0
    have p2 := Rat.mul_le_mul_of_nonneg_left a3 h0
    have p3 := Rat.mul_le_mul_of_nonneg_left b2 u0
    have p4 := Rat.mul_le_mul_of_nonneg_left b3 u0
    have p5 := Rat.mul_nonneg (show 0 ≤ h - u by grind) EE
    rw [rabs_le]
    constructor <;> grind
  have q2 := rabs_le.1 (mul_rabs q1 (rabs_le.2 sx))
  have q3 := rabs_le.1 (mul_rabs (a := h) (A := h) (rabs_le.2 ⟨Rat.le_refl, by grind⟩) k1)
  have q4 := rabs_le.1 (mul_rabs (a := u) (A := h) (rabs_le.2 ⟨u1, by grind⟩) k2)
  have hQ := Rat.mul_nonneg h0 EE
  rw [id, rabs_le]
  clear id he1 he2 k1 k2 q1 a2 a3 a4 a5 b2 b3 b4 b5 y4 y5 z4 z5 sx hl
  generalize (h * cd - u * cD) * s = A1 at *
  generalize h * e1 = A2 at *
  generalize u * e2 = A3 at *
  constructor <;> grind
/-- What a term turns in a millisecond, at most. -/
def rtQ (t : Tm) : Rat := tq * (rabs t.rt * (1 / 86400000000000))
theorem term_chord (t : Tm) {x0 x x1 : Int} (h0 : x0 ≤ x) (h1 : x ≤ x1) (hq : rtQ t * ((x1 - x0 : Int) : Rat) ≤ 1 / 100) :
    rabs (((x1 - x0 : Int) : Rat) * termX x t - ((((x1 - x0 : Int) : Rat) - ((x - x0 : Int) : Rat)) * termX x0 t + ((x - x0 : Int) : Rat) * termX x1 t)) ≤ ((x1 - x0 : Int) : Rat) * (rabs t.amp * (51 / 100 * (rtQ t * ((x1 - x0 : Int) : Rat) * (rtQ t * ((x1 - x0 : Int) : Rat))) + 1 / 10000000000)) := by
  obtain ⟨k0, e0⟩ := partA_u t x0
  obtain ⟨k, e⟩ := partA_u t x
  obtain ⟨k1, e1⟩ := partA_u t x1
  obtain ⟨p0, p0'⟩ := partA_bd t x0
  obtain ⟨p, p'⟩ := partA_bd t x
  obtain ⟨p1, p1'⟩ := partA_bd t x1
  have dx := uA_diff t x0 x
  have d1 := uA_diff t x0 x1
  have u0 : (0 : Rat) ≤ ((x - x0 : Int) : Rat) := by exact_mod_cast (show 0 ≤ x - x0 by omega)
  have u1 : ((x - x0 : Int) : Rat) ≤ ((x1 - x0 : Int) : Rat) := Rat.intCast_le_intCast.2 (by omega)
  have tp : 0 ≤ tq ∧ tq * 1000000000 = 2 * piQ := by decide +kernel
  rw [termX_tq, termX_tq, termX_tq]
  generalize ((x - x0 : Int) : Rat) = u at *
  generalize ((x1 - x0 : Int) : Rat) = h at *
  have hA := rabs_nonneg (t.rt : Rat)
  have rt1 := rabs_le.1 (show rabs (t.rt : Rat) ≤ rabs (t.rt : Rat) from Rat.le_refl)
  -- the steps of the angle
  have stp : ∀ v, 0 ≤ v → v ≤ h → rabs (tq * ((t.rt : Rat) * v * (1 / 86400000000000))) ≤ rtQ t * h := by
    intro v v0 v1
    have m := mul_rabs (a := (t.rt : Rat)) (b := v * (1 / 86400000000000)) (A := rabs t.rt) (B := h * (1 / 86400000000000)) Rat.le_refl (rabs_le.2 ⟨by grind, by grind⟩)
    have m2 := mul_rabs (a := tq) (A := tq) (rabs_le.2 ⟨Rat.le_refl, by grind⟩) m
    unfold rtQ
    rw [show tq * ((t.rt : Rat) * v * (1 / 86400000000000)) = tq * ((t.rt : Rat) * (v * (1 / 86400000000000))) by grind]
    refine Rat.le_trans m2 ?_
    grind
  have hs := stp u u0 u1
  have hS := stp h (by grind) Rat.le_refl
  have turn : ∀ (q : Int) (P v : Rat), 0 ≤ P → P ≤ 1000000000 → P = partA t x0 + (t.rt : Rat) * v * (1 / 86400000000000) + (q : Rat) * 1000000000 → rabs (tq * ((t.rt : Rat) * v * (1 / 86400000000000))) ≤ 1 / 100 →
      rabs (S (tq * P) - S (tq * partA t x0 + tq * ((t.rt : Rat) * v * (1 / 86400000000000)))) ≤ 1 / 1000000000000 := by
    intro q P v P0 P1 hP hv
    have hv' := rabs_le.1 hv
    have big : rabs ((t.rt : Rat) * v * (1 / 86400000000000)) ≤ 10000000 := by
      have t1 : 6 / 1000000000 ≤ tq := by decide +kernel
      generalize (t.rt : Rat) * v * (1 / 86400000000000) = z at *
      rw [rabs_le]
      constructor
      · rcases (Rat.le_total : z ≤ 10000000 ∨ 10000000 ≤ z) with hz | hz
        · exact hz
        · have := Rat.mul_le_mul_of_nonneg_left hz tp.1
          grind
      · rcases (Rat.le_total : (-10000000) ≤ z ∨ z ≤ -10000000) with hz | hz
        · exact hz
        · have := Rat.mul_le_mul_of_nonneg_left hz tp.1
          grind
    have big' := rabs_le.1 big
    have hj : q = -1 ∨ q = 0 ∨ q = 1 := by
      refine turn_cases (a := partA t x0 + (t.rt : Rat) * v * (1 / 86400000000000)) (b := P) hP ?_ ?_
      · grind
      · grind
    refine sin_bring (j := q) ?_ ?_ ?_ ?_ hv ?_ hj
    · exact Rat.mul_nonneg tp.1 p0
    · have := Rat.mul_le_mul_of_nonneg_left p0' tp.1; grind
    · exact Rat.mul_nonneg tp.1 P0
    · have := Rat.mul_le_mul_of_nonneg_left P1 tp.1; grind
    · rw [hP, ← tp.2]; grind
  have c1 := turn (k0 - k) (partA t x) u p p' (by push_cast; grind) (Rat.le_trans hs hq)
  have c2 := turn (k0 - k1) (partA t x1) h p1 p1' (by push_cast; grind) (Rat.le_trans hS hq)
  have X0 : rabs (tq * partA t x0) ≤ 32/5 := by
    have a := Rat.mul_nonneg tp.1 p0
    have b := Rat.mul_le_mul_of_nonneg_left p0' tp.1
    have pib := pi_num
    exact rabs_le.2 ⟨by grind, by grind⟩
  have main := chord_one X0 hs hS hq u0 u1 (by grind) c1 c2
  have fin := mul_rabs (a := (t.amp : Rat)) (A := rabs t.amp) Rat.le_refl main
  rw [show h * ((t.amp : Rat) * S (tq * partA t x)) - ((h - u) * ((t.amp : Rat) * S (tq * partA t x0)) + u * ((t.amp : Rat) * S (tq * partA t x1))) = (t.amp : Rat) * (h * S (tq * partA t x) - ((h - u) * S (tq * partA t x0) + u * S (tq * partA t x1))) by grind]
  refine Rat.le_trans fin ?_
  grind
end Go.Proofs.YtcgnhnmigmdalaaDoor
