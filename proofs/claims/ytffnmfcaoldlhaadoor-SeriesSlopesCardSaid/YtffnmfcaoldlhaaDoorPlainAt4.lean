/- What math.atan2 runs through, and how near it comes to the direction. No program in sight. -/
import Derived.Test.YtffnmfcaoldlhaaDoorPlainAt3
set_option linter.unusedVariables false
set_option linter.unusedSimpArgs false
namespace Go.Proofs.YtffnmfcaoldlhaaDoor
open Ieee
theorem circ9 {y : Rat} (hy : rabs y ≤ 16/5) : rabs (S y * S y + C y * C y - 1) ≤ 1 / 1000000000000000 := by
  have h := circ20 hy
  have t : (1 : Rat) / 10 ^ 20 ≤ 1 / 1000000000000000 := by decide +kernel
  grind
theorem sq_nonneg (a : Rat) : 0 ≤ a * a := by
  by_cases q : 0 ≤ a
  · exact Rat.mul_nonneg q q
  · have := Rat.mul_nonneg (show 0 ≤ -a by grind) (show 0 ≤ -a by grind); grind
theorem rabs_sq (a : Rat) : rabs a * rabs a = a * a := by unfold rabs; split <;> grind
theorem sq_le {a b : Rat} (h0 : 0 ≤ b) (h : rabs a ≤ b) : a * a ≤ b * b := by
  have h1 := rabs_nonneg a
  have m := Rat.mul_le_mul_of_nonneg_right h h1
  have m2 := Rat.mul_le_mul_of_nonneg_left h h0
  rw [← rabs_sq]
  grind
theorem Tan.p {T a : Rat} (T0 : 0 ≤ T) (h : Tan T a) : (1 + T) / 2 ≤ C a + T * S a := by
  have hp := pi_num
  obtain ⟨n, a0, a1⟩ := h
  have hc := C_up (d := 0) (x := a) (by grind) (by grind) (by grind) (by grind)
  have hs := S_up (d := 0) (x := a) (by grind) (by grind) (by grind) (by grind)
  have ci := rabs_le.1 (circ9 (y := a) (rabs_le.2 ⟨by grind, by grind⟩))
  have T2 := Rat.mul_nonneg T0 T0
  have k := sq_le (b := 1 / 100000000000 * (1 + T)) (by grind) n
  generalize S a = s at *
  generalize C a = c at *
  by_cases q : (1 + T) / 2 ≤ c + T * s
  · exact q
  · exfalso
    have m := Rat.mul_nonneg T0 (show 0 ≤ s + 1 / 1000000000000 by grind)
    have lo : -(1 / 100000000000 * (1 + T)) ≤ c + T * s := by grind
    have k2 := sq_le (a := c + T * s) (b := (1 + T) / 2) (by grind) (rabs_le.2 ⟨by grind, by grind⟩)
    have e : (c + T * s) * (c + T * s) + (s - T * c) * (s - T * c) = (1 + T * T) * (s * s + c * c) := by grind
    have m1 := Rat.mul_nonneg (show 0 ≤ 1 + T * T by grind) (show 0 ≤ (s * s + c * c) - (1 - 1 / 1000000000000000) by grind)
    have m2 := sq_nonneg (T - 1)
    generalize (c + T * s) * (c + T * s) = u1 at *
    generalize (s - T * c) * (s - T * c) = u2 at *
    generalize s * s + c * c = u3 at *
    have e3 : (1 + T * T) * u3 = u3 + T * T * u3 := by grind
    grind
/-- A tangent with its sign. -/
structure TanS (V θ : Rat) : Prop where
  n : rabs (S θ - V * C θ) ≤ 1 / 100000000000 * (1 + rabs V)
  p : (1 + rabs V) / 2 ≤ C θ + V * S θ
  a0 : -(piQ / 2) ≤ θ
  a1 : θ ≤ piQ / 2
theorem Tan.pos {T a : Rat} (T0 : 0 ≤ T) (h : Tan T a) : TanS T a := by
  have hp := pi_num
  have := h.p T0
  obtain ⟨n, a0, a1⟩ := h
  exact ⟨by rw [rabs_pos T0]; exact n, by rw [rabs_pos T0]; exact this, by grind, a1⟩
theorem Tan.neg {T a : Rat} (T0 : 0 ≤ T) (h : Tan T a) : TanS (-T) (-a) := by
  have hp := pi_num
  have := h.p T0
  obtain ⟨n, a0, a1⟩ := h
  have e : -S a - -T * C a = -(S a - T * C a) := by grind
  refine ⟨?_, ?_, by grind, by grind⟩
  · rw [rabs_neg, rabs_pos T0, S_neg, C_neg, e, rabs_neg]; exact n
  · rw [rabs_neg, rabs_pos T0, S_neg, C_neg]; grind
/-- The direction of a pair of numbers. -/
structure Dir (X Y θ : Rat) : Prop where
  n : rabs (X * S θ - Y * C θ) ≤ 3 / 100000000000 * (rabs X + rabs Y)
  p : (rabs X + rabs Y) / 4 ≤ X * C θ + Y * S θ
  b : rabs θ ≤ piQ + 1 / 100000000000
theorem TanS.dir {X Y V θ : Rat} (X0 : 0 < X) (h : TanS V θ) (hV : rabs (V * X - Y) ≤ 1 / 100000000000000 * (rabs X + rabs Y)) : (rabs (X * S θ - Y * C θ) ≤ 2 / 100000000000 * (rabs X + rabs Y) ∧ (rabs X + rabs Y) * (3/10) ≤ X * C θ + Y * S θ) ∧ rabs θ ≤ piQ / 2 := by
  have hp := pi_num
  obtain ⟨n, p, a0, a1⟩ := h
  have ht : rabs θ ≤ piQ / 2 := rabs_le.2 ⟨a1, a0⟩
  refine ⟨⟨?_, ?_⟩, ht⟩
  · have hb := SC_bd (y := θ) (by grind)
    have m1 := mul_rabs (show rabs X ≤ X by rw [rabs_pos (by grind)]; exact Rat.le_refl) n
    have m2 := rabs_le.1 (mul_rabs hV hb.2)
    have e : X * (1 / 100000000000 * (1 + rabs V)) = 1 / 100000000000 * (X + rabs (V * X)) := by
      rw [rabs_mul, rabs_pos (show 0 ≤ X by grind)]; grind
    rw [e] at m1
    have m1 := rabs_le.1 m1
    have t := rabs_add (V * X - Y) Y
    have e2 : V * X - Y + Y = V * X := by grind
    rw [e2] at t
    have ex := rabs_pos (show 0 ≤ X by grind)
    have ny := rabs_nonneg Y
    have k : X * S θ - Y * C θ = X * (S θ - V * C θ) + (V * X - Y) * C θ := by grind
    rw [k, rabs_le]
    generalize X * (S θ - V * C θ) = u1 at *
    generalize (V * X - Y) * C θ = u2 at *
    generalize rabs (V * X - Y) = u3 at *
    generalize rabs (V * X) = u4 at *
    generalize rabs Y = u5 at *
    clear n p k e e2 hb a0 a1 ht hp
    constructor <;> grind
  · have hb := SC_bd (y := θ) (by grind)
    have m1 := Rat.mul_nonneg (show 0 ≤ X by grind) (show 0 ≤ C θ + V * S θ - (1 + rabs V) / 2 by grind)
    have m2 := rabs_le.1 (mul_rabs hV hb.1)
    have e : X * rabs V = rabs (V * X) := by rw [rabs_mul, rabs_pos (show 0 ≤ X by grind)]; grind
    have t := rabs_add (Y - V * X) (V * X)
    have e2 : Y - V * X + V * X = Y := by grind
    rw [e2] at t
    have e3 : rabs (Y - V * X) = rabs (V * X - Y) := by
      have : Y - V * X = -(V * X - Y) := by grind
      rw [this, rabs_neg]
    rw [e3] at t
    have ex := rabs_pos (show 0 ≤ X by grind)
    have ny := rabs_nonneg Y
    have k : X * C θ + Y * S θ = X * (C θ + V * S θ - (1 + rabs V) / 2) + (X + X * rabs V) / 2 - (V * X - Y) * S θ := by grind
    rw [k, e]
    generalize X * (C θ + V * S θ - (1 + rabs V) / 2) = u1 at *
    generalize (V * X - Y) * S θ = u2 at *
    generalize rabs (V * X - Y) = u3 at *
    generalize rabs (V * X) = u4 at *
    generalize rabs Y = u5 at *
    clear n p k e e2 e3 hb a0 a1 ht hp
    grind
theorem TanS.dir1 {X Y V θ : Rat} (X0 : 0 < X) (h : TanS V θ) (hV : rabs (V * X - Y) ≤ 1 / 100000000000000 * (rabs X + rabs Y)) : Dir X Y θ := by
  obtain ⟨⟨a, b⟩, c⟩ := h.dir X0 hV
  have hp := pi_num
  have x0 := rabs_nonneg X
  have y0 := rabs_nonneg Y
  exact ⟨by grind, by grind, by grind⟩
/-- Half a turn more, or less. -/
theorem Dir.half {X Y θ : Rat} (ht : rabs θ ≤ piQ / 2) (d : Rat) (hd : d = 1 ∨ d = -1) (hb : rabs (θ + d * piQ) ≤ piQ + 1 / 100000000000) (hn : rabs (-X * S θ - -Y * C θ) ≤ 2 / 100000000000 * (rabs X + rabs Y)) (hpp : (rabs X + rabs Y) * (3/10) ≤ -X * C θ + -Y * S θ) : Dir X Y (θ + d * piQ) := by
  have hp := pi_num
  obtain ⟨p1, p2, -⟩ := at_pi
  have d1 : rabs d ≤ 1 := by rcases hd with rfl | rfl <;> decide +kernel
  have hdp : rabs (d * piQ) ≤ 16/5 := by
    have := mul_rabs d1 (show rabs piQ ≤ piQ by rw [rabs_pos (by grind)]; exact Rat.le_refl); grind
  have hS : rabs (S (d * piQ)) ≤ 1 / 100000000000000 ∧ rabs (C (d * piQ) + 1) ≤ 1 / 100000000000000 := by
    rcases hd with rfl | rfl
    · have e : 1 * piQ = piQ := by grind
      rw [e]; exact ⟨p1, p2⟩
    · have e : -1 * piQ = -piQ := by grind
      rw [e, S_neg, C_neg, rabs_neg]; exact ⟨p1, p2⟩
  have a1 := rabs_le.1 (sin_add (x := θ) (y := d * piQ) (by grind) hdp)
  have a2 := rabs_le.1 (cos_add (x := θ) (y := d * piQ) (by grind) hdp)
  have bb := SC_bd (y := θ) (by grind)
  have m1 := rabs_le.1 (mul_rabs hS.1 bb.1)
  have m2 := rabs_le.1 (mul_rabs hS.1 bb.2)
  have m3 := rabs_le.1 (mul_rabs hS.2 bb.1)
  have m4 := rabs_le.1 (mul_rabs hS.2 bb.2)
  generalize S (d * piQ) = sd at *
  generalize C (d * piQ) = cd at *
  have c1 : rabs (S (θ + d * piQ) + S θ) ≤ 2 / 10000000000000 := rabs_le.2 ⟨by grind, by grind⟩
  have c2 : rabs (C (θ + d * piQ) + C θ) ≤ 2 / 10000000000000 := rabs_le.2 ⟨by grind, by grind⟩
  clear m1 m2 m3 m4 a1 a2 p1 p2 hS bb
  have rx : rabs X ≤ rabs X := Rat.le_refl
  have ry : rabs Y ≤ rabs Y := Rat.le_refl
  have n1 := rabs_le.1 (mul_rabs rx c1)
  have n2 := rabs_le.1 (mul_rabs rx c2)
  have n3 := rabs_le.1 (mul_rabs ry c1)
  have n4 := rabs_le.1 (mul_rabs ry c2)
  have x0 := rabs_nonneg X
  have y0 := rabs_nonneg Y
  have hn := rabs_le.1 hn
  refine ⟨?_, ?_, hb⟩
  all_goals
    clear hb hd d1 hdp c1 c2 rx ry ht hp
    generalize S (θ + d * piQ) = s at *
    generalize C (θ + d * piQ) = c at *
    generalize rabs X = ax at *
    generalize rabs Y = ay at *
  · rw [rabs_le]
    constructor <;> grind
  · grind
end Go.Proofs.YtffnmfcaoldlhaaDoor
