/- A point of a rectangle lies between the bounds of its arc, by the reference's test; the arc of a small rectangle is narrow. No program in sight. The arc of a small rectangle is narrow. No program in sight. The intervals of trig.SinOver and CosOver hold the sines and cosines of all angles between their bounds, whole or not. No program in sight. -/
import Derived.Test.YtcgnhnmigmdalaaGreatDoorTrC
set_option linter.unusedVariables false
set_option linter.unusedSimpArgs false
namespace Go.Proofs.YtcgnhnmigmdalaaGreatDoor
section
open Ieee
/-- A linear function at a number near an interval is not much below that at one of the bounds. -/
theorem lin_lo {s xl xh x ε : Rat} (h0 : 0 ≤ ε) (h1 : xl - ε ≤ x) (h2 : x ≤ xh + ε) (hs : rabs s ≤ 101/100) : s * xl - 101/100 * ε ≤ s * x ∨ s * xh - 101/100 * ε ≤ s * x := by
  have hs := rabs_le.1 hs
  have e0 := Rat.mul_le_mul_of_nonneg_right hs.1 h0
  have e1 := Rat.mul_le_mul_of_nonneg_right hs.2 h0
  by_cases h : 0 ≤ s
  · left
    have m := Rat.mul_le_mul_of_nonneg_left h1 h
    grind
  · right
    have m := Rat.mul_le_mul_of_nonneg_left h2 (show 0 ≤ -s by grind)
    grind
theorem rect_lin {p q xl xh yl yh x y β : Rat} (hp : rabs p ≤ 101/100) (hq : rabs q ≤ 101/100) (h1 : -β ≤ p * xl + q * yl) (h2 : -β ≤ p * xl + q * yh) (h3 : -β ≤ p * xh + q * yl) (h4 : -β ≤ p * xh + q * yh)
    (x1 : xl - 1/10 ≤ x) (x2 : x ≤ xh + 1/10) (y1 : yl - 1/10 ≤ y) (y2 : y ≤ yh + 1/10) : -β - 203/1000 ≤ p * x + q * y := by
  have b0 : (0 : Rat) ≤ 1/10 := by decide +kernel
  rcases lin_lo b0 x1 x2 hp with u | u <;> rcases lin_lo b0 y1 y2 hq with v | v <;> grind
theorem half_of {z : Rat} (h : -(25/100) - 203/1000 ≤ z) : -(1/2) ≤ z := by grind
theorem quarter_of {z : Rat} (h : -(1/10) - 203/1000 ≤ z) : -(32/100) ≤ z := by grind
/-- A direction lies between two angles of whole units, roughly. -/
structure Near (a h : Int) (x y : Rat) : Prop where
  c1 : -(1/2) ≤ C (tq * a) * y - S (tq * a) * x
  c2 : -(1/2) ≤ S (tq * h) * x - C (tq * h) * y
  c3 : -(65/100) ≤ (C (tq * a) + C (tq * h)) * x + (S (tq * a) + S (tq * h)) * y
theorem rect_near {a h : Int} (a0 : 0 ≤ a) (a1 : a < 1000000000) (h0 : 0 ≤ h) (h1 : h < 1000000000) {xl xh yl yh x y : Rat} (k1 : Between a h xl yl) (k2 : Between a h xl yh) (k3 : Between a h xh yl) (k4 : Between a h xh yh)
    (bx1 : rabs xl ≤ 1100000000) (bx2 : rabs xh ≤ 1100000000) (by1 : rabs yl ≤ 1400000000) (by2 : rabs yh ≤ 1400000000) (x1 : xl - 1/10 ≤ x) (x2 : x ≤ xh + 1/10) (y1 : yl - 1/10 ≤ y) (y2 : y ≤ yh + 1/10) : Near a h x y := by
  have ra := ang_range a0 a1
  have rh := ang_range h0 h1
  rw [angU_tq] at ra rh
  have qa := SC_bd ra.2.2
  have qh := SC_bd rh.2.2
  obtain ⟨k11, k12, k13⟩ := k1
  obtain ⟨k21, k22, k23⟩ := k2
  obtain ⟨k31, k32, k33⟩ := k3
  obtain ⟨k41, k42, k43⟩ := k4
  clear ra rh
  have sx : ∀ p q : Rat, 1 / 10000000000 * (rabs p + rabs q) ≤ 1 / 10000000000 * (rabs p + rabs q) := fun _ _ => Rat.le_refl
  have w1 : ∀ {p q : Rat}, rabs p ≤ 1100000000 → rabs q ≤ 1400000000 → -(25/100) ≤ -(1 / 10000000000 * (rabs p + rabs q)) := by
    intro p q h1 h2; grind
  have n0 : ∀ {p : Rat}, rabs p ≤ 1 + 1 / 100000000000 → rabs p ≤ 101/100 := fun h => by grind
  have n1 : ∀ {p : Rat}, rabs p ≤ 1 + 1 / 100000000000 → rabs (-p) ≤ 101/100 := fun h => by rw [rabs_neg]; grind
  have n2 : ∀ {p q : Rat}, rabs p ≤ 1 + 1 / 100000000000 → rabs q ≤ 1 + 1 / 100000000000 → rabs ((p + q) / 2) ≤ 101/100 := by
    intro p q h1 h2
    have h1 := rabs_le.1 h1
    have h2 := rabs_le.1 h2
    exact rabs_le.2 ⟨by grind, by grind⟩
  have e1 : ∀ a b c d : Rat, a * b - c * d = -c * d + a * b := fun a b c d => by grind
  refine ⟨?_, ?_, ?_⟩
  · have r := rect_lin (p := -S (tq * a)) (q := C (tq * a)) (β := 25/100) (n1 qa.1) (n0 qa.2) (by rw [← e1]; exact Rat.le_trans (w1 bx1 by1) k11) (by rw [← e1]; exact Rat.le_trans (w1 bx1 by2) k21) (by rw [← e1]; exact Rat.le_trans (w1 bx2 by1) k31) (by rw [← e1]; exact Rat.le_trans (w1 bx2 by2) k41) x1 x2 y1 y2
    rw [e1]; exact half_of r
  · have e2 : ∀ a b c d : Rat, a * b - c * d = a * b + -c * d := fun a b c d => by grind
    have r := rect_lin (p := S (tq * h)) (q := -C (tq * h)) (β := 25/100) (n0 qh.1) (n1 qh.2) (by rw [← e2]; exact Rat.le_trans (w1 bx1 by1) k12) (by rw [← e2]; exact Rat.le_trans (w1 bx1 by2) k22) (by rw [← e2]; exact Rat.le_trans (w1 bx2 by1) k32) (by rw [← e2]; exact Rat.le_trans (w1 bx2 by2) k42) x1 x2 y1 y2
    rw [e2]; exact half_of r
  · have e3 : ∀ a b c d : Rat, -(32/100) ≤ (a / 2) * b + (c / 2) * d → -(65/100) ≤ a * b + c * d := fun a b c d h => by grind
    have e4 : ∀ a b c d : Rat, 0 ≤ a * b + c * d → -(1/10) ≤ (a / 2) * b + (c / 2) * d := fun a b c d h => by grind
    have r := rect_lin (p := (C (tq * a) + C (tq * h)) / 2) (q := (S (tq * a) + S (tq * h)) / 2) (β := 1/10) (n2 qa.2 qh.2) (n2 qa.1 qh.1) (e4 _ _ _ _ k13) (e4 _ _ _ _ k23) (e4 _ _ _ _ k33) (e4 _ _ _ _ k43) x1 x2 y1 y2
    exact e3 _ _ _ _ (quarter_of r)
theorem inArc_near {a h u v : Int} {x y : Rat} (a0 : 0 ≤ a) (a1 : a < 1000000000) (h0 : 0 ≤ h) (h1 : h < 1000000000) (hb : Near a h x y) (hu : rabs ((u : Rat) - uQ * (y / 1000000000)) ≤ 100000000) (hv : rabs ((v : Rat) - uQ * (x / 1000000000)) ≤ 100000000) (bu : rabs (u : Rat) ≤ 1160000000000000000) (bv : rabs (v : Rat) ≤ 1160000000000000000) : InArcOk a h u v := by
  obtain ⟨s1, s2⟩ := sc_ang a0 a1
  obtain ⟨s3, s4⟩ := sc_ang h0 h1
  rw [angU_tq] at s1 s2 s3 s4
  have ra := ang_range a0 a1
  have rh := ang_range h0 h1
  rw [angU_tq] at ra rh
  have qa := SC_bd ra.2.2
  have qh := SC_bd rh.2.2
  clear ra rh
  have g1 := rabs_le.1 (fm_sc s2 bu Rat.le_refl)
  have g2 := rabs_le.1 (fm_sc s1 bv Rat.le_refl)
  have g3 := rabs_le.1 (fm_sc s3 bv Rat.le_refl)
  have g4 := rabs_le.1 (fm_sc s4 bu Rat.le_refl)
  have g5 := rabs_le.1 (fm_sc s2 bv Rat.le_refl)
  have g6 := rabs_le.1 (fm_sc s1 bu Rat.le_refl)
  have g7 := rabs_le.1 (fm_sc s4 bv Rat.le_refl)
  have g8 := rabs_le.1 (fm_sc s3 bu Rat.le_refl)
  have m1 := rabs_le.1 (mul_rabs qa.2 hu)
  have m2 := rabs_le.1 (mul_rabs qa.1 hv)
  have m3 := rabs_le.1 (mul_rabs qh.1 hv)
  have m4 := rabs_le.1 (mul_rabs qh.2 hu)
  have m5 := rabs_le.1 (mul_rabs qa.2 hv)
  have m6 := rabs_le.1 (mul_rabs qa.1 hu)
  have m7 := rabs_le.1 (mul_rabs qh.2 hv)
  have m8 := rabs_le.1 (mul_rabs qh.1 hu)
  obtain ⟨b1, b2, b3⟩ := hb
  clear s1 s2 s3 s4 hu hv bu bv qa qh
  have hU : uQ = 1152921504606846976 := rfl
  simp only [hU] at m1 m2 m3 m4 m5 m6 m7 m8
  clear hU
  generalize S (tq * a) = sa at *
  generalize C (tq * a) = ca at *
  generalize S (tq * h) = sh at *
  generalize C (tq * h) = ch at *
  have r : ∀ {p q : Int}, (p : Rat) ≤ (q : Rat) → p ≤ q := fun h => Rat.intCast_le_intCast.1 h
  have r' : ∀ {p q : Int}, (p : Rat) < (q : Rat) → p < q := fun h => by exact_mod_cast h
  have d1 : ((-2147483648 : Int) : Rat) = -2147483648 := rfl
  refine ⟨r ?_, r ?_, r' ?_⟩
  · rw [d1]; push_cast; clear g3 g4 g5 g6 g7 g8 m3 m4 m5 m6 m7 m8 b2 b3 r r' d1; grind
  · rw [d1]; push_cast; clear g1 g2 g5 g6 g7 g8 m1 m2 m5 m6 m7 m8 b1 b3 r r' d1; grind
  · rw [d1]; push_cast; clear g1 g2 g3 g4 m1 m2 m3 m4 b1 b2 r r' d1; grind
/-- An angle whose sine is small and whose cosine is positive is near a whole turn. -/
theorem small_angle {δ σ : Rat} (hd : rabs δ ≤ 63/10) (hs : rabs (S δ) ≤ σ) (hσ : σ ≤ 3/50) (hc : 1/4 ≤ C δ) : ∃ n : Int, -1 ≤ n ∧ n ≤ 1 ∧ rabs (δ - (n : Rat) * (2 * piQ)) ≤ σ * (1004/1000) + 1 / 100000000000 := by
  have hp := pi_num
  have key : ∀ x : Rat, 0 ≤ x → x ≤ 8/5 → rabs (S x) ≤ σ + 2 / 1000000000000 → x ≤ σ * (1004/1000) + 1 / 100000000000 := by
    intro x x0 x1 hx
    have hx := rabs_le.1 hx
    have l := S_lin x0 x1
    have x2 : x ≤ 13/100 := by grind
    have kb := (k_bd (x := x) (rabs_le.2 ⟨by grind, by grind⟩)).1
    have e1 := S_gT x
    have e2 := gT_kT x
    have q1 := Rat.mul_nonneg x0 x0
    have q2 : x * x ≤ 169/10000 := by
      have := Rat.mul_le_mul_of_nonneg_left x2 x0
      grind
    have q3 := Rat.mul_nonneg q1 (show 0 ≤ pv kT x + 1/5 by grind)
    have q4 : 1 - 169/50000 ≤ pv gT x := by grind
    have q5 := Rat.mul_le_mul_of_nonneg_left q4 x0
    grind
  have near : ∀ x : Rat, rabs x ≤ 8/5 → rabs (S x) ≤ σ + 2 / 1000000000000 → rabs x ≤ σ * (1004/1000) + 1 / 100000000000 := by
    intro x hx h
    have hx := rabs_le.1 hx
    by_cases x0 : 0 ≤ x
    · rw [rabs_pos x0]; exact key x x0 (by grind) h
    · have e : rabs x = -x := by unfold rabs; rw [if_neg x0]
      rw [e]
      have := key (-x) (by grind) (by grind) (by rw [S_neg, rabs_neg]; exact h)
      exact this
  have mid : ∀ x : Rat, rabs (x - piQ) ≤ 8/5 - 3/100 → C x ≤ 1/10 := by
    intro x hx
    have hx := rabs_le.1 hx
    have hpp : rabs piQ ≤ 32/5 := rabs_le.2 ⟨by grind, by grind⟩
    have a := rabs_le.1 (cos_add (x := piQ) (y := x - piQ) hpp (rabs_le.2 ⟨by grind, by grind⟩))
    have e : piQ + (x - piQ) = x := by grind
    rw [e] at a
    obtain ⟨p1, p2, -⟩ := at_pi
    have bb := SC_bd (y := x - piQ) (rabs_le.2 ⟨by grind, by grind⟩)
    have m1 := rabs_le.1 (mul_rabs p1 bb.1)
    have m2 := rabs_le.1 (mul_rabs p2 bb.2)
    have cu := C_up (d := 1/1000) (x := x - piQ) (by grind) (by grind) (by grind) (by grind)
    generalize S piQ = sp at *
    generalize C piQ = cp at *
    grind
  have midn : ∀ x : Rat, 0 ≤ x → x ≤ 63/10 → rabs (S x) ≤ σ → 1/4 ≤ C x → rabs x ≤ σ * (1004/1000) + 1 / 100000000000 ∨ rabs (x - 2 * piQ) ≤ σ * (1004/1000) + 1 / 100000000000 := by
    intro x x0 x1 hx hc
    by_cases h1 : x ≤ 8/5
    · left; exact near x (rabs_le.2 ⟨by grind, by grind⟩) (by have := rabs_le.1 hx; exact rabs_le.2 ⟨by grind, by grind⟩)
    · by_cases h2 : x ≤ 47/10
      · exfalso
        have := mid x (rabs_le.2 ⟨by grind, by grind⟩)
        grind
      · right
        have t := rabs_le.1 (sin_turn (x := x - 2 * piQ) (rabs_le.2 ⟨by grind, by grind⟩)).1
        have e : x - 2 * piQ + 2 * piQ = x := by grind
        rw [e] at t
        have hx := rabs_le.1 hx
        exact near (x - 2 * piQ) (rabs_le.2 ⟨by grind, by grind⟩) (rabs_le.2 ⟨by grind, by grind⟩)
  have hd := rabs_le.1 hd
  have z0 : ((0 : Int) : Rat) = 0 := rfl
  have z1 : ((1 : Int) : Rat) = 1 := rfl
  have z2 : ((-1 : Int) : Rat) = -1 := rfl
  by_cases h : 0 ≤ δ
  · rcases midn δ h (by grind) hs hc with k | k
    · refine ⟨0, by omega, by omega, ?_⟩
      rw [z0, show δ - 0 * (2 * piQ) = δ by grind]; exact k
    · refine ⟨1, by omega, by omega, ?_⟩
      rw [z1, show δ - 1 * (2 * piQ) = δ - 2 * piQ by grind]; exact k
  · rcases midn (-δ) (by grind) (by grind) (by rw [S_neg, rabs_neg]; exact hs) (by rw [C_neg]; exact hc) with k | k
    · refine ⟨0, by omega, by omega, ?_⟩
      rw [z0, show δ - 0 * (2 * piQ) = -(-δ) by grind, rabs_neg]; exact k
    · refine ⟨-1, by omega, by omega, ?_⟩
      rw [z2, show δ - -1 * (2 * piQ) = -(-δ - 2 * piQ) by grind, rabs_neg]; exact k
end
section
open Ieee
theorem sq_rabs {a b : Rat} (b0 : 0 ≤ b) (h : a * a ≤ b * b) : rabs a ≤ b := by
  rw [rabs_le]
  constructor
  · by_cases q : a ≤ b
    · exact q
    · exfalso
      have h1 := Rat.mul_lt_mul_of_pos_right (show b < a by grind) (show 0 < a by grind)
      have h2 := Rat.mul_le_mul_of_nonneg_left (show b ≤ a by grind) b0
      grind
  · by_cases q : -b ≤ a
    · exact q
    · exfalso
      have h1 := Rat.mul_lt_mul_of_pos_right (show b < -a by grind) (show 0 < -a by grind)
      have h2 := Rat.mul_le_mul_of_nonneg_left (show b ≤ -a by grind) b0
      grind
theorem sq_le_sq {a b : Rat} (a0 : 0 ≤ a) (h : a ≤ b) : a * a ≤ b * b := by
  have h1 := Rat.mul_le_mul_of_nonneg_left h a0
  have h2 := Rat.mul_le_mul_of_nonneg_right h (show 0 ≤ b by grind)
  grind
/-- The length of a direction along its own angle. -/
theorem head_len {x y s c ρ nn r : Rat} (hc : rabs (s * s + c * c - 1) ≤ 1 / 1000000000000000) (en : x * s - y * c = nn) (er : x * c + y * s = r) (hn : rabs nn ≤ 12/100) (r0 : 0 ≤ r) (hρ : 100000000 ≤ ρ) (hq : ρ * ρ ≤ x * x + y * y) : ρ * (1 - 1 / 1000000000) ≤ r := by
  have e : r * r + nn * nn = (x * x + y * y) * (s * s + c * c) := by rw [← en, ← er]; grind
  have hc := rabs_le.1 hc
  have n2 := mul_rabs hn hn
  have n2 := (rabs_le.1 n2).1
  have p0 := Rat.mul_nonneg (show 0 ≤ ρ by grind) (show 0 ≤ ρ by grind)
  have q1 := Rat.mul_le_mul_of_nonneg_left (show 1 - 1 / 1000000000000000 ≤ s * s + c * c by grind) (show 0 ≤ x * x + y * y by grind)
  have q2 := sq_le_sq (show (0 : Rat) ≤ 100000000 by grind) hρ
  have k : (ρ * (1 - 1 / 1000000000)) * (ρ * (1 - 1 / 1000000000)) ≤ r * r := by
    have e2 : (ρ * (1 - 1 / 1000000000)) * (ρ * (1 - 1 / 1000000000)) = ρ * ρ * (1 - 2 / 1000000000 + 1 / 1000000000000000000) := by grind
    rw [e2]
    generalize ρ * ρ = P at *
    generalize x * x + y * y = Q at *
    generalize r * r = R at *
    generalize nn * nn = N at *
    generalize s * s + c * c = W at *
    generalize Q * W = QW at *
    grind
  have m := sq_rabs r0 k
  exact (rabs_le.1 m).1
theorem proj_bd {dx dy s c p : Rat} (hc : rabs (s * s + c * c - 1) ≤ 1 / 1000000000000000) (p0 : 0 ≤ p) (hd : dx * dx + dy * dy ≤ p * p) : rabs (dy * c - dx * s) ≤ p * (1 + 1 / 1000000000) ∧ rabs (dx * c + dy * s) ≤ p * (1 + 1 / 1000000000) := by
  have hc := rabs_le.1 hc
  have q0 := Rat.mul_nonneg p0 p0
  have sq : ∀ z : Rat, 0 ≤ z * z := fun z => by rw [← rabs_sq]; exact Rat.mul_nonneg (rabs_nonneg z) (rabs_nonneg z)
  have s1 := sq (dy * c - dx * s)
  have s2 := sq (dx * c + dy * s)
  have e : (dy * c - dx * s) * (dy * c - dx * s) + (dx * c + dy * s) * (dx * c + dy * s) = (dx * dx + dy * dy) * (s * s + c * c) := by grind
  have w0 : 0 ≤ s * s + c * c := by grind
  have m1 := Rat.mul_le_mul_of_nonneg_right hd w0
  have m2 := Rat.mul_le_mul_of_nonneg_left (show s * s + c * c ≤ 1 + 1 / 1000000000000000 by grind) q0
  have e2 : (p * (1 + 1 / 1000000000)) * (p * (1 + 1 / 1000000000)) = p * p * (1 + 2 / 1000000000 + 1 / 1000000000000000000) := by grind
  have b0 : 0 ≤ p * (1 + 1 / 1000000000) := Rat.mul_nonneg p0 (by grind)
  refine ⟨sq_rabs b0 ?_, sq_rabs b0 ?_⟩
  · rw [e2]
    generalize (dy * c - dx * s) * (dy * c - dx * s) = A at *
    generalize (dx * c + dy * s) * (dx * c + dy * s) = B at *
    generalize (dx * dx + dy * dy) * (s * s + c * c) = F at *
    generalize p * p = P at *
    generalize s * s + c * c = W at *
    generalize P * W = PW at *
    grind
  · rw [e2]
    generalize (dy * c - dx * s) * (dy * c - dx * s) = A at *
    generalize (dx * c + dy * s) * (dx * c + dy * s) = B at *
    generalize (dx * dx + dy * dy) * (s * s + c * c) = F at *
    generalize p * p = P at *
    generalize s * s + c * c = W at *
    generalize P * W = PW at *
    grind
/-- The sine and the cosine of the angle between two directions near each other. -/
theorem pair_alg {xi yi xj yj si ci sj cj ρ κ ni nj ri rj : Rat} (hci : rabs (si * si + ci * ci - 1) ≤ 1 / 1000000000000000) (hcj : rabs (sj * sj + cj * cj - 1) ≤ 1 / 1000000000000000)
    (eni : xi * si - yi * ci = ni) (enj : xj * sj - yj * cj = nj) (eri : xi * ci + yi * si = ri) (erj : xj * cj + yj * sj = rj) (hni : rabs ni ≤ 12/100) (hnj : rabs nj ≤ 12/100) (ri0 : 0 ≤ ri) (rj0 : 0 ≤ rj)
    (hρ : 100000000 ≤ ρ) (k0 : 0 ≤ κ) (k1 : κ ≤ 1/20) (hi : ρ * ρ ≤ xi * xi + yi * yi) (hj : ρ * ρ ≤ xj * xj + yj * yj) (hd : (xj - xi) * (xj - xi) + (yj - yi) * (yj - yi) ≤ κ * ρ * (κ * ρ)) :
    rabs (si * cj - ci * sj) ≤ κ + 3 / 1000000000 ∧ 1/2 ≤ ci * cj + si * sj := by
  have li := head_len hci eni eri hni ri0 hρ hi
  have lj := head_len hcj enj erj hnj rj0 hρ hj
  have p0 := Rat.mul_nonneg k0 (show 0 ≤ ρ by grind)
  have p1 := Rat.mul_le_mul_of_nonneg_right k1 (show 0 ≤ ρ by grind)
  obtain ⟨t1, t2⟩ := proj_bd hci p0 hd
  have hci' := rabs_le.1 hci
  have hcj' := rabs_le.1 hcj
  have both : (si * cj - ci * sj) * (si * cj - ci * sj) + (ci * cj + si * sj) * (ci * cj + si * sj) = (si * si + ci * ci) * (sj * sj + cj * cj) := by grind
  have prod : 1 - 1 / 100000000000000 ≤ (si * si + ci * ci) * (sj * sj + cj * cj) ∧ (si * si + ci * ci) * (sj * sj + cj * cj) ≤ 1 + 1 / 100000000000000 := by
    have m1 := Rat.mul_le_mul_of_nonneg_left (show sj * sj + cj * cj ≤ 1 + 1 / 1000000000000000 by grind) (show 0 ≤ si * si + ci * ci by grind)
    have m2 := Rat.mul_le_mul_of_nonneg_left (show 1 - 1 / 1000000000000000 ≤ sj * sj + cj * cj by grind) (show 0 ≤ si * si + ci * ci by grind)
    constructor <;> grind
  have sq : ∀ z : Rat, 0 ≤ z * z := fun z => by rw [← rabs_sq]; exact Rat.mul_nonneg (rabs_nonneg z) (rabs_nonneg z)
  -- across
  have eS : rj * (si * cj - ci * sj) * (sj * sj + cj * cj) = rj * (si * cj - ci * sj) * (sj * sj + cj * cj) := rfl
  have xj' : xj * (sj * sj + cj * cj) = rj * cj + nj * sj := by rw [← erj, ← enj]; grind
  have yj' : yj * (sj * sj + cj * cj) = rj * sj - nj * cj := by rw [← erj, ← enj]; grind
  have a1 : (yj * ci - xj * si) * (sj * sj + cj * cj) = -(rj * (si * cj - ci * sj)) - nj * (ci * cj + si * sj) := by
    have : (yj * ci - xj * si) * (sj * sj + cj * cj) = (yj * (sj * sj + cj * cj)) * ci - (xj * (sj * sj + cj * cj)) * si := by grind
    rw [this, xj', yj']; grind
  have a2 : (xj * ci + yj * si) * (sj * sj + cj * cj) = rj * (ci * cj + si * sj) - nj * (si * cj - ci * sj) := by
    have : (xj * ci + yj * si) * (sj * sj + cj * cj) = (xj * (sj * sj + cj * cj)) * ci + (yj * (sj * sj + cj * cj)) * si := by grind
    rw [this, xj', yj']; grind
  have b1 : yj * ci - xj * si = ((yj - yi) * ci - (xj - xi) * si) - ni := by rw [← eni]; grind
  have b2 : xj * ci + yj * si = ri + ((xj - xi) * ci + (yj - yi) * si) := by rw [← eri]; grind
  have s0 := sq (si * cj - ci * sj)
  have c0 := sq (ci * cj + si * sj)
  have bS : rabs (si * cj - ci * sj) ≤ 101/100 := sq_rabs (by grind) (by grind)
  have bC : rabs (ci * cj + si * sj) ≤ 101/100 := sq_rabs (by grind) (by grind)
  have n1 := rabs_le.1 (mul_rabs hnj bC)
  have n2 := rabs_le.1 (mul_rabs hnj bS)
  have hni' := rabs_le.1 hni
  have t1' := rabs_le.1 t1
  have t2' := rabs_le.1 t2
  generalize hT : (yj - yi) * ci - (xj - xi) * si = T at *
  generalize hU : (xj - xi) * ci + (yj - yi) * si = U at *
  rw [b1] at a1
  rw [b2] at a2
  generalize hW : sj * sj + cj * cj = W at *
  have w1 : rabs ((T - ni) * W) ≤ (κ * ρ * (1 + 1 / 1000000000) + 12/100) * (1 + 1 / 1000000000000000) := mul_rabs (rabs_le.2 ⟨by grind, by grind⟩) (rabs_le.2 ⟨by grind, by grind⟩)
  have w1 := rabs_le.1 w1
  generalize hS : si * cj - ci * sj = Sd at *
  generalize hC : ci * cj + si * sj = Cd at *
  generalize hp : κ * ρ = p at *
  have key : rabs Sd ≤ κ + 3 / 1000000000 := by
    -- rj |S| is small
    have z1 : rj * Sd ≤ p * (1 + 2 / 1000000000) + 25/100 := by grind
    have z2 : -(p * (1 + 2 / 1000000000) + 25/100) ≤ rj * Sd := by grind
    have m : rj * rabs Sd ≤ p * (1 + 2 / 1000000000) + 25/100 := by
      have e := rabs_mul rj Sd
      rw [rabs_pos rj0] at e
      rw [← e]
      exact rabs_le.2 ⟨z1, z2⟩
    have m2 := Rat.mul_le_mul_of_nonneg_right lj (rabs_nonneg Sd)
    have pos : 0 < ρ * (1 - 1 / 1000000000) := by grind
    refine Rat.le_of_mul_le_mul_left (c := ρ * (1 - 1 / 1000000000)) ?_ pos
    have e3 : ρ * (1 - 1 / 1000000000) * (κ + 3 / 1000000000) = (p + 3 / 1000000000 * ρ) * (1 - 1 / 1000000000) := by rw [← hp]; grind
    rw [e3]
    grind
  refine ⟨key, ?_⟩
  have kS := rabs_le.1 key
  -- along
  have w2 : rabs ((ri + U) * W - (ri + U)) ≤ (rabs (ri + U)) * (1 / 1000000000000000) := by
    have e : (ri + U) * W - (ri + U) = (ri + U) * (W - 1) := by grind
    rw [e]
    exact mul_rabs Rat.le_refl (rabs_le.2 ⟨by grind, by grind⟩)
  have u0 : 0 ≤ ri + U := by grind
  rw [rabs_pos u0] at w2
  have w2 := rabs_le.1 w2
  have cp : 0 < rj * Cd := by grind
  have Cpos : 0 < Cd := by
    by_cases q : 0 < Cd
    · exact q
    · exfalso
      have := Rat.mul_le_mul_of_nonneg_left (show Cd ≤ 0 by grind) rj0
      grind
  have s2 := sq_le_sq (rabs_nonneg Sd) (show rabs Sd ≤ 6/100 by grind)
  rw [rabs_sq] at s2
  have c2 : 9/10 ≤ Cd * Cd := by grind
  by_cases q : 1/2 ≤ Cd
  · exact q
  · exfalso
    have := sq_le_sq (show 0 ≤ Cd by grind) (show Cd ≤ 1/2 by grind)
    grind
theorem angle_pair {xi yi xj yj : Int} {Di Dj ρ κ : Rat} (hi : HeadI xi yi Di) (hj : HeadI xj yj Dj) (hρ : 100000000 ≤ ρ) (k0 : 0 ≤ κ) (k1 : κ ≤ 1/20) (bi : rabs (xi : Rat) + rabs (yi : Rat) ≤ 2200000000) (bj : rabs (xj : Rat) + rabs (yj : Rat) ≤ 2200000000)
    (ri : ρ * ρ ≤ (xi : Rat) * xi + (yi : Rat) * yi) (rj : ρ * ρ ≤ (xj : Rat) * xj + (yj : Rat) * yj) (hd : ((xj : Rat) - xi) * ((xj : Rat) - xi) + ((yj : Rat) - yi) * ((yj : Rat) - yi) ≤ κ * ρ * (κ * ρ)) :
    ∃ n : Int, rabs (tq * (Di - Dj) - (n : Rat) * (2 * piQ)) ≤ κ * (1004/1000) + 1 / 100000000 := by
  obtain ⟨ni, pi, di⟩ := hi
  obtain ⟨nj, pj, dj⟩ := hj
  obtain ⟨t1, t2, -⟩ := tq_num
  have ht : rabs tq ≤ 628319 / 100000000000000 := rabs_le.2 ⟨by grind, by grind⟩
  have ai : rabs (tq * Di) ≤ 16/5 := by have := mul_rabs ht di; grind
  have aj : rabs (tq * Dj) ≤ 16/5 := by have := mul_rabs ht dj; grind
  have ai' := rabs_le.1 (mul_rabs ht di)
  have aj' := rabs_le.1 (mul_rabs ht dj)
  have xi0 := rabs_nonneg (xi : Rat)
  have yi0 := rabs_nonneg (yi : Rat)
  have xj0 := rabs_nonneg (xj : Rat)
  have yj0 := rabs_nonneg (yj : Rat)
  obtain ⟨g1, g2⟩ := pair_alg (circ9 ai) (circ9 aj) rfl rfl rfl rfl (by grind) (by grind) (by grind) (by grind) hρ k0 k1 ri rj hd
  have e1 := rabs_le.1 (sin_sub (x := tq * Di) (y := tq * Dj) (by grind) aj)
  have e2 := rabs_le.1 (cos_sub (x := tq * Di) (y := tq * Dj) (by grind) aj)
  have g1 := rabs_le.1 g1
  have e : tq * (Di - Dj) = tq * Di - tq * Dj := by grind
  obtain ⟨n, -, -, hn⟩ := small_angle (δ := tq * Di - tq * Dj) (σ := κ + 4 / 1000000000) (rabs_le.2 ⟨by grind, by grind⟩) (rabs_le.2 ⟨by grind, by grind⟩) (by grind) (by grind)
  refine ⟨n, ?_⟩
  rw [e]
  grind
/-- A corner with its angle behind the first one's. -/
def Cn (yl yh xl xh : Int) (D0 E : Rat) : Prop := ∃ (x y : Int) (D : Rat) (j : Int), (x = xl ∨ x = xh) ∧ (y = yl ∨ y = yh) ∧ HeadI x y D ∧ rabs (D0 + E - (D + (j : Rat) * 1000000000)) ≤ 4 / 10000000 ∧ rabs E ≤ 500000001
theorem turn_zero {m : Int} {z : Rat} (h : rabs ((m : Rat) * (2 * piQ) - z) ≤ 1/2) (hz : rabs z ≤ 4) : m = 0 := by
  have hp := pi_num
  have h := rabs_le.1 h
  have hz := rabs_le.1 hz
  have a : m < 1 := by
    by_cases q : m < 1
    · exact q
    · exfalso
      have := icast (show 1 ≤ m by omega)
      have e : ((1 : Int) : Rat) = 1 := rfl
      rw [e] at this
      have := Rat.mul_le_mul_of_nonneg_right this (show 0 ≤ 2 * piQ by grind)
      grind
  have b : -1 < m := by
    by_cases q : -1 < m
    · exact q
    · exfalso
      have := icast (show m ≤ -1 by omega)
      have e : ((-1 : Int) : Rat) = -1 := rfl
      rw [e] at this
      have := Rat.mul_le_mul_of_nonneg_right this (show 0 ≤ 2 * piQ by grind)
      grind
  omega
structure Box (yl yh xl xh : Int) (ρ κ : Rat) : Prop where
  r : 100000000 ≤ ρ
  k0 : 0 ≤ κ
  k1 : κ ≤ 1/20
  b : ∀ x y : Int, (x = xl ∨ x = xh) → (y = yl ∨ y = yh) → rabs (x : Rat) ≤ 1100000000 ∧ rabs (y : Rat) ≤ 1100000000 ∧ ρ * ρ ≤ (x : Rat) * x + (y : Rat) * y
  d : ((xh : Rat) - xl) * ((xh : Rat) - xl) + ((yh : Rat) - yl) * ((yh : Rat) - yl) ≤ κ * ρ * (κ * ρ)
theorem sq_diff {x x' xl xh : Int} (h : x = xl ∨ x = xh) (h' : x' = xl ∨ x' = xh) : ((x' : Rat) - x) * ((x' : Rat) - x) ≤ ((xh : Rat) - xl) * ((xh : Rat) - xl) := by
  have sq : ∀ z : Rat, 0 ≤ z * z := fun z => by rw [← rabs_sq]; exact Rat.mul_nonneg (rabs_nonneg z) (rabs_nonneg z)
  have := sq ((xh : Rat) - xl)
  rcases h with rfl | rfl <;> rcases h' with rfl | rfl <;> grind
theorem cn_pair {yl yh xl xh : Int} {D0 E F ρ κ : Rat} (hb : Box yl yh xl xh ρ κ) (he : Cn yl yh xl xh D0 E) (hf : Cn yl yh xl xh D0 F) (hs : rabs (tq * (E - F)) ≤ 4) : rabs (tq * (E - F)) ≤ κ * (1004/1000) + 2 / 100000000 := by
  obtain ⟨x, y, D, j, hx, hy, hd, he1, he2⟩ := he
  obtain ⟨x', y', D', j', hx', hy', hd', hf1, hf2⟩ := hf
  obtain ⟨hr, hk0, hk1, hbb, hdd⟩ := hb
  obtain ⟨b1, b2, b3⟩ := hbb x y hx hy
  obtain ⟨c1, c2, c3⟩ := hbb x' y' hx' hy'
  have q1 := sq_diff hx hx'
  have q2 := sq_diff hy hy'
  obtain ⟨n, hn⟩ := angle_pair hd hd' hr hk0 hk1 (by grind) (by grind) b3 c3 (by grind)
  obtain ⟨t1, t2, -⟩ := tq_num
  have ht : rabs tq ≤ 628319 / 100000000000000 := rabs_le.2 ⟨by grind, by grind⟩
  have hdif : rabs ((E - F) - (D - D') - ((j - j' : Int) : Rat) * 1000000000) ≤ 8 / 10000000 := by
    have a := rabs_le.1 he1
    have b := rabs_le.1 hf1
    rw [rabs_le]; push_cast
    constructor <;> grind
  have m := rabs_le.1 (mul_rabs ht hdif)
  have e : tq * ((E - F) - (D - D') - ((j - j' : Int) : Rat) * 1000000000) = tq * (E - F) - tq * (D - D') - ((j - j' : Int) : Rat) * (2 * piQ) := by rw [← tq_turn]; grind
  rw [e] at m
  have hn := rabs_le.1 hn
  have z : n + (j - j') = 0 := by
    refine turn_zero (z := tq * (E - F)) ?_ hs
    rw [rabs_le]; push_cast; push_cast at m
    constructor <;> grind
  have z2 : ((j - j' : Int) : Rat) = -(n : Rat) := by
    have : j - j' = -n := by omega
    rw [this]; push_cast; rfl
  rw [z2] at m
  rw [rabs_le]
  constructor <;> grind
theorem arc_wide {yl yh xl xh : Int} {D0 L H ρ κ : Rat} {E : Nat → Rat} (hb : Box yl yh xl xh ρ κ) (hv : ArcV yl yh xl xh D0 E L H) : tq * ((arcHi yl yh xl xh - arcLo yl yh xl xh : Int) : Rat) ≤ κ * (1004/1000) + 1 / 10000000 := by
  obtain ⟨h0, hk, bE, l0, lk, le, g0, gk, ge, lo1, lo2, hi1, hi2⟩ := hv
  obtain ⟨t1, t2, -⟩ := tq_num
  have ht : rabs tq ≤ 628319 / 100000000000000 := rabs_le.2 ⟨by grind, by grind⟩
  have z0 : ((0 : Int) : Rat) = 0 := rfl
  have base : Cn yl yh xl xh D0 0 := ⟨xl, yl, D0, 0, .inl rfl, .inl rfl, h0, by rw [z0, show D0 + 0 - (D0 + 0 * 1000000000) = 0 by grind]; decide +kernel, by decide +kernel⟩
  have arcC_in : ∀ k, ((arcC yl yh xl xh k).2 = xl ∨ (arcC yl yh xl xh k).2 = xh) ∧ ((arcC yl yh xl xh k).1 = yl ∨ (arcC yl yh xl xh k).1 = yh) := by
    intro k; unfold arcC; split <;> simp
  have crn : ∀ k, k < 3 → Cn yl yh xl xh D0 (E k) := by
    intro k hk3
    obtain ⟨D, j, d1, d2⟩ := hk k hk3
    exact ⟨_, _, D, j, (arcC_in k).1, (arcC_in k).2, d1, d2, bE k hk3⟩
  have small : ∀ k, k < 3 → rabs (tq * E k) ≤ 1/10 := by
    intro k hk3
    have m := mul_rabs ht (bE k hk3)
    have c := cn_pair hb (crn k hk3) base (by rw [show E k - 0 = E k by grind]; grind)
    rw [show E k - 0 = E k by grind] at c
    have := hb.k1
    grind
  have pr : ∀ A B : Rat, (A = 0 ∨ ∃ k, k < 3 ∧ A = E k) → (B = 0 ∨ ∃ k, k < 3 ∧ B = E k) → rabs (tq * (A - B)) ≤ κ * (1004/1000) + 2 / 100000000 := by
    have c : ∀ A : Rat, (A = 0 ∨ ∃ k, k < 3 ∧ A = E k) → Cn yl yh xl xh D0 A ∧ rabs (tq * A) ≤ 1/10 := by
      intro A hA
      rcases hA with rfl | ⟨k, k3, rfl⟩
      · exact ⟨base, by rw [show tq * 0 = 0 by grind]; decide +kernel⟩
      · exact ⟨crn k k3, small k k3⟩
    intro A B hA hB
    obtain ⟨a1, a2⟩ := c A hA
    obtain ⟨b1, b2⟩ := c B hB
    have a2 := rabs_le.1 a2
    have b2 := rabs_le.1 b2
    exact cn_pair hb a1 b1 (rabs_le.2 ⟨by grind, by grind⟩)
  have p := (rabs_le.1 (pr H L ge le)).1
  have w : ((arcHi yl yh xl xh - arcLo yl yh xl xh : Int) : Rat) ≤ H - L + 3 := by push_cast; grind
  have := tq_le w
  grind
end
section
open Ieee
theorem sc_close {x y μ : Rat} (hx : rabs x ≤ 64/10) (hy : rabs y ≤ 63/10) (hd : rabs (x - y) ≤ tq * μ) (μ0 : 0 ≤ μ) (hμ : μ ≤ 1/100) : rabs (S x - S y) ≤ 628320 / 100000000000000 * μ + 1 / 1000000000000 ∧ rabs (C x - C y) ≤ 628320 / 100000000000000 * μ + 1 / 1000000000000 := by
  obtain ⟨t1, t2, -⟩ := tq_num
  have hx := rabs_le.1 hx
  have hy := rabs_le.1 hy
  have m := Rat.mul_le_mul_of_nonneg_right t2 μ0
  have m2 := Rat.mul_le_mul_of_nonneg_left hμ (show 0 ≤ tq by grind)
  have hd2 := rabs_le.1 hd
  obtain ⟨l1, l2⟩ := sin_lipQ (x := x) (y := y) (rabs_le.2 ⟨by grind, by grind⟩) (rabs_le.2 ⟨by grind, by grind⟩)
  have r : (1 + 1 / 100000000000) * rabs (x - y) ≤ 628320 / 100000000000000 * μ := by grind
  exact ⟨by grind, by grind⟩
theorem sc_close_turn {x y μ : Rat} (hx : rabs x ≤ 63/10) (hy : rabs y ≤ 63/10) (hy0 : -(1/100) ≤ y) (hd : rabs (x - y - 2 * piQ) ≤ tq * μ) (μ0 : 0 ≤ μ) (hμ : μ ≤ 1/100) : rabs (S x - S y) ≤ 628320 / 100000000000000 * μ + 3 / 1000000000000 ∧ rabs (C x - C y) ≤ 628320 / 100000000000000 * μ + 3 / 1000000000000 := by
  have hp := pi_num
  obtain ⟨t1, t2, -⟩ := tq_num
  have hx' := rabs_le.1 hx
  have hy' := rabs_le.1 hy
  have m2 := Rat.mul_le_mul_of_nonneg_left hμ (show 0 ≤ tq by grind)
  have hd2 := rabs_le.1 hd
  obtain ⟨n1, n2⟩ := sc_close (x := x - 2 * piQ) (y := y) (rabs_le.2 ⟨by grind, by grind⟩) hy (by rw [show x - 2 * piQ - y = x - y - 2 * piQ by grind]; exact hd) μ0 hμ
  obtain ⟨k1, k2⟩ := sin_turn (x := x - 2 * piQ) (rabs_le.2 ⟨by grind, by grind⟩)
  have e : x - 2 * piQ + 2 * piQ = x := by grind
  rw [e] at k1 k2
  clear hd hx hy hd2 m2 hx' hy' e
  have n1 := rabs_le.1 n1
  have n2 := rabs_le.1 n2
  have k1 := rabs_le.1 k1
  have k2 := rabs_le.1 k2
  constructor <;> rw [rabs_le] <;> constructor <;> grind
/-- Sines and cosines of angles that differ by whole turns and a little. -/
theorem sc_turns {z b : Rat} {j : Int} {μ : Rat} (z0 : -1 ≤ z) (z1 : z ≤ 1000000001) (b0 : -1 ≤ b) (b1 : b ≤ 1000000001) (h : rabs (z - b - (j : Rat) * 1000000000) ≤ μ) (hμ : μ ≤ 1/100) : rabs (S (tq * z) - S (tq * b)) ≤ 628320 / 100000000000000 * μ + 3 / 1000000000000 ∧ rabs (C (tq * z) - C (tq * b)) ≤ 628320 / 100000000000000 * μ + 3 / 1000000000000 := by
  have hp := pi_num
  obtain ⟨t1, t2, -⟩ := tq_num
  have h' := rabs_le.1 h
  have μ0 : 0 ≤ μ := by have := rabs_nonneg (z - b - (j : Rat) * 1000000000); grind
  have lim : tq * 1000000001 ≤ 62832/10000 := by decide +kernel
  have lim1 : tq * -1 ≥ -(1/100000) := by decide +kernel
  have az := tq_le z1
  have az0 := tq_le z0
  have ab := tq_le b1
  have ab0 := tq_le b0
  have bz : rabs (tq * z) ≤ 63/10 := rabs_le.2 ⟨by grind, by grind⟩
  have bb : rabs (tq * b) ≤ 63/10 := rabs_le.2 ⟨by grind, by grind⟩
  have sc : rabs (tq * z - tq * b - (j : Rat) * (2 * piQ)) ≤ tq * μ := by
    have e : tq * z - tq * b - (j : Rat) * (2 * piQ) = tq * (z - b - (j : Rat) * 1000000000) := by rw [← tq_turn]; grind
    rw [e, rabs_mul, rabs_pos (show 0 ≤ tq by grind)]
    exact Rat.mul_le_mul_of_nonneg_left h (by grind)
  have hj : j = 0 ∨ j = 1 ∨ j = -1 := by
    have c2 : ((2 : Int) : Rat) = 2 := rfl
    have cm : ((-2 : Int) : Rat) = -2 := rfl
    have a1 : j < 2 := by
      by_cases q : j < 2
      · exact q
      · exfalso
        have := icast (show 2 ≤ j by omega)
        rw [c2] at this; grind
    have a2 : -2 < j := by
      by_cases q : -2 < j
      · exact q
      · exfalso
        have := icast (show j ≤ -2 by omega)
        rw [cm] at this; grind
    omega
  rcases hj with rfl | rfl | rfl
  · have c0 : ((0 : Int) : Rat) = 0 := rfl
    obtain ⟨n1, n2⟩ := sc_close (x := tq * z) (y := tq * b) (by grind) bb (by rw [c0] at sc; rw [show tq * z - tq * b = tq * z - tq * b - 0 * (2 * piQ) by grind]; exact sc) μ0 hμ
    clear h h' sc bz bb
    exact ⟨by grind, by grind⟩
  · have c1 : ((1 : Int) : Rat) = 1 := rfl
    exact sc_close_turn bz bb (by grind) (by rw [c1] at sc; rw [show tq * z - tq * b - 2 * piQ = tq * z - tq * b - 1 * (2 * piQ) by grind]; exact sc) μ0 hμ
  · have c1 : ((-1 : Int) : Rat) = -1 := rfl
    have n := sc_close_turn bb bz (by grind) (by rw [c1] at sc; rw [show tq * b - tq * z - 2 * piQ = -(tq * z - tq * b - -1 * (2 * piQ)) by grind, rabs_neg]; exact sc) μ0 hμ
    constructor
    · rw [show S (tq * z) - S (tq * b) = -(S (tq * b) - S (tq * z)) by grind, rabs_neg]; exact n.1
    · rw [show C (tq * z) - C (tq * b) = -(C (tq * b) - C (tq * z)) by grind, rabs_neg]; exact n.2
theorem turn_split (n : Int) : (n : Rat) = ((n % 1000000000 : Int) : Rat) + ((n / 1000000000 : Int) : Rat) * 1000000000 := by
  have h : n = n % 1000000000 + n / 1000000000 * 1000000000 := by omega
  generalize n % 1000000000 = b at *
  generalize n / 1000000000 = q at *
  rw [h]; push_cast; rfl
/-- The sine of a whole angle and that of a number near it, up to whole turns. -/
theorem siU_near {n k : Int} {z μ : Rat} (z0 : 0 ≤ z) (z1 : z ≤ 1000000000) (h : rabs (z + (k : Rat) * 1000000000 - (n : Rat)) ≤ μ) (hμ : μ ≤ 1/100) : rabs (S (tq * z) - siU n) ≤ 628320 / 100000000000000 * μ + 3 / 1000000000000 ∧ rabs (C (tq * z) - siU (n + 250000000)) ≤ 628320 / 100000000000000 * μ + 4 / 1000000000000 := by
  obtain ⟨b0, b1⟩ := emod_bd n
  have B0 := icast b0
  have B1 := icast (show n % 1000000000 ≤ 1000000000 by omega)
  have c0 : ((0 : Int) : Rat) = 0 := rfl
  have c1 : ((1000000000 : Int) : Rat) = 1000000000 := rfl
  rw [c0] at B0
  rw [c1] at B1
  have e : (n : Rat) = ((n % 1000000000 : Int) : Rat) + ((n / 1000000000 : Int) : Rat) * 1000000000 := turn_split n
  obtain ⟨s1, s2⟩ := sc_turns (z := z) (b := ((n % 1000000000 : Int) : Rat)) (j := n / 1000000000 - k) (μ := μ) (by grind) (by grind) (by grind) (by grind) (by
    have q : z - ((n % 1000000000 : Int) : Rat) - ((n / 1000000000 - k : Int) : Rat) * 1000000000 = z + (k : Rat) * 1000000000 - (n : Rat) := by rw [e]; push_cast; grind
    rw [q]; exact h) hμ
  have es : siU n = S (tq * ((n % 1000000000 : Int) : Rat)) := by unfold siU; rw [angU_tq]
  refine ⟨by rw [es]; exact s1, ?_⟩
  have c := rabs_le.1 (cos_shift b0 b1)
  have ec : siU (n + 250000000) = S (angU ((n % 1000000000 + 250000000) % 1000000000)) := by
    unfold siU
    rw [show (n + 250000000) % 1000000000 = (n % 1000000000 + 250000000) % 1000000000 by omega]
  rw [ec]
  rw [angU_tq (n % 1000000000)] at c
  have s2 := rabs_le.1 s2
  rw [rabs_le]
  constructor <;> grind
theorem small_sc {x : Rat} (x0 : 0 ≤ x) (x1 : x ≤ 1 / 100000000) : rabs (S x - x) ≤ 1 / 1000000000000000 ∧ rabs (C x - 1) ≤ 1 / 1000000000000000 := by
  have kb := k_bd (x := x) (rabs_le.2 ⟨by grind, by grind⟩)
  have e1 := S_gT x
  have e2 := gT_kT x
  have q0 := Rat.mul_nonneg x0 x0
  have q1 := Rat.mul_le_mul_of_nonneg_left x1 x0
  have q2 : x * x ≤ 1 / 10000000000000000 := by grind
  have q3 := Rat.mul_nonneg q0 (show 0 ≤ pv kT x + 1/5 by grind)
  have q4 := Rat.mul_nonneg q0 (show 0 ≤ -(1/8) - pv kT x by grind)
  have g1 : pv gT x ≤ 1 := by grind
  have g2 : 1 - 1 / 10000000000000000 ≤ pv gT x := by grind
  have m1 := Rat.mul_le_mul_of_nonneg_left g1 x0
  have m2 := Rat.mul_le_mul_of_nonneg_left g2 x0
  have c1 := C_lin (z := x) (rabs_le.2 ⟨by grind, by grind⟩)
  have c2 := (sin_cos_le (y := x) (rabs_le.2 ⟨by grind, by grind⟩)).2.1
  have t18 : (1 : Rat) / 10 ^ 18 ≤ 1 / 1000000000000000000 := by decide +kernel
  constructor <;> rw [rabs_le] <;> constructor <;> grind
/-- Between two whole angles the sine is nearly on the line between theirs. -/
theorem sc_line {a lam : Rat} (a0 : 0 ≤ a) (a1 : a ≤ 1000000000) (l0 : 0 ≤ lam) (l1 : lam ≤ 1) : rabs (S (tq * (a + lam)) - ((1 - lam) * S (tq * a) + lam * S (tq * (a + 1)))) ≤ 1 / 1000000000000 ∧ rabs (C (tq * (a + lam)) - ((1 - lam) * C (tq * a) + lam * C (tq * (a + 1)))) ≤ 1 / 1000000000000 := by
  obtain ⟨t1, t2, -⟩ := tq_num
  have lim : tq * 1000000000 ≤ 62832/10000 := by decide +kernel
  have A0 := tq_le a0
  have A1 := tq_le a1
  have hA : rabs (tq * a) ≤ 32/5 := rabs_le.2 ⟨by grind, by grind⟩
  have L0 := tq_le l0
  have L1 := tq_le l1
  obtain ⟨p1, p2⟩ := small_sc (x := tq * lam) (by grind) (by grind)
  obtain ⟨p3, p4⟩ := small_sc (x := tq * 1) (by grind) (by grind)
  have bd := SC_bd hA
  have e1 : tq * (a + lam) = tq * a + tq * lam := by grind
  have e2 : tq * (a + 1) = tq * a + tq * 1 := by grind
  rw [e1, e2]
  have s1 := rabs_le.1 (sin_add (x := tq * a) (y := tq * lam) hA (rabs_le.2 ⟨by grind, by grind⟩))
  have s2 := rabs_le.1 (cos_add (x := tq * a) (y := tq * lam) hA (rabs_le.2 ⟨by grind, by grind⟩))
  have s3 := rabs_le.1 (sin_add (x := tq * a) (y := tq * 1) hA (rabs_le.2 ⟨by grind, by grind⟩))
  have s4 := rabs_le.1 (cos_add (x := tq * a) (y := tq * 1) hA (rabs_le.2 ⟨by grind, by grind⟩))
  -- the parts that are left
  have m1 := rabs_le.1 (mul_rabs bd.1 p2)
  have m2 := rabs_le.1 (mul_rabs bd.2 p1)
  have m3 := rabs_le.1 (mul_rabs bd.1 p4)
  have m4 := rabs_le.1 (mul_rabs bd.2 p3)
  have m5 := rabs_le.1 (mul_rabs bd.1 p1)
  have m6 := rabs_le.1 (mul_rabs bd.2 p2)
  have m7 := rabs_le.1 (mul_rabs bd.1 p3)
  have m8 := rabs_le.1 (mul_rabs bd.2 p4)
  have lb : rabs lam ≤ 1 := rabs_le.2 ⟨l1, by grind⟩
  have q1 := rabs_le.1 (mul_rabs lb ((rabs_le (x := S (tq * a + tq * 1) - (S (tq * a) + tq * 1 * C (tq * a))) (b := 2 / 10000000000000)).2 ⟨by grind, by grind⟩))
  have q2 := rabs_le.1 (mul_rabs lb ((rabs_le (x := C (tq * a + tq * 1) - (C (tq * a) - tq * 1 * S (tq * a))) (b := 2 / 10000000000000)).2 ⟨by grind, by grind⟩))
  clear m3 m4 m7 m8 s3 s4 p1 p2 p3 p4 bd hA lb
  generalize S (tq * a + tq * lam) = X1 at *
  generalize C (tq * a + tq * lam) = X2 at *
  generalize S (tq * a + tq * 1) = X3 at *
  generalize C (tq * a + tq * 1) = X4 at *
  generalize S (tq * lam) = sl at *
  generalize C (tq * lam) = cl at *
  generalize S (tq * a) = sa at *
  generalize C (tq * a) = ca at *
  constructor <;> rw [rabs_le] <;> constructor <;> grind
/-- The whole part of a number. -/
theorem floor_ex (w : Rat) : ∃ n : Int, (n : Rat) ≤ w ∧ w < (n : Rat) + 1 := ⟨w.floor, Rat.floor_le w, by have h := Rat.lt_floor_add_one w; push_cast at h; exact h⟩
/-- What an interval of sines is worth at a number, up to the errors told. -/
def InU (L H : Int) (x ε : Rat) : Prop := (L : Rat) - ε ≤ 1000000000 * x ∧ 1000000000 * x ≤ (H : Rat) + ε
theorem rabs_tri {x y z a b : Rat} (h1 : rabs (x - y) ≤ a) (h2 : rabs (y - z) ≤ b) : rabs (x - z) ≤ a + b := by
  have h1 := rabs_le.1 h1
  have h2 := rabs_le.1 h2
  exact rabs_le.2 ⟨by grind, by grind⟩
theorem line_fin {lam L H x xa xb sa sb : Rat} (l0 : 0 ≤ lam) (l0' : 0 ≤ 1 - lam) (hx : rabs (x - ((1 - lam) * xa + lam * xb)) ≤ 4 / 1000000000000) (ha : rabs (xa - sa) ≤ 4 / 1000000000000) (hb : rabs (xb - sb) ≤ 4 / 1000000000000) (g1 : L ≤ 1000000000 * sa + 4/1000) (g2 : 1000000000 * sa ≤ H + 4/1000) (g3 : L ≤ 1000000000 * sb + 4/1000) (g4 : 1000000000 * sb ≤ H + 4/1000) : L - 25/1000 ≤ 1000000000 * x ∧ 1000000000 * x ≤ H + 25/1000 := by
  have ha := rabs_le.1 ha
  have hb := rabs_le.1 hb
  have hx := rabs_le.1 hx
  have m1 := Rat.mul_le_mul_of_nonneg_left (show L - 1/100 ≤ 1000000000 * xa by grind) l0'
  have m2 := Rat.mul_le_mul_of_nonneg_left (show L - 1/100 ≤ 1000000000 * xb by grind) l0
  have m3 := Rat.mul_le_mul_of_nonneg_left (show 1000000000 * xa ≤ H + 1/100 by grind) l0'
  have m4 := Rat.mul_le_mul_of_nonneg_left (show 1000000000 * xb ≤ H + 1/100 by grind) l0
  clear g1 g2 g3 g4
  constructor <;> grind
theorem over_any {lo hi k : Int} {z : Rat} (hlh : lo ≤ hi) (z0 : 0 ≤ z) (z1 : z ≤ 1000000000) (h1 : (lo : Rat) - 1/500 ≤ z + (k : Rat) * 1000000000) (h2 : z + (k : Rat) * 1000000000 ≤ (hi : Rat) + 1/500) :
    InU (sovLo lo hi) (sovHi lo hi) (S (tq * z)) (25/1000) ∧ InU (sovLo (lo + 250000000) (hi + 250000000)) (sovHi (lo + 250000000) (hi + 250000000)) (C (tq * z)) (25/1000) := by
  have ok := over_ok lo hi hlh
  have ok2 := over_ok (lo + 250000000) (hi + 250000000) (by omega)
  -- at a whole angle
  have whole : ∀ n : Int, lo ≤ n → n ≤ hi → rabs (z + (k : Rat) * 1000000000 - (n : Rat)) ≤ 1/500 → InU (sovLo lo hi) (sovHi lo hi) (S (tq * z)) (25/1000) ∧ InU (sovLo (lo + 250000000) (hi + 250000000)) (sovHi (lo + 250000000) (hi + 250000000)) (C (tq * z)) (25/1000) := by
    intro n n1 n2 hn
    have a := siU_near z0 z1 hn (by grind)
    have a1 := rabs_le.1 a.1
    have a2 := rabs_le.1 a.2
    have b1 := ok.c1 n n1 n2
    have b2 := ok.c2 n n1 n2
    have b3 := ok2.c1 (n + 250000000) (by omega) (by omega)
    have b4 := ok2.c2 (n + 250000000) (by omega) (by omega)
    unfold InU
    clear ok ok2 a hn
    refine ⟨⟨?_, ?_⟩, ⟨?_, ?_⟩⟩ <;> grind
  obtain ⟨w, hw⟩ : ∃ w, z + (k : Rat) * 1000000000 = w := ⟨_, rfl⟩
  rw [hw] at h1 h2
  by_cases c1 : w ≤ (lo : Rat)
  · exact whole lo (by omega) hlh (by rw [hw]; exact rabs_le.2 ⟨by grind, by grind⟩)
  by_cases c2 : (hi : Rat) ≤ w
  · exact whole hi hlh (by omega) (by rw [hw]; exact rabs_le.2 ⟨by grind, by grind⟩)
  obtain ⟨n, f1, f2⟩ := floor_ex w
  have n1 : lo ≤ n := by
    by_cases q : lo ≤ n
    · exact q
    · exfalso
      have := icast (show n + 1 ≤ lo by omega)
      push_cast at this; grind
  have n2 : n + 1 ≤ hi := by
    by_cases q : n + 1 ≤ hi
    · exact q
    · exfalso
      have := icast (show hi ≤ n by omega)
      grind
  obtain ⟨lam, hl⟩ : ∃ lam, w - (n : Rat) = lam := ⟨_, rfl⟩
  obtain ⟨b0, b1⟩ := emod_bd n
  have B0 := icast b0
  have B1 := icast (show n % 1000000000 ≤ 999999999 by omega)
  have c0 : ((0 : Int) : Rat) = 0 := rfl
  have cc : ((999999999 : Int) : Rat) = 999999999 := rfl
  have cb : ((1000000000 : Int) : Rat) = 1000000000 := rfl
  rw [c0] at B0
  rw [cc] at B1
  have e : (n : Rat) = ((n % 1000000000 : Int) : Rat) + ((n / 1000000000 : Int) : Rat) * 1000000000 := turn_split n
  generalize hb : ((n % 1000000000 : Int) : Rat) = b at *
  obtain ⟨t1, t2⟩ := sc_turns (z := z) (b := b + lam) (j := n / 1000000000 - k) (μ := 0) (by grind) (by grind) (by grind) (by grind) (by
    have q : z - (b + lam) - ((n / 1000000000 - k : Int) : Rat) * 1000000000 = 0 := by push_cast; grind
    rw [q]; decide +kernel) (by grind)
  obtain ⟨l1, l2⟩ := sc_line (a := b) (lam := lam) (by grind) (by grind) (by grind) (by grind)
  -- the whole angles' sines
  obtain ⟨u1, u2⟩ := siU_near (n := n) (k := n / 1000000000) (z := b) (μ := 0) (by grind) (by grind) (by rw [show b + ((n / 1000000000 : Int) : Rat) * 1000000000 - (n : Rat) = 0 by grind]; decide +kernel) (by grind)
  obtain ⟨v1, v2⟩ := siU_near (n := n + 1) (k := n / 1000000000) (z := b + 1) (μ := 0) (by grind) (by grind) (by rw [show b + 1 + ((n / 1000000000 : Int) : Rat) * 1000000000 - ((n + 1 : Int) : Rat) = 0 by push_cast; grind]; decide +kernel) (by grind)
  have o1 := ok.c1 n n1 (by omega)
  have o2 := ok.c2 n n1 (by omega)
  have o3 := ok.c1 (n + 1) (by omega) n2
  have o4 := ok.c2 (n + 1) (by omega) n2
  have r1 := ok2.c1 (n + 250000000) (by omega) (by omega)
  have r2 := ok2.c2 (n + 250000000) (by omega) (by omega)
  have r3 := ok2.c1 (n + 1 + 250000000) (by omega) (by omega)
  have r4 := ok2.c2 (n + 1 + 250000000) (by omega) (by omega)
  have lb : rabs lam ≤ 1 := rabs_le.2 ⟨by grind, by grind⟩
  have lb1 : rabs (1 - lam) ≤ 1 := rabs_le.2 ⟨by grind, by grind⟩
  have zz : 628320 / 100000000000000 * (0 : Rat) + 3 / 1000000000000 ≤ 4 / 1000000000000 := by decide +kernel
  have zz2 : 628320 / 100000000000000 * (0 : Rat) + 4 / 1000000000000 ≤ 4 / 1000000000000 := by decide +kernel
  have z3 : 628320 / 100000000000000 * (0 : Rat) + 3 / 1000000000000 + 1 / 1000000000000 ≤ 4 / 1000000000000 := by decide +kernel
  have l0 : 0 ≤ lam := by clear ok ok2 whole o1 o2 o3 o4 r1 r2 r3 r4 t1 t2 l1 l2 u1 u2 v1 v2; grind
  have l0' : 0 ≤ 1 - lam := by clear ok ok2 whole o1 o2 o3 o4 r1 r2 r3 r4 t1 t2 l1 l2 u1 u2 v1 v2; grind
  have eN : n + 250000000 + 1 = n + 1 + 250000000 := by omega
  exact ⟨line_fin l0 l0' (Rat.le_trans (rabs_tri t1 l1) z3) (Rat.le_trans u1 zz) (Rat.le_trans v1 zz) o1 o2 o3 o4, line_fin l0 l0' (Rat.le_trans (rabs_tri t2 l2) z3) (Rat.le_trans u2 zz2) (Rat.le_trans v2 zz2) r1 r2 r3 r4⟩
end
end Go.Proofs.YtcgnhnmigmdalaaGreatDoor
