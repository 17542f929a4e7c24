/- A point of a rectangle lies between the bounds of its arc, by the reference's test; the arc of a small rectangle is narrow. No program in sight. -/
import Derived.Test.YtaaiamcpdicnhaaDoorTrC
set_option linter.unusedVariables false
set_option linter.unusedSimpArgs false
namespace Go.Proofs.YtaaiamcpdicnhaaDoor
open Ieee
/-- A linear function at a number near an interval is not much below that at one of the bounds. -/
theorem lin_lo {s xl xh x ε : Rat} (h0 : 0 ≤ ε) (h1 : xl - ε ≤ x) (h2 : x ≤ xh + ε) (hs : rabs s ≤ 101/100) : s * xl - 101/100 * ε ≤ s * x ∨ s * xh - 101/100 * ε ≤ s * x := by
  have hs := rabs_le.1 hs
  have e0 := Rat.mul_le_mul_of_nonneg_right hs.1 h0
  have e1 := Rat.mul_le_mul_of_nonneg_right hs.2 h0
  by_cases h : 0 ≤ s
  · left
    have m := Rat.mul_le_mul_of_nonneg_left h1 h
    grind
  · right
    have m := Rat.mul_le_mul_of_nonneg_left h2 (show 0 ≤ -s by grind)
    grind
theorem rect_lin {p q xl xh yl yh x y β : Rat} (hp : rabs p ≤ 101/100) (hq : rabs q ≤ 101/100) (h1 : -β ≤ p * xl + q * yl) (h2 : -β ≤ p * xl + q * yh) (h3 : -β ≤ p * xh + q * yl) (h4 : -β ≤ p * xh + q * yh)
    (x1 : xl - 1/10 ≤ x) (x2 : x ≤ xh + 1/10) (y1 : yl - 1/10 ≤ y) (y2 : y ≤ yh + 1/10) : -β - 203/1000 ≤ p * x + q * y := by
  have b0 : (0 : Rat) ≤ 1/10 := by decide +kernel
  rcases lin_lo b0 x1 x2 hp with u | u <;> rcases lin_lo b0 y1 y2 hq with v | v <;> grind
theorem half_of {z : Rat} (h : -(25/100) - 203/1000 ≤ z) : -(1/2) ≤ z := by grind
theorem quarter_of {z : Rat} (h : -(1/10) - 203/1000 ≤ z) : -(32/100) ≤ z := by grind
/-- A direction lies between two angles of whole units, roughly. -/
structure Near (a h : Int) (x y : Rat) : Prop where
  c1 : -(1/2) ≤ C (tq * a) * y - S (tq * a) * x
  c2 : -(1/2) ≤ S (tq * h) * x - C (tq * h) * y
  c3 : -(65/100) ≤ (C (tq * a) + C (tq * h)) * x + (S (tq * a) + S (tq * h)) * y
theorem rect_near {a h : Int} (a0 : 0 ≤ a) (a1 : a < 1000000000) (h0 : 0 ≤ h) (h1 : h < 1000000000) {xl xh yl yh x y : Rat} (k1 : Between a h xl yl) (k2 : Between a h xl yh) (k3 : Between a h xh yl) (k4 : Between a h xh yh)
    (bx1 : rabs xl ≤ 1100000000) (bx2 : rabs xh ≤ 1100000000) (by1 : rabs yl ≤ 1400000000) (by2 : rabs yh ≤ 1400000000) (x1 : xl - 1/10 ≤ x) (x2 : x ≤ xh + 1/10) (y1 : yl - 1/10 ≤ y) (y2 : y ≤ yh + 1/10) : Near a h x y := by
  have ra := ang_range a0 a1
  have rh := ang_range h0 h1
  rw [angU_tq] at ra rh
  have qa := SC_bd ra.2.2
  have qh := SC_bd rh.2.2
  obtain ⟨k11, k12, k13⟩ := k1
  obtain ⟨k21, k22, k23⟩ := k2
  obtain ⟨k31, k32, k33⟩ := k3
  obtain ⟨k41, k42, k43⟩ := k4
  clear ra rh
  have sx : ∀ p q : Rat, 1 / 10000000000 * (rabs p + rabs q) ≤ 1 / 10000000000 * (rabs p + rabs q) := fun _ _ => Rat.le_refl
  have w1 : ∀ {p q : Rat}, rabs p ≤ 1100000000 → rabs q ≤ 1400000000 → -(25/100) ≤ -(1 / 10000000000 * (rabs p + rabs q)) := by
    intro p q h1 h2; grind
  have n0 : ∀ {p : Rat}, rabs p ≤ 1 + 1 / 100000000000 → rabs p ≤ 101/100 := fun h => by grind
  have n1 : ∀ {p : Rat}, rabs p ≤ 1 + 1 / 100000000000 → rabs (-p) ≤ 101/100 := fun h => by rw [rabs_neg]; grind
  have n2 : ∀ {p q : Rat}, rabs p ≤ 1 + 1 / 100000000000 → rabs q ≤ 1 + 1 / 100000000000 → rabs ((p + q) / 2) ≤ 101/100 := by
    intro p q h1 h2
    have h1 := rabs_le.1 h1
    have h2 := rabs_le.1 h2
    exact rabs_le.2 ⟨by grind, by grind⟩
  have e1 : ∀ a b c d : Rat, a * b - c * d = -c * d + a * b := fun a b c d => by grind
  refine ⟨?_, ?_, ?_⟩
  · have r := rect_lin (p := -S (tq * a)) (q := C (tq * a)) (β := 25/100) (n1 qa.1) (n0 qa.2) (by rw [← e1]; exact Rat.le_trans (w1 bx1 by1) k11) (by rw [← e1]; exact Rat.le_trans (w1 bx1 by2) k21) (by rw [← e1]; exact Rat.le_trans (w1 bx2 by1) k31) (by rw [← e1]; exact Rat.le_trans (w1 bx2 by2) k41) x1 x2 y1 y2
    rw [e1]; exact half_of r
  · have e2 : ∀ a b c d : Rat, a * b - c * d = a * b + -c * d := fun a b c d => by grind
    have r := rect_lin (p := S (tq * h)) (q := -C (tq * h)) (β := 25/100) (n0 qh.1) (n1 qh.2) (by rw [← e2]; exact Rat.le_trans (w1 bx1 by1) k12) (by rw [← e2]; exact Rat.le_trans (w1 bx1 by2) k22) (by rw [← e2]; exact Rat.le_trans (w1 bx2 by1) k32) (by rw [← e2]; exact Rat.le_trans (w1 bx2 by2) k42) x1 x2 y1 y2
    rw [e2]; exact half_of r
  · have e3 : ∀ a b c d : Rat, -(32/100) ≤ (a / 2) * b + (c / 2) * d → -(65/100) ≤ a * b + c * d := fun a b c d h => by grind
    have e4 : ∀ a b c d : Rat, 0 ≤ a * b + c * d → -(1/10) ≤ (a / 2) * b + (c / 2) * d := fun a b c d h => by grind
    have r := rect_lin (p := (C (tq * a) + C (tq * h)) / 2) (q := (S (tq * a) + S (tq * h)) / 2) (β := 1/10) (n2 qa.2 qh.2) (n2 qa.1 qh.1) (e4 _ _ _ _ k13) (e4 _ _ _ _ k23) (e4 _ _ _ _ k33) (e4 _ _ _ _ k43) x1 x2 y1 y2
    exact e3 _ _ _ _ (quarter_of r)
theorem inArc_near {a h u v : Int} {x y : Rat} (a0 : 0 ≤ a) (a1 : a < 1000000000) (h0 : 0 ≤ h) (h1 : h < 1000000000) (hb : Near a h x y) (hu : rabs ((u : Rat) - uQ * (y / 1000000000)) ≤ 100000000) (hv : rabs ((v : Rat) - uQ * (x / 1000000000)) ≤ 100000000) (bu : rabs (u : Rat) ≤ 1160000000000000000) (bv : rabs (v : Rat) ≤ 1160000000000000000) : InArcOk a h u v := by
  obtain ⟨s1, s2⟩ := sc_ang a0 a1
  obtain ⟨s3, s4⟩ := sc_ang h0 h1
  rw [angU_tq] at s1 s2 s3 s4
  have ra := ang_range a0 a1
  have rh := ang_range h0 h1
  rw [angU_tq] at ra rh
  have qa := SC_bd ra.2.2
  have qh := SC_bd rh.2.2
  clear ra rh
  have g1 := rabs_le.1 (fm_sc s2 bu Rat.le_refl)
  have g2 := rabs_le.1 (fm_sc s1 bv Rat.le_refl)
  have g3 := rabs_le.1 (fm_sc s3 bv Rat.le_refl)
  have g4 := rabs_le.1 (fm_sc s4 bu Rat.le_refl)
  have g5 := rabs_le.1 (fm_sc s2 bv Rat.le_refl)
  have g6 := rabs_le.1 (fm_sc s1 bu Rat.le_refl)
  have g7 := rabs_le.1 (fm_sc s4 bv Rat.le_refl)
  have g8 := rabs_le.1 (fm_sc s3 bu Rat.le_refl)
  have m1 := rabs_le.1 (mul_rabs qa.2 hu)
  have m2 := rabs_le.1 (mul_rabs qa.1 hv)
  have m3 := rabs_le.1 (mul_rabs qh.1 hv)
  have m4 := rabs_le.1 (mul_rabs qh.2 hu)
  have m5 := rabs_le.1 (mul_rabs qa.2 hv)
  have m6 := rabs_le.1 (mul_rabs qa.1 hu)
  have m7 := rabs_le.1 (mul_rabs qh.2 hv)
  have m8 := rabs_le.1 (mul_rabs qh.1 hu)
  obtain ⟨b1, b2, b3⟩ := hb
  clear s1 s2 s3 s4 hu hv bu bv qa qh
  have hU : uQ = 1152921504606846976 := rfl
  simp only [hU] at m1 m2 m3 m4 m5 m6 m7 m8
  clear hU
  generalize S (tq * a) = sa at *
  generalize C (tq * a) = ca at *
  generalize S (tq * h) = sh at *
  generalize C (tq * h) = ch at *
  have r : ∀ {p q : Int}, (p : Rat) ≤ (q : Rat) → p ≤ q := fun h => Rat.intCast_le_intCast.1 h
  have r' : ∀ {p q : Int}, (p : Rat) < (q : Rat) → p < q := fun h => by exact_mod_cast h
  have d1 : ((-2147483648 : Int) : Rat) = -2147483648 := rfl
  refine ⟨r ?_, r ?_, r' ?_⟩
  · rw [d1]; push_cast; clear g3 g4 g5 g6 g7 g8 m3 m4 m5 m6 m7 m8 b2 b3 r r' d1; grind
  · rw [d1]; push_cast; clear g1 g2 g5 g6 g7 g8 m1 m2 m5 m6 m7 m8 b1 b3 r r' d1; grind
  · rw [d1]; push_cast; clear g1 g2 g3 g4 m1 m2 m3 m4 b1 b2 r r' d1; grind
/-- An angle whose sine is small and whose cosine is positive is near a whole turn. -/
theorem small_angle {δ σ : Rat} (hd : rabs δ ≤ 63/10) (hs : rabs (S δ) ≤ σ) (hσ : σ ≤ 3/50) (hc : 1/4 ≤ C δ) : ∃ n : Int, -1 ≤ n ∧ n ≤ 1 ∧ rabs (δ - (n : Rat) * (2 * piQ)) ≤ σ * (1004/1000) + 1 / 100000000000 := by
  have hp := pi_num
  have key : ∀ x : Rat, 0 ≤ x → x ≤ 8/5 → rabs (S x) ≤ σ + 2 / 1000000000000 → x ≤ σ * (1004/1000) + 1 / 100000000000 := by
    intro x x0 x1 hx
    have hx := rabs_le.1 hx
    have l := S_lin x0 x1
    have x2 : x ≤ 13/100 := by grind
    have kb := (k_bd (x := x) (rabs_le.2 ⟨by grind, by grind⟩)).1
    have e1 := S_gT x
    have e2 := gT_kT x
    have q1 := Rat.mul_nonneg x0 x0
    have q2 : x * x ≤ 169/10000 := by
      have := Rat.mul_le_mul_of_nonneg_left x2 x0
      grind
    have q3 := Rat.mul_nonneg q1 (show 0 ≤ pv kT x + 1/5 by grind)
    have q4 : 1 - 169/50000 ≤ pv gT x := by grind
    have q5 := Rat.mul_le_mul_of_nonneg_left q4 x0
    grind
  have near : ∀ x : Rat, rabs x ≤ 8/5 → rabs (S x) ≤ σ + 2 / 1000000000000 → rabs x ≤ σ * (1004/1000) + 1 / 100000000000 := by
    intro x hx h
    have hx := rabs_le.1 hx
    by_cases x0 : 0 ≤ x
    · rw [rabs_pos x0]; exact key x x0 (by grind) h
    · have e : rabs x = -x := by unfold rabs; rw [if_neg x0]
      rw [e]
      have := key (-x) (by grind) (by grind) (by rw [S_neg, rabs_neg]; exact h)
      exact this
  have mid : ∀ x : Rat, rabs (x - piQ) ≤ 8/5 - 3/100 → C x ≤ 1/10 := by
    intro x hx
    have hx := rabs_le.1 hx
    have hpp : rabs piQ ≤ 32/5 := rabs_le.2 ⟨by grind, by grind⟩
    have a := rabs_le.1 (cos_add (x := piQ) (y := x - piQ) hpp (rabs_le.2 ⟨by grind, by grind⟩))
    have e : piQ + (x - piQ) = x := by grind
    rw [e] at a
    obtain ⟨p1, p2, -⟩ := at_pi
    have bb := SC_bd (y := x - piQ) (rabs_le.2 ⟨by grind, by grind⟩)
    have m1 := rabs_le.1 (mul_rabs p1 bb.1)
    have m2 := rabs_le.1 (mul_rabs p2 bb.2)
    have cu := C_up (d := 1/1000) (x := x - piQ) (by grind) (by grind) (by grind) (by grind)
    generalize S piQ = sp at *
    generalize C piQ = cp at *
    grind
  have midn : ∀ x : Rat, 0 ≤ x → x ≤ 63/10 → rabs (S x) ≤ σ → 1/4 ≤ C x → rabs x ≤ σ * (1004/1000) + 1 / 100000000000 ∨ rabs (x - 2 * piQ) ≤ σ * (1004/1000) + 1 / 100000000000 := by
    intro x x0 x1 hx hc
    by_cases h1 : x ≤ 8/5
    · left; exact near x (rabs_le.2 ⟨by grind, by grind⟩) (by have := rabs_le.1 hx; exact rabs_le.2 ⟨by grind, by grind⟩)
    · by_cases h2 : x ≤ 47/10
      · exfalso
        have := mid x (rabs_le.2 ⟨by grind, by grind⟩)
        grind
      · right
        have t := rabs_le.1 (sin_turn (x := x - 2 * piQ) (rabs_le.2 ⟨by grind, by grind⟩)).1
        have e : x - 2 * piQ + 2 * piQ = x := by grind
        rw [e] at t
        have hx := rabs_le.1 hx
        exact near (x - 2 * piQ) (rabs_le.2 ⟨by grind, by grind⟩) (rabs_le.2 ⟨by grind, by grind⟩)
  have hd := rabs_le.1 hd
  have z0 : ((0 : Int) : Rat) = 0 := rfl
  have z1 : ((1 : Int) : Rat) = 1 := rfl
  have z2 : ((-1 : Int) : Rat) = -1 := rfl
  by_cases h : 0 ≤ δ
  · rcases midn δ h (by grind) hs hc with k | k
    · refine ⟨0, by omega, by omega, ?_⟩
      rw [z0, show δ - 0 * (2 * piQ) = δ by grind]; exact k
    · refine ⟨1, by omega, by omega, ?_⟩
      rw [z1, show δ - 1 * (2 * piQ) = δ - 2 * piQ by grind]; exact k
  · rcases midn (-δ) (by grind) (by grind) (by rw [S_neg, rabs_neg]; exact hs) (by rw [C_neg]; exact hc) with k | k
    · refine ⟨0, by omega, by omega, ?_⟩
      rw [z0, show δ - 0 * (2 * piQ) = -(-δ) by grind, rabs_neg]; exact k
    · refine ⟨-1, by omega, by omega, ?_⟩
      rw [z2, show δ - -1 * (2 * piQ) = -(-δ - 2 * piQ) by grind, rabs_neg]; exact k
end Go.Proofs.YtaaiamcpdicnhaaDoor
