/- A direction that is turned back by an angle: the test of an elongation. No program in sight. -/
import Derived.Test.YtjkhoepohiafeaaDoorPlainPlo2
import Derived.Test.YtjkhoepohiafeaaDoorPlainLook2
set_option linter.unusedVariables false
set_option linter.unusedSimpArgs false
namespace Go.Proofs.YtjkhoepohiafeaaDoor
open Ieee
structure NearW (a h : Int) (x y : Rat) : Prop where
  c1 : -(21/20) ≤ C (tq * a) * y - S (tq * a) * x
  c2 : -(21/20) ≤ S (tq * h) * x - C (tq * h) * y
  c3 : -(178/100) ≤ (C (tq * a) + C (tq * h)) * x + (S (tq * a) + S (tq * h)) * y
theorem inArc_nearW {a h u v : Int} {x y : Rat} (a0 : 0 ≤ a) (a1 : a < 1000000000) (h0 : 0 ≤ h) (h1 : h < 1000000000) (hb : NearW a h x y) (hu : rabs ((u : Rat) - uQ * (y / 1000000000)) ≤ 1000000) (hv : rabs ((v : Rat) - uQ * (x / 1000000000)) ≤ 1000000) (bu : rabs (u : Rat) ≤ 1160000000000000000) (bv : rabs (v : Rat) ≤ 1160000000000000000) : InArcOk a h u v := by
  obtain ⟨s1, s2⟩ := sc_ang a0 a1
  obtain ⟨s3, s4⟩ := sc_ang h0 h1
  rw [angU_tq] at s1 s2 s3 s4
  have ra := ang_range a0 a1
  have rh := ang_range h0 h1
  rw [angU_tq] at ra rh
  have qa := SC_bd ra.2.2
  have qh := SC_bd rh.2.2
  clear ra rh
  have g1 := rabs_le.1 (fm_sc s2 bu Rat.le_refl)
  have g2 := rabs_le.1 (fm_sc s1 bv Rat.le_refl)
  have g3 := rabs_le.1 (fm_sc s3 bv Rat.le_refl)
  have g4 := rabs_le.1 (fm_sc s4 bu Rat.le_refl)
  have g5 := rabs_le.1 (fm_sc s2 bv Rat.le_refl)
  have g6 := rabs_le.1 (fm_sc s1 bu Rat.le_refl)
  have g7 := rabs_le.1 (fm_sc s4 bv Rat.le_refl)
  have g8 := rabs_le.1 (fm_sc s3 bu Rat.le_refl)
  have m1 := rabs_le.1 (mul_rabs qa.2 hu)
  have m2 := rabs_le.1 (mul_rabs qa.1 hv)
  have m3 := rabs_le.1 (mul_rabs qh.1 hv)
  have m4 := rabs_le.1 (mul_rabs qh.2 hu)
  have m5 := rabs_le.1 (mul_rabs qa.2 hv)
  have m6 := rabs_le.1 (mul_rabs qa.1 hu)
  have m7 := rabs_le.1 (mul_rabs qh.2 hv)
  have m8 := rabs_le.1 (mul_rabs qh.1 hu)
  obtain ⟨b1, b2, b3⟩ := hb
  clear s1 s2 s3 s4 hu hv bu bv qa qh
  have hU : uQ = 1152921504606846976 := rfl
  simp only [hU] at m1 m2 m3 m4 m5 m6 m7 m8
  clear hU
  generalize S (tq * a) = sa at *
  generalize C (tq * a) = ca at *
  generalize S (tq * h) = sh at *
  generalize C (tq * h) = ch at *
  have r : ∀ {p q : Int}, (p : Rat) ≤ (q : Rat) → p ≤ q := fun h => Rat.intCast_le_intCast.1 h
  have r' : ∀ {p q : Int}, (p : Rat) < (q : Rat) → p < q := fun h => Rat.intCast_lt_intCast.1 h
  have d1 : ((-2147483648 : Int) : Rat) = -2147483648 := rfl
  refine ⟨r ?_, r ?_, r' ?_⟩
  · rw [d1]; push_cast; clear g3 g4 g5 g6 g7 g8 m3 m4 m5 m6 m7 m8 b2 b3 r r' d1; grind
  · rw [d1]; push_cast; clear g1 g2 g5 g6 g7 g8 m1 m2 m5 m6 m7 m8 b1 b3 r r' d1; grind
  · rw [d1]; push_cast; clear g1 g2 g3 g4 m1 m2 m3 m4 b1 b2 r r' d1; grind
theorem sq_nn (z : Rat) : 0 ≤ z * z := by rw [← rabs_sq]; exact Rat.mul_nonneg (rabs_nonneg z) (rabs_nonneg z)
/-- The part of a vector across a direction is not longer than it. -/
theorem cross_bd {p q s c r : Rat} (r0 : 0 ≤ r) (h : p * p + q * q ≤ r * r) (hc : s * s + c * c ≤ 1 + 1 / 100000000000) : rabs (q * c - p * s) ≤ r * (1 + 1 / 100000000000) := by
  have cs : (q * c - p * s) * (q * c - p * s) ≤ (p * p + q * q) * (s * s + c * c) := by
    have := sq_nn (q * s + p * c)
    grind
  have k := sq_nn s
  have k2 := sq_nn c
  have m1 := Rat.mul_le_mul_of_nonneg_right h (show 0 ≤ s * s + c * c by grind)
  have m2 := Rat.mul_le_mul_of_nonneg_left hc (Rat.mul_nonneg r0 r0)
  have m3 := Rat.mul_nonneg r0 r0
  refine sq_rabs (Rat.mul_nonneg r0 (by decide +kernel)) ?_
  have e : r * (1 + 1 / 100000000000) * (r * (1 + 1 / 100000000000)) = r * r * (1 + 2 / 100000000000 + 1 / 10000000000000000000000) := by grind
  rw [e]
  grind
/-- A direction that lies between two angles has an angle between them. -/
theorem elo_head {a hi : Int} {X Y M : Rat} (a0 : 0 ≤ a) (a1 : a < 1000000000) (hh : a ≤ hi) (hw : hi - a ≤ 100000) (hN : Near a (hi % 1000000000) X Y) (M0 : 1000000 ≤ M) (M1 : M ≤ 650000000) (bx : rabs X ≤ M) (bY : rabs Y ≤ M) (len : M * M / 64 ≤ X * X + Y * Y) :
    ∃ z R G : Rat, 0 ≤ z ∧ z ≤ 1000000000 ∧ (∃ k : Int, (a : Rat) ≤ z + (k : Rat) * 1000000000 ∧ z + (k : Rat) * 1000000000 ≤ (hi : Rat)) ∧ 0 ≤ R ∧ R ≤ 930000000 ∧ rabs G ≤ 51/100 ∧ rabs (X - (R * C (tq * z) - G * S (tq * z))) ≤ 1/100 ∧ rabs (Y - (R * S (tq * z) + G * C (tq * z))) ≤ 1/100 := by
  obtain ⟨t, ht⟩ : ∃ t : Rat, t = 1 / M := ⟨_, rfl⟩
  have tm : t * M = 1 := by rw [ht]; exact Rat.div_mul_cancel (by grind)
  have t0 : 0 ≤ t := by
    by_cases q : 0 ≤ t
    · exact q
    · exfalso
      have := Rat.mul_nonneg (show 0 ≤ -t by grind) (show 0 ≤ M by grind)
      grind
  have m0 := emod_bd hi
  have k1 := siU_b a
  have k2 := coU_b a
  have k3 := siU_b hi
  have k4 := coU_b hi
  rw [Int.emod_eq_of_lt a0 a1] at k1 k2
  obtain ⟨n1, n2, n3⟩ := hN
  have X1 : rabs (t * X) ≤ 1 := by
    rw [rabs_tm t0]
    have := Rat.mul_le_mul_of_nonneg_left bx t0
    grind
  have Y1 : rabs (t * Y) ≤ 1 := by
    rw [rabs_tm t0]
    have := Rat.mul_le_mul_of_nonneg_left bY t0
    grind
  have p1 := Rat.mul_le_mul_of_nonneg_left n1 t0
  have p2 := Rat.mul_le_mul_of_nonneg_left n2 t0
  have w1 := rabs_le.1 (mul_rabs k2 Y1)
  have w2 := rabs_le.1 (mul_rabs k4 Y1)
  rw [← k1] at p1 n3
  rw [← k3] at p2 n3
  obtain ⟨z, hz⟩ := head_ex (lo := a) (hi := hi) (X := t * X) (Y := t * Y) (β := t / 2 + 1 / 1000000000000) hh (by omega) (by grind) (by grind) (by grind) (by grind) (by grind)
  have cc := rabs_le.1 (circT hz.z0 hz.z1)
  have zg := hz.g
  have zs := rabs_le.1 hz.s
  have zc := rabs_le.1 hz.c
  have l := co_lip hh (by omega)
  have l1 := rabs_le.1 l.1
  have l2 := rabs_le.1 l.2
  have k2 := rabs_le.1 k2
  have k4 := rabs_le.1 k4
  have one := sc_one hz.z0 hz.z1
  refine ⟨z, C (tq * z) * X + S (tq * z) * Y, C (tq * z) * Y - S (tq * z) * X, hz.z0, hz.z1, hz.k, ?_⟩
  clear hz p1 p2 w1 w2 n1 n2 X1 Y1 m0 k1 k3 l
  generalize S (tq * z) = s at *
  generalize C (tq * z) = c at *
  have hG : rabs (c * Y - s * X) ≤ 51/100 := by
    have e : c * Y - s * X = M * (c * (t * Y) - s * (t * X)) := by
      have : M * (c * (t * Y) - s * (t * X)) = (t * M) * (c * Y - s * X) := by grind
      rw [this, tm]; grind
    rw [e, rabs_tm (show 0 ≤ M by grind)]
    have := Rat.mul_le_mul_of_nonneg_left zg (show 0 ≤ M by grind)
    have e2 : M * (t / 2 + 1 / 1000000000000 + 1 / 100000000000) = t * M / 2 + M * (11 / 1000000000000) := by grind
    rw [e2, tm] at this
    grind
  have G2 := (rabs_le.1 (mul_rabs hG hG)).1
  have RR : (c * X + s * Y) * (c * X + s * Y) + (c * Y - s * X) * (c * Y - s * X) = (X * X + Y * Y) * (s * s + c * c) := by grind
  have xx := (rabs_le.1 (mul_rabs bx bx)).1
  have yy := (rabs_le.1 (mul_rabs bY bY)).1
  have x0 := sq_nn X
  have y0 := sq_nn Y
  have mm1 := Rat.mul_le_mul_of_nonneg_left (show s * s + c * c ≤ 1 + 1 / 100000000000 by grind) (show 0 ≤ X * X + Y * Y by grind)
  have mm2 := Rat.mul_le_mul_of_nonneg_left (show 1 - 1 / 100000000000 ≤ s * s + c * c by grind) (show 0 ≤ X * X + Y * Y by grind)
  have MM := sq_le_sq (show 0 ≤ M by grind) M1
  have MM0 := sq_le_sq (show (0 : Rat) ≤ 1000000 by decide +kernel) M0
  have d1 := rabs_le.1 (mul_rabs (show rabs (2 * c - (C (tq * a) + C (tq * ((hi % 1000000000 : Int) : Rat)))) ≤ 2/100 from rabs_le.2 ⟨by grind, by grind⟩) bx)
  have d2 := rabs_le.1 (mul_rabs (show rabs (2 * s - (siU a + siU hi)) ≤ 2/100 from rabs_le.2 ⟨by grind, by grind⟩) bY)
  have bxx := rabs_le.1 bx
  have byy := rabs_le.1 bY
  have Rlow : -(33/100) - 2/100 * M ≤ c * X + s * Y := by grind
  have Rup : c * X + s * Y ≤ 930000000 := by
    have h := (rabs_le.1 (sq_rabs (a := c * X + s * Y) (b := 930000000) (by decide +kernel) (by
      have := sq_nn (c * Y - s * X)
      generalize (c * Y - s * X) * (c * Y - s * X) = g at *
      generalize (c * X + s * Y) * (c * X + s * Y) = rr at *
      grind))).1
    exact h
  have Rpos : 0 ≤ c * X + s * Y := by
    by_cases q : 0 ≤ c * X + s * Y
    · exact q
    · exfalso
      have q2 := sq_le_sq (show 0 ≤ -(c * X + s * Y) by grind) (show -(c * X + s * Y) ≤ 33/100 + 2/100 * M by grind)
      have e : (33/100 + 2/100 * M) * (33/100 + 2/100 * M) = 1089/10000 + 132/10000 * M + 4/10000 * (M * M) := by grind
      have e2 : -(c * X + s * Y) * -(c * X + s * Y) = (c * X + s * Y) * (c * X + s * Y) := by grind
      rw [e, e2] at q2
      generalize (c * Y - s * X) * (c * Y - s * X) = g at *
      generalize (c * X + s * Y) * (c * X + s * Y) = rr at *
      generalize M * M = mq at *
      grind
  refine ⟨Rpos, Rup, hG, ?_, ?_⟩
  · have e : X - ((c * X + s * Y) * c - (c * Y - s * X) * s) = -((s * s + c * c - 1) * X) := by grind
    have k := mul_rabs (a := s * s + c * c - 1) (A := 1 / 100000000000) (rabs_le.2 ⟨by grind, by grind⟩) bx
    rw [e, rabs_neg]
    grind
  · have e : Y - ((c * X + s * Y) * s + (c * Y - s * X) * c) = -((s * s + c * c - 1) * Y) := by grind
    have k := mul_rabs (a := s * s + c * c - 1) (A := 1 / 100000000000) (rabs_le.2 ⟨by grind, by grind⟩) bY
    rw [e, rabs_neg]
    grind
end Go.Proofs.YtjkhoepohiafeaaDoor
