/- The addition theorems of the sine and the cosine, closely; the intervals of sines hold those of every number between their bounds. No program in sight. -/
import Derived.Test.YtcgnhnmigmdalaaGreatDoorLkA
set_option linter.unusedVariables false
set_option linter.unusedSimpArgs false
namespace Go.Proofs.YtcgnhnmigmdalaaGreatDoor
open Ieee
theorem adds20 : pbd2 (badd (bsh sT) (bscale (-1) (badd (bout sT cT) (bout cT sT)))) (33/10) (33/10) ≤ 1 / 10 ^ 20 := by decide +kernel
theorem addc20 : pbd2 (badd (bsh cT) (bscale (-1) (badd (bout cT cT) (bscale (-1) (bout sT sT))))) (33/10) (33/10) ≤ 1 / 10 ^ 20 := by decide +kernel
theorem sin_add20 {x y : Rat} (hx : rabs x ≤ 33/10) (hy : rabs y ≤ 33/10) : rabs (S (x + y) - (S x * C y + C x * S y)) ≤ 1 / 100000000000000000000 := by
  have h := pv2_near hx hy _ _ adds20
  rw [pv2_sh, pv2_add, pv2_out, pv2_out] at h
  have e : (1 : Rat) / 10 ^ 20 = 1 / 100000000000000000000 := by decide +kernel
  rw [e] at h
  exact h
theorem cos_add20 {x y : Rat} (hx : rabs x ≤ 33/10) (hy : rabs y ≤ 33/10) : rabs (C (x + y) - (C x * C y - S x * S y)) ≤ 1 / 100000000000000000000 := by
  have h := pv2_near hx hy _ _ addc20
  rw [pv2_sh, pv2_add, pv2_scale, pv2_out, pv2_out] at h
  have e : (1 : Rat) / 10 ^ 20 = 1 / 100000000000000000000 := by decide +kernel
  have e1 : pv cT x * pv cT y + -1 * (pv sT x * pv sT y) = pv cT x * pv cT y - pv sT x * pv sT y := by grind
  rw [e, e1] at h
  exact h
theorem sin_sub20 {x y : Rat} (hx : rabs x ≤ 33/10) (hy : rabs y ≤ 33/10) : rabs (S (x - y) - (S x * C y - C x * S y)) ≤ 1 / 100000000000000000000 := by
  have h := sin_add20 hx (y := -y) (by rw [rabs_neg]; exact hy)
  rw [S_neg, C_neg] at h
  rw [show x + -y = x - y by grind, show S x * C y + C x * -S y = S x * C y - C x * S y by grind] at h
  exact h
theorem cos_sub20 {x y : Rat} (hx : rabs x ≤ 33/10) (hy : rabs y ≤ 33/10) : rabs (C (x - y) - (C x * C y + S x * S y)) ≤ 1 / 100000000000000000000 := by
  have h := cos_add20 hx (y := -y) (by rw [rabs_neg]; exact hy)
  rw [S_neg, C_neg] at h
  rw [show x + -y = x - y by grind, show C x * C y - S x * -S y = C x * C y + S x * S y by grind] at h
  exact h
theorem pi20 : rabs (S piQ) ≤ 1 / 100000000000000000000 ∧ rabs (C piQ + 1) ≤ 1 / 100000000000000000000 ∧ rabs (S (2 * piQ)) ≤ 1 / 100000000000000000000 ∧ rabs (C (2 * piQ) - 1) ≤ 1 / 100000000000000000000 := by decide +kernel
theorem pi_lim : piQ ≤ 314160 / 100000 ∧ 314159 / 100000 ≤ piQ := by decide +kernel
/-- A turn back. -/
theorem turn20 {w : Rat} (h0 : 0 ≤ w) (h1 : w ≤ 63/10) : rabs (S (w - 2 * piQ) - S w) ≤ 1 / 1000000000000000000 ∧ rabs (C (w - 2 * piQ) - C w) ≤ 1 / 1000000000000000000 := by
  obtain ⟨q1, q2⟩ := pi_lim
  obtain ⟨p1, p2, -, -⟩ := pi20
  obtain ⟨u, hu⟩ : ∃ u, w / 2 = u := ⟨_, rfl⟩
  have ew : w = 2 * u := by grind
  have u1 : rabs u ≤ 33/10 := rabs_le.2 ⟨by grind, by grind⟩
  have u2 : rabs u ≤ 16/5 := rabs_le.2 ⟨by grind, by grind⟩
  have hp : rabs piQ ≤ 33/10 := rabs_le.2 ⟨by grind, by grind⟩
  have u3 : rabs (u - piQ) ≤ 16/5 := rabs_le.2 ⟨by grind, by grind⟩
  have t20 : (1 : Rat) / 10 ^ 20 = 1 / 100000000000000000000 := by decide +kernel
  have a1 := sin_double20 u2
  have a2 := cos_double20 u2
  have b1 := sin_double20 u3
  have b2 := cos_double20 u3
  rw [t20] at a1 a2 b1 b2
  have s1 := rabs_le.1 (sin_sub20 u1 hp)
  have s2 := rabs_le.1 (cos_sub20 u1 hp)
  have bd := SC_bd (y := u) (by grind)
  have m1 := rabs_le.1 (mul_rabs bd.1 p2)
  have m2 := rabs_le.1 (mul_rabs bd.2 p1)
  have m3 := rabs_le.1 (mul_rabs bd.2 p2)
  have m4 := rabs_le.1 (mul_rabs bd.1 p1)
  have c1 : rabs (S (u - piQ) + S u) ≤ 4 / 100000000000000000000 := rabs_le.2 ⟨by grind, by grind⟩
  have c2 : rabs (C (u - piQ) + C u) ≤ 4 / 100000000000000000000 := rabs_le.2 ⟨by grind, by grind⟩
  have bd2 := SC_bd (y := u - piQ) (by grind)
  have k1 := rabs_le.1 (mul_rabs c1 bd2.2)
  have k2 := rabs_le.1 (mul_rabs bd.1 c2)
  have k3 := rabs_le.1 (mul_rabs c1 bd2.1)
  have k4 := rabs_le.1 (mul_rabs bd.1 c1)
  have a1 := rabs_le.1 a1
  have a2 := rabs_le.1 a2
  have b1 := rabs_le.1 b1
  have b2 := rabs_le.1 b2
  rw [ew, show 2 * u - 2 * piQ = 2 * (u - piQ) by grind]
  clear m1 m2 m3 m4 s1 s2 c1 c2 bd bd2 p1 p2 q1 q2 ew hu u1 u2 u3 hp
  generalize S (2 * (u - piQ)) = x1 at *
  generalize C (2 * (u - piQ)) = x2 at *
  generalize S (2 * u) = x3 at *
  generalize C (2 * u) = x4 at *
  generalize S (u - piQ) = y1 at *
  generalize C (u - piQ) = y2 at *
  generalize S u = y3 at *
  generalize C u = y4 at *
  constructor
  · rw [rabs_le]; constructor <;> grind
  · rw [rabs_le]; constructor <;> grind
theorem two_turn : rabs (S (tq * 1000000000) - S (tq * -1000000000)) ≤ 1 / 1000000000000000000 ∧ rabs (C (tq * 1000000000) - C (tq * -1000000000)) ≤ 1 / 1000000000000000000 := by decide +kernel
/-- The sine at an angle from minus a turn to a turn, and at the one from 0 on. -/
theorem sc_anyX {θ z : Rat} {j : Int} (h0 : -1000000000 ≤ θ) (h1 : θ ≤ 1000000000) (z0 : 0 ≤ z) (z1 : z ≤ 1000000000) (e : z = θ + (j : Rat) * 1000000000) : rabs (S (tq * z) - S (tq * θ)) ≤ 1 / 1000000000000000000 ∧ rabs (C (tq * z) - C (tq * θ)) ≤ 1 / 1000000000000000000 := by
  obtain ⟨q1, q2⟩ := pi_lim
  have rr : ∀ x : Rat, rabs (x - x) ≤ 1 / 1000000000000000000 := fun x => by rw [show x - x = 0 by grind]; decide +kernel
  have sw : ∀ x y : Rat, rabs (x - y) = rabs (y - x) := fun x y => by rw [← rabs_neg, show -(x - y) = y - x by grind]
  have hj : j = 0 ∨ j = 1 ∨ j = -1 ∨ j = 2 := by
    have c2 : ((3 : Int) : Rat) = 3 := rfl
    have cm : ((-2 : Int) : Rat) = -2 := rfl
    have a1 : j < 3 := by
      by_cases q : j < 3
      · exact q
      · exfalso
        have := icast (show 3 ≤ j by omega)
        rw [c2] at this; grind
    have a2 : -2 < j := by
      by_cases q : -2 < j
      · exact q
      · exfalso
        have := icast (show j ≤ -2 by omega)
        rw [cm] at this; grind
    omega
  have tz : tq * 0 = 0 := by grind
  have tt := tq_turn
  rcases hj with rfl | rfl | rfl | rfl
  · have : z = θ := by rw [e, show ((0 : Int) : Rat) = 0 from rfl]; grind
    rw [this]; exact ⟨rr _, rr _⟩
  · rw [show ((1 : Int) : Rat) = 1 from rfl] at e
    have et : tq * θ = tq * z - 2 * piQ := by rw [← tt, e]; grind
    have a := tq_le z0
    have b := tq_le z1
    rw [tz] at a
    rw [tt] at b
    have k := turn20 (w := tq * z) a (by grind)
    rw [et, sw (S (tq * z)), sw (C (tq * z))]; exact k
  · rw [show ((-1 : Int) : Rat) = -1 from rfl] at e
    have et : tq * z = tq * θ - 2 * piQ := by rw [← tt, e]; grind
    have a := tq_le (show 0 ≤ θ by grind)
    have b := tq_le h1
    rw [tz] at a
    rw [tt] at b
    rw [et]; exact turn20 (w := tq * θ) a (by grind)
  · rw [show ((2 : Int) : Rat) = 2 from rfl] at e
    have ez : z = 1000000000 := by grind
    have eθ : θ = -1000000000 := by grind
    rw [ez, eθ]; exact two_turn
/-- A number's angle brought to half a turn either way. -/
theorem half_red {z : Rat} (z0 : 0 ≤ z) (z1 : z ≤ 1000000000) : ∃ (z' : Rat) (j : Int), z = z' + (j : Rat) * 1000000000 ∧ rabs (tq * z') ≤ 33/10 ∧ -500000000 ≤ z' ∧ z' ≤ 500000000 := by
  obtain ⟨q1, q2⟩ := pi_lim
  have t1 : tq * 500000000 = piQ := tq_num.2.2.2.2.2.2.2
  have t2 : tq * -500000000 = -piQ := by rw [← t1]; grind
  by_cases q : z ≤ 500000000
  · have a := tq_le (show -500000000 ≤ z by grind)
    have b := tq_le q
    rw [t1] at b
    rw [t2] at a
    exact ⟨z, 0, by rw [show ((0 : Int) : Rat) = 0 from rfl]; grind, rabs_le.2 ⟨by grind, by grind⟩, by grind, q⟩
  · have a := tq_le (show -500000000 ≤ z - 1000000000 by grind)
    have b := tq_le (show z - 1000000000 ≤ 500000000 by grind)
    rw [t1] at b
    rw [t2] at a
    exact ⟨z - 1000000000, 1, by rw [show ((1 : Int) : Rat) = 1 from rfl]; grind, rabs_le.2 ⟨by grind, by grind⟩, by grind, by grind⟩
/-- The sine and the cosine of a difference, closely. -/
theorem sc_minusX {a z h : Rat} {j : Int} (a0 : 0 ≤ a) (a1 : a ≤ 1000000000) (z0 : 0 ≤ z) (z1 : z ≤ 1000000000) (h0 : 0 ≤ h) (h1 : h ≤ 1000000000) (e : h = a - z + (j : Rat) * 1000000000) :
    rabs (S (tq * h) - (S (tq * a) * C (tq * z) - C (tq * a) * S (tq * z))) ≤ 1 / 100000000000000000 ∧ rabs (C (tq * h) - (C (tq * a) * C (tq * z) + S (tq * a) * S (tq * z))) ≤ 1 / 100000000000000000 := by
  obtain ⟨z', jz, e1, hz, b1, b2⟩ := half_red z0 z1
  obtain ⟨a', ja, e2, ha, c1, c2⟩ := half_red a0 a1
  obtain ⟨s1, s2⟩ := sc_anyX (θ := z') (z := z) (by grind) (by grind) z0 z1 e1
  obtain ⟨s3, s4⟩ := sc_anyX (θ := a') (z := a) (by grind) (by grind) a0 a1 e2
  obtain ⟨s5, s6⟩ := sc_anyX (θ := a' - z') (z := h) (j := j + ja - jz) (by grind) (by grind) h0 h1 (by push_cast; grind)
  have p1 := rabs_le.1 (sin_sub20 ha hz)
  have p2 := rabs_le.1 (cos_sub20 ha hz)
  rw [show tq * (a' - z') = tq * a' - tq * z' by grind] at s5 s6
  have bz := SC_bd (y := tq * z') (by grind)
  have ba := sc_one a0 a1
  have m1 := rabs_le.1 (mul_rabs ba.1 s1)
  have m2 := rabs_le.1 (mul_rabs ba.1 s2)
  have m3 := rabs_le.1 (mul_rabs ba.2 s1)
  have m4 := rabs_le.1 (mul_rabs ba.2 s2)
  have m5 := rabs_le.1 (mul_rabs s3 bz.1)
  have m6 := rabs_le.1 (mul_rabs s3 bz.2)
  have m7 := rabs_le.1 (mul_rabs s4 bz.1)
  have m8 := rabs_le.1 (mul_rabs s4 bz.2)
  have s5 := rabs_le.1 s5
  have s6 := rabs_le.1 s6
  clear s1 s2 s3 s4 hz ha bz ba e1 e2 e b1 b2 c1 c2
  generalize S (tq * a) = sa at *
  generalize C (tq * a) = ca at *
  generalize S (tq * z) = sz at *
  generalize C (tq * z) = cz at *
  generalize S (tq * a') = sa' at *
  generalize C (tq * a') = ca' at *
  generalize S (tq * z') = sz' at *
  generalize C (tq * z') = cz' at *
  constructor
  · rw [rabs_le]; constructor <;> grind
  · rw [rabs_le]; constructor <;> grind
/-- The sines' squares, closely. -/
theorem circY {z : Rat} (z0 : 0 ≤ z) (z1 : z ≤ 1000000000) : rabs (S (tq * z) * S (tq * z) + C (tq * z) * C (tq * z) - 1) ≤ 1 / 10000000000000000 := by
  have h := (sc_minusX (j := 0) z0 z1 z0 z1 (h := 0) (by grind) (by grind) (by rw [show ((0 : Int) : Rat) = 0 from rfl]; grind)).2
  have e : C (tq * 0) = 1 := by decide +kernel
  rw [e] at h
  have h := rabs_le.1 h
  exact rabs_le.2 ⟨by grind, by grind⟩
theorem oneY {z : Rat} (z0 : 0 ≤ z) (z1 : z ≤ 1000000000) : rabs (S (tq * z)) ≤ 1 + 1 / 10000000000000000 ∧ rabs (C (tq * z)) ≤ 1 + 1 / 10000000000000000 := by
  have c := rabs_le.1 (circY z0 z1)
  have a := sq_nonneg (S (tq * z))
  have b := sq_nonneg (C (tq * z))
  exact ⟨sq_rabs (by decide +kernel) (by grind), sq_rabs (by decide +kernel) (by grind)⟩
theorem quarters20 : (rabs (S (tq * 250000000) - 1) ≤ 1 / 100000000000000000000 ∧ rabs (C (tq * 250000000)) ≤ 1 / 100000000000000000000) ∧ (rabs (S (tq * 500000000)) ≤ 1 / 100000000000000000000 ∧ rabs (C (tq * 500000000) + 1) ≤ 1 / 100000000000000000000) ∧ rabs (S (tq * 750000000) + 1) ≤ 1 / 100000000000000000000 ∧ rabs (C (tq * 750000000)) ≤ 1 / 100000000000000000000 := by decide +kernel
/-- From the lowest point on, the sine is the cosine with its sign turned. -/
theorem from_low {z b : Rat} {j : Int} (z0 : 0 ≤ z) (z1 : z ≤ 1000000000) (b0 : 0 ≤ b) (b1 : b ≤ 1000000000) (e : b = z - 750000000 + (j : Rat) * 1000000000) : rabs (S (tq * z) + C (tq * b)) ≤ 1 / 10000000000000000 := by
  have h := rabs_le.1 (sc_minusX z0 z1 (z := 750000000) (by grind) (by grind) b0 b1 e).2
  obtain ⟨-, -, p, q⟩ := quarters20
  have n := sc_one z0 z1
  have m1 := rabs_le.1 (mul_rabs n.1 p)
  have m2 := rabs_le.1 (mul_rabs n.2 q)
  exact rabs_le.2 ⟨by grind, by grind⟩
theorem from_high {z b : Rat} {j : Int} (z0 : 0 ≤ z) (z1 : z ≤ 1000000000) (b0 : 0 ≤ b) (b1 : b ≤ 1000000000) (e : b = z - 250000000 + (j : Rat) * 1000000000) : rabs (S (tq * z) - C (tq * b)) ≤ 1 / 10000000000000000 := by
  have h := rabs_le.1 (sc_minusX z0 z1 (z := 250000000) (by grind) (by grind) b0 b1 e).2
  obtain ⟨⟨p, q⟩, -⟩ := quarters20
  have n := sc_one z0 z1
  have m1 := rabs_le.1 (mul_rabs n.1 p)
  have m2 := rabs_le.1 (mul_rabs n.2 q)
  exact rabs_le.2 ⟨by grind, by grind⟩
/-- A quarter of a turn on, the sine is the cosine. -/
theorem quarter_on {z b : Rat} {j : Int} (z0 : 0 ≤ z) (z1 : z ≤ 1000000000) (b0 : 0 ≤ b) (b1 : b ≤ 1000000000) (e : b = z + 250000000 + (j : Rat) * 1000000000) : rabs (S (tq * b) - C (tq * z)) ≤ 1 / 10000000000000000 := by
  have h := rabs_le.1 (sc_minusX (j := j + 1) z0 z1 (z := 750000000) (by grind) (by grind) b0 b1 (by rw [e]; push_cast; grind)).1
  obtain ⟨-, -, p, q⟩ := quarters20
  have n := sc_one z0 z1
  have m1 := rabs_le.1 (mul_rabs n.2 p)
  have m2 := rabs_le.1 (mul_rabs n.1 q)
  exact rabs_le.2 ⟨by grind, by grind⟩
theorem S_up20 {x : Rat} (x0 : 0 ≤ x) (x1 : x ≤ piQ) : -(1 / 1000000000000000000) ≤ S x := by
  obtain ⟨q1, q2⟩ := pi_lim
  by_cases h : x ≤ 8/5
  · have := (S_lin x0 h).1
    grind
  · obtain ⟨p1, p2, -⟩ := pi20
    have hx : rabs x ≤ 33/10 := rabs_le.2 ⟨by grind, by grind⟩
    have h1 := rabs_le.1 (sin_sub20 (x := piQ) (y := x) (rabs_le.2 ⟨by grind, by grind⟩) hx)
    have hb := SC_bd (y := x) (by grind)
    have m1 := rabs_le.1 (mul_rabs p1 hb.2)
    have m2 := rabs_le.1 (mul_rabs p2 hb.1)
    have l := (S_lin (x := piQ - x) (by grind) (by grind)).1
    generalize S piQ = sp at *
    generalize C piQ = cp at *
    grind
/-- From 0 to half a turn the cosine falls. -/
theorem cos_fall {x y : Rat} (x0 : 0 ≤ x) (h : x ≤ y) (y1 : y ≤ piQ) : C y ≤ C x + 1 / 100000000000000000 := by
  obtain ⟨q1, q2⟩ := pi_lim
  have hm : rabs ((x + y) / 2) ≤ 33/10 := rabs_le.2 ⟨by grind, by grind⟩
  have hd : rabs ((y - x) / 2) ≤ 33/10 := rabs_le.2 ⟨by grind, by grind⟩
  have a := rabs_le.1 (cos_add20 hm hd)
  have b := rabs_le.1 (cos_sub20 hm hd)
  rw [show (x + y) / 2 + (y - x) / 2 = y by grind] at a
  rw [show (x + y) / 2 - (y - x) / 2 = x by grind] at b
  have s := S_up20 (x := (x + y) / 2) (by grind) (by grind)
  have l := S_lin (x := (y - x) / 2) (by grind) (by grind)
  have m := Rat.mul_nonneg (show 0 ≤ S ((x + y) / 2) + 1 / 1000000000000000000 by grind) (show 0 ≤ S ((y - x) / 2) by grind)
  generalize C ((x + y) / 2) * C ((y - x) / 2) = u at *
  generalize S ((x + y) / 2) = v at *
  generalize S ((y - x) / 2) = w at *
  generalize C y = cy at *
  generalize C x = cx at *
  grind
theorem cos_valleyX {x y z : Rat} (x0 : 0 ≤ x) (h1 : x ≤ y) (h2 : y ≤ z) (z1 : z ≤ 2 * piQ) : C y ≤ C x + 1 / 10000000000000000 ∨ C y ≤ C z + 1 / 10000000000000000 := by
  obtain ⟨q1, q2⟩ := pi_lim
  by_cases h : y ≤ piQ
  · left
    have := cos_fall x0 h1 h
    grind
  · right
    have a := (rabs_le.1 (turn20 (w := y) (by grind) (by grind)).2)
    have b := (rabs_le.1 (turn20 (w := z) (by grind) (by grind)).2)
    have k := cos_fall (x := 2 * piQ - z) (y := 2 * piQ - y) (by grind) (by grind) (by grind)
    rw [show 2 * piQ - z = -(z - 2 * piQ) by grind, show 2 * piQ - y = -(y - 2 * piQ) by grind, C_neg, C_neg] at k
    grind
theorem siU_z (n : Int) : siU n = S (tq * ((n % 1000000000 : Int) : Rat)) ∧ (0 : Rat) ≤ ((n % 1000000000 : Int) : Rat) ∧ ((n % 1000000000 : Int) : Rat) ≤ 1000000000 ∧ (n : Rat) = ((n % 1000000000 : Int) : Rat) + ((n / 1000000000 : Int) : Rat) * 1000000000 := by
  obtain ⟨b0, b1⟩ := emod_bd n
  have B0 := icast b0
  have B1 := icast (show n % 1000000000 ≤ 1000000000 by omega)
  rw [show ((0 : Int) : Rat) = 0 from rfl] at B0
  rw [show ((1000000000 : Int) : Rat) = 1000000000 from rfl] at B1
  exact ⟨siU_b n, B0, B1, turn_split n⟩
/-- Between two angles that do not have the lowest (highest) one between them: no sine is below (above) both. -/
theorem low_any {lo hi k : Int} {z : Rat} (z0 : 0 ≤ z) (z1 : z ≤ 1000000000) (h1 : (lo : Rat) ≤ z + (k : Rat) * 1000000000) (h2 : z + (k : Rat) * 1000000000 ≤ (hi : Rat)) (hlh : lo ≤ hi) (hg : hi - lo < (750000000 - lo) % 1000000000) : siU lo ≤ S (tq * z) + 4 / 10000000000000000 ∨ siU hi ≤ S (tq * z) + 4 / 10000000000000000 := by
  obtain ⟨g0, g1⟩ := emod_bd (750000000 - lo)
  have tg := turn_split (750000000 - lo)
  generalize hG : (750000000 - lo) % 1000000000 = g at *
  generalize (750000000 - lo) / 1000000000 = q at *
  obtain ⟨sl, l0, l1, le⟩ := siU_z lo
  obtain ⟨sh, r0, r1, re⟩ := siU_z hi
  have G0 := icast g0
  have G1 := icast (show g ≤ 1000000000 by omega)
  have HG := icast (show hi - lo ≤ g by omega)
  have HL := icast hlh
  push_cast at G0 G1 HG tg
  have a := from_low (b := 1000000000 - (g : Rat)) (j := q + 1 + lo / 1000000000) l0 l1 (by grind) (by grind) (by push_cast; grind)
  have c := from_low (b := 1000000000 - (g : Rat) + ((hi : Rat) - (lo : Rat))) (j := q + 1 + hi / 1000000000) r0 r1 (by grind) (by grind) (by push_cast; grind)
  have b := from_low (z := z) (b := 1000000000 - (g : Rat) + (z + (k : Rat) * 1000000000 - (lo : Rat))) (j := q + 1 + k) z0 z1 (by grind) (by grind) (by push_cast; grind)
  rw [← sl] at a
  rw [← sh] at c
  have a := rabs_le.1 a
  have b := rabs_le.1 b
  have c := rabs_le.1 c
  have v := cos_valleyX (x := tq * (1000000000 - (g : Rat))) (y := tq * (1000000000 - (g : Rat) + (z + (k : Rat) * 1000000000 - (lo : Rat)))) (z := tq * (1000000000 - (g : Rat) + ((hi : Rat) - (lo : Rat)))) (by have := tq_le (show 0 ≤ 1000000000 - (g : Rat) by grind); grind) (tq_le (by grind)) (tq_le (by grind)) (by rw [← tq_turn]; exact tq_le (by grind))
  rcases v with v | v
  · left; grind
  · right; grind
theorem high_any {lo hi k : Int} {z : Rat} (z0 : 0 ≤ z) (z1 : z ≤ 1000000000) (h1 : (lo : Rat) ≤ z + (k : Rat) * 1000000000) (h2 : z + (k : Rat) * 1000000000 ≤ (hi : Rat)) (hlh : lo ≤ hi) (hg : hi - lo < (250000000 - lo) % 1000000000) : S (tq * z) ≤ siU lo + 4 / 10000000000000000 ∨ S (tq * z) ≤ siU hi + 4 / 10000000000000000 := by
  obtain ⟨g0, g1⟩ := emod_bd (250000000 - lo)
  have tg := turn_split (250000000 - lo)
  generalize hG : (250000000 - lo) % 1000000000 = g at *
  generalize (250000000 - lo) / 1000000000 = q at *
  obtain ⟨sl, l0, l1, le⟩ := siU_z lo
  obtain ⟨sh, r0, r1, re⟩ := siU_z hi
  have G0 := icast g0
  have G1 := icast (show g ≤ 1000000000 by omega)
  have HG := icast (show hi - lo ≤ g by omega)
  have HL := icast hlh
  push_cast at G0 G1 HG tg
  have a := from_high (b := 1000000000 - (g : Rat)) (j := q + 1 + lo / 1000000000) l0 l1 (by grind) (by grind) (by push_cast; grind)
  have c := from_high (b := 1000000000 - (g : Rat) + ((hi : Rat) - (lo : Rat))) (j := q + 1 + hi / 1000000000) r0 r1 (by grind) (by grind) (by push_cast; grind)
  have b := from_high (z := z) (b := 1000000000 - (g : Rat) + (z + (k : Rat) * 1000000000 - (lo : Rat))) (j := q + 1 + k) z0 z1 (by grind) (by grind) (by push_cast; grind)
  rw [← sl] at a
  rw [← sh] at c
  have a := rabs_le.1 a
  have b := rabs_le.1 b
  have c := rabs_le.1 c
  have v := cos_valleyX (x := tq * (1000000000 - (g : Rat))) (y := tq * (1000000000 - (g : Rat) + (z + (k : Rat) * 1000000000 - (lo : Rat)))) (z := tq * (1000000000 - (g : Rat) + ((hi : Rat) - (lo : Rat)))) (by have := tq_le (show 0 ≤ 1000000000 - (g : Rat) by grind); grind) (tq_le (by grind)) (tq_le (by grind)) (by rw [← tq_turn]; exact tq_le (by grind))
  rcases v with v | v
  · left; grind
  · right; grind
end Go.Proofs.YtcgnhnmigmdalaaGreatDoor
