/- A direction whose coordinates lie in intervals has angles in them; the reference's parts of a direction. No program in sight. The sun's and the moon's coordinates hold their directions tightly. No program in sight. The reference's parts of the sun's and the moon's direction lie in place.look's intervals, up to a unit. No program in sight. -/
import Derived.Test.YtcgnhnmigmdalaaGreatDoorLkA
import Derived.Test.YtcgnhnmigmdalaaGreatDoorEqB
import Derived.Test.YtcgnhnmigmdalaaGreatDoorLkB
import Derived.Test.YtcgnhnmigmdalaaGreatDoorSnA
import Derived.Test.YtcgnhnmigmdalaaGreatDoorMnA
import Derived.Test.YtcgnhnmigmdalaaGreatDoorWalkLk2
set_option linter.unusedVariables false
set_option linter.unusedSimpArgs false
namespace Go.Proofs.YtcgnhnmigmdalaaGreatDoor
section
open Ieee
/-- What the intervals of right ascension and declination tell of a direction. -/
structure RaDe (a0 a1 d0 d1 : Int) (X Y Z : Rat) : Prop where
  oa : a0 ≤ a1
  wa : a1 - a0 ≤ 1000000
  od : d0 ≤ d1
  b0 : -250000000 ≤ d0
  b1 : d1 ≤ 250000000
  g0 : -(51 / 100000000000) ≤ coU a0 * Y - siU a0 * X
  g1 : -(51 / 100000000000) ≤ siU a1 * X - coU a1 * Y
  g2 : -(1 / 1000000000) ≤ (coU a0 + coU a1) * X + (siU a0 + siU a1) * Y
  e0 : siU d0 ≤ Z + 23 / 100000000000
  e1 : Z ≤ siU d1 + 23 / 100000000000
  n : rabs (X * X + Y * Y + Z * Z - 1) ≤ 5 / 100000000000
  zb : rabs Z ≤ 1/2
theorem len_alg {c ρ E : Rat} (hE : rabs (c * c - ρ * ρ) ≤ 32 / 100000000000) (h1 : 86/100 ≤ ρ) (h2 : -(1 / 1000000000) ≤ c) : rabs (ρ - c) ≤ 19 / 100000000000 := by
  have hE := rabs_le.1 hE
  have e : (c - ρ) * (c + ρ) = c * c - ρ * ρ := by grind
  have c1 : 85/100 ≤ c := by
    by_cases q : c < 85/100
    · exfalso
      have p := Rat.mul_nonneg (show 0 ≤ ρ - c - 1/100 by grind) (show 0 ≤ c + ρ by grind)
      grind
    · grind
  have s : 171/100 ≤ c + ρ := by grind
  by_cases q : 0 ≤ c - ρ
  · have p := Rat.mul_le_mul_of_nonneg_left s q
    rw [rabs_le]; constructor <;> grind
  · have p := Rat.mul_le_mul_of_nonneg_left s (show 0 ≤ ρ - c by grind)
    rw [rabs_le]; constructor <;> grind
theorem dirA_of {a0 a1 d0 d1 : Int} {X Y Z : Rat} (h : RaDe a0 a1 d0 d1 X Y Z) : ∃ z zd, DirA X Y Z z zd ∧ (∃ k : Int, (a0 : Rat) ≤ z + (k : Rat) * 1000000000 ∧ z + (k : Rat) * 1000000000 ≤ (a1 : Rat)) ∧ (∃ k : Int, (d0 : Rat) ≤ zd + (k : Rat) * 1000000000 ∧ zd + (k : Rat) * 1000000000 ≤ (d1 : Rat)) := by
  obtain ⟨oa, wa, od, b0, b1, g0, g1, g2, e0, e1, n, zb⟩ := h
  have n' := rabs_le.1 n
  have sq : ∀ z : Rat, 0 ≤ z * z := fun z => by rw [← rabs_sq]; exact Rat.mul_nonneg (rabs_nonneg z) (rabs_nonneg z)
  have sx := sq X
  have sy := sq Y
  have sz := sq Z
  have bX : rabs X ≤ 101/100 := sq_rabs (by grind) (by grind)
  have bY : rabs Y ≤ 101/100 := sq_rabs (by grind) (by grind)
  obtain ⟨z, hz⟩ := head_ex (β := 51 / 100000000000) oa wa (by grind) g0 g1 bX bY
  obtain ⟨zd, hzd⟩ := dec_ex (β := 23 / 100000000000) b0 b1 od (by grind) e0 e1
  refine ⟨z, zd, ⟨hz.z0, hz.z1, hzd.z0, hzd.z1, ⟨C (tq * z) * X + S (tq * z) * Y, C (tq * z) * Y - S (tq * z) * X, ?_, ?_, ?_, ?_⟩, ?_⟩, hz.k, hzd.k⟩
  · have c := circT hz.z0 hz.z1
    have m := rabs_le.1 (mul_rabs c bX)
    have e : X - ((C (tq * z) * X + S (tq * z) * Y) * C (tq * z) - (C (tq * z) * Y - S (tq * z) * X) * S (tq * z)) = -((S (tq * z) * S (tq * z) + C (tq * z) * C (tq * z) - 1) * X) := by grind
    rw [e, rabs_le]; constructor <;> grind
  · have c := circT hz.z0 hz.z1
    have m := rabs_le.1 (mul_rabs c bY)
    have e : Y - ((C (tq * z) * X + S (tq * z) * Y) * S (tq * z) + (C (tq * z) * Y - S (tq * z) * X) * C (tq * z)) = -((S (tq * z) * S (tq * z) + C (tq * z) * C (tq * z) - 1) * Y) := by grind
    rw [e, rabs_le]; constructor <;> grind
  · have := hz.g; grind
  · have c := rabs_le.1 (circT hz.z0 hz.z1)
    have cd := rabs_le.1 (circT hzd.z0 hzd.z1)
    have q1 := hzd.g
    have q2 := hzd.c
    have k1 := rabs_le.1 hz.s
    have k2 := rabs_le.1 hz.c
    have l := co_lip oa wa
    have l1 := rabs_le.1 l.1
    have l2 := rabs_le.1 l.2
    have gg := sq_bd hz.g
    have zb' := rabs_le.1 zb
    have q1' := rabs_le.1 q1
    have m := rabs_le.1 (mul_rabs q1 (show rabs (S (tq * zd) + Z) ≤ 101/100 from rabs_le.2 ⟨by grind, by grind⟩))
    have zz := sq_bd zb
    -- the length is positive
    have d1 := rabs_le.1 (mul_rabs (show rabs (2 * C (tq * z) - (coU a0 + coU a1)) ≤ 2/100 from rabs_le.2 ⟨by grind, by grind⟩) bX)
    have d2 := rabs_le.1 (mul_rabs (show rabs (2 * S (tq * z) - (siU a0 + siU a1)) ≤ 2/100 from rabs_le.2 ⟨by grind, by grind⟩) bY)
    clear k1 k2 l l1 l2 q1
    generalize S (tq * zd) = sd at *
    generalize C (tq * zd) = cd at *
    have pos : -(3/100) ≤ C (tq * z) * X + S (tq * z) * Y := by grind
    have e : (C (tq * z) * X + S (tq * z) * Y) * (C (tq * z) * X + S (tq * z) * Y) + (C (tq * z) * Y - S (tq * z) * X) * (C (tq * z) * Y - S (tq * z) * X) = (S (tq * z) * S (tq * z) + C (tq * z) * C (tq * z)) * (X * X + Y * Y) := by grind
    have xy : X * X + Y * Y ≤ 11/10 := by grind
    have f1 := Rat.mul_le_mul_of_nonneg_right (show S (tq * z) * S (tq * z) + C (tq * z) * C (tq * z) ≤ 1 + 1 / 100000000000 by grind) (show 0 ≤ X * X + Y * Y by grind)
    have f2 := Rat.mul_le_mul_of_nonneg_right (show 1 - 1 / 100000000000 ≤ S (tq * z) * S (tq * z) + C (tq * z) * C (tq * z) by grind) (show 0 ≤ X * X + Y * Y by grind)
    rw [← e] at f1 f2
    have g0' := sq (C (tq * z) * Y - S (tq * z) * X)
    clear e d1 d2 g0 g1 g2
    generalize C (tq * z) * X + S (tq * z) * Y = ρ at *
    generalize (C (tq * z) * Y - S (tq * z) * X) * (C (tq * z) * Y - S (tq * z) * X) = G at *
    have r1 : 86/100 ≤ ρ := by
      by_cases q : ρ < 86/100
      · exfalso
        have p := Rat.mul_nonneg (show 0 ≤ ρ + 3/100 by grind) (show 0 ≤ 86/100 - ρ by grind)
        grind
      · grind
    refine len_alg (E := 0) ?_ r1 (by grind)
    rw [rabs_le]
    constructor <;> grind
  · have := hzd.g
    have e : Z - S (tq * zd) = -(S (tq * zd) - Z) := by grind
    rw [e, rabs_neg]; grind
theorem fm_two8 {s u : Int} {σ υ a b : Rat} (hs : rabs ((s : Rat) - uQ * σ) ≤ a) (hu : rabs ((u : Rat) - uQ * υ) ≤ b) (ha : a ≤ 1000000000) (hb : b ≤ 1000000000) (bσ : rabs σ ≤ 1 + 1 / 1000000) (bυ : rabs υ ≤ 1 + 1 / 1000000) : rabs ((fm s u : Rat) - uQ * (σ * υ)) ≤ 102/100 * (a + b) + 2 := by
  obtain ⟨f1, f2⟩ := fm_near s u
  have u0 : (0 : Rat) < uQ := by decide +kernel
  have a0 : 0 ≤ a := by have := rabs_nonneg ((s : Rat) - uQ * σ); grind
  have b0 : 0 ≤ b := by have := rabs_nonneg ((u : Rat) - uQ * υ); grind
  have m1 := rabs_le.1 (mul_rabs bσ hu)
  have hu' : rabs (u : Rat) ≤ uQ * (101/100) := by
    have k := rabs_le.1 hu
    have l := rabs_le.1 (mul_rabs (a := uQ) (A := uQ) (by rw [rabs_pos (by decide +kernel)]; exact Rat.le_refl) bυ)
    have hU : 1000000000000000000 ≤ uQ := by decide +kernel
    exact rabs_le.2 ⟨by grind, by grind⟩
  have m2 := rabs_le.1 (mul_rabs hs hu')
  have e : (s : Rat) * u = uQ * (uQ * (σ * υ)) + uQ * (σ * ((u : Rat) - uQ * υ)) + ((s : Rat) - uQ * σ) * u := by grind
  rw [e] at f1 f2
  generalize ((s : Rat) - uQ * σ) * u = d at *
  generalize σ * ((u : Rat) - uQ * υ) = g at *
  generalize σ * υ = z at *
  generalize (fm s u : Rat) = F at *
  have n1 := Rat.mul_le_mul_of_nonneg_left m1.1 (show 0 ≤ uQ by grind)
  have n2 := Rat.mul_le_mul_of_nonneg_left m1.2 (show 0 ≤ uQ by grind)
  have ua := Rat.mul_nonneg (show 0 ≤ uQ by grind) a0
  have ub := Rat.mul_nonneg (show 0 ≤ uQ by grind) b0
  have k1 : (F - uQ * z) * uQ ≤ (102/100 * (a + b) + 2) * uQ := by grind
  have k2 : -(102/100 * (a + b) + 2) * uQ ≤ (F - uQ * z) * uQ := by grind
  exact rabs_le.2 ⟨Rat.le_of_mul_le_mul_right k1 u0, Rat.le_of_mul_le_mul_right k2 u0⟩
theorem lat_sc (lat : Int) : rabs (((sc (latA lat)).1 : Rat) - uQ * siU lat) ≤ 180000 ∧ rabs (((sc (latA lat)).2 : Rat) - uQ * coU lat) ≤ 600000 := by
  obtain ⟨b0, b1⟩ := emod_bd lat
  have e : latA lat = lat % 1000000000 * 1000000 := by unfold latA; omega
  obtain ⟨h1, h2⟩ := sc_ang b0 b1
  have hs := siU_b lat
  have hc := coU_b lat
  rw [e]
  rw [angU_tq] at h1 h2
  rw [hs]
  refine ⟨h1, ?_⟩
  have hu : uQ = 1152921504606846976 := by decide +kernel
  have h2 := rabs_le.1 h2
  have hc := rabs_le.1 hc
  rw [hu] at h2 ⊢
  rw [rabs_le]; constructor <;> grind
/-- The reference's parts are near the true ones. -/
structure AbOk (θ lat x y z : Int) (X Y Z : Rat) : Prop where
  o : rabs ((abOut θ x y : Rat) - uQ * vOut (zA θ) X Y) ≤ 21000000
  s : rabs ((abSide θ x y : Rat) - uQ * vSide (zA θ) X Y) ≤ 21000000
  u : rabs ((abUp θ lat x y z : Rat) - uQ * tUp lat Z (vOut (zA θ) X Y)) ≤ 40000000
  n : rabs ((abNo θ lat x y z : Rat) - uQ * tNo lat Z (vOut (zA θ) X Y)) ≤ 40000000
theorem ab_ok {θ lat x y z : Int} {X Y Z : Rat} (t0 : 0 ≤ θ) (t1 : θ < 1000000000000000) (hx : rabs ((x : Rat) - uQ * X) ≤ 10000000) (hy : rabs ((y : Rat) - uQ * Y) ≤ 10000000) (hz : rabs ((z : Rat) - uQ * Z) ≤ 10000000)
    (bX : rabs X ≤ 1 + 1 / 1000000) (bY : rabs Y ≤ 1 + 1 / 1000000) (bZ : rabs Z ≤ 1 + 1 / 1000000) (bO : rabs (vOut (zA θ) X Y) ≤ 1 + 1 / 1000000) : AbOk θ lat x y z X Y Z := by
  obtain ⟨st, ct⟩ := sc_zA t0 t1
  obtain ⟨z0, z1⟩ := zA_bd t0 t1
  have bt := sc_one z0 z1
  have bt1 : rabs (S (tq * zA θ)) ≤ 1 + 1 / 1000000 := by have := bt.1; grind
  have bt2 : rabs (C (tq * zA θ)) ≤ 1 + 1 / 1000000 := by have := bt.2; grind
  obtain ⟨sp, cp⟩ := lat_sc lat
  obtain ⟨-, bl1, bl2⟩ := siU_circ lat
  have bl1' : rabs (siU lat) ≤ 1 + 1 / 1000000 := by grind
  have bl2' : rabs (coU lat) ≤ 1 + 1 / 1000000 := by grind
  have p1 := rabs_le.1 (fm_two8 ct hx (by grind) (by grind) bt2 bX)
  have p2 := rabs_le.1 (fm_two8 st hy (by grind) (by grind) bt1 bY)
  have p3 := rabs_le.1 (fm_two8 ct hy (by grind) (by grind) bt2 bY)
  have p4 := rabs_le.1 (fm_two8 st hx (by grind) (by grind) bt1 bX)
  have O : rabs ((abOut θ x y : Rat) - uQ * vOut (zA θ) X Y) ≤ 21000000 := by
    unfold abOut vOut
    rw [rabs_le]; push_cast
    constructor <;> grind
  have s1 := rabs_le.1 (fm_two8 sp hz (by grind) (by grind) bl1' bZ)
  have s2 := rabs_le.1 (fm_two8 cp O (by grind) (by grind) bl2' bO)
  have s3 := rabs_le.1 (fm_two8 cp hz (by grind) (by grind) bl2' bZ)
  have s4 := rabs_le.1 (fm_two8 sp O (by grind) (by grind) bl1' bO)
  refine ⟨O, ?_, ?_, ?_⟩
  · unfold abSide vSide
    rw [rabs_le]; push_cast
    constructor <;> grind
  · unfold abUp tUp
    rw [rabs_le]; push_cast
    constructor <;> grind
  · unfold abNo tNo
    rw [rabs_le]; push_cast
    constructor <;> grind
end
section
open Ieee
theorem sin_mono2 {x y : Rat} (h : x ≤ y) (hx : rabs x ≤ piQ / 2) (hy : rabs y ≤ piQ / 2) : S x ≤ S y + 5 / 1000000000000 := by
  have hp := pi_num
  have x1 := rabs_le.1 hx
  have y1 := rabs_le.1 hy
  have hm : rabs ((y + x) / 2) ≤ 32/5 := rabs_le.2 ⟨by grind, by grind⟩
  have hd : rabs ((y - x) / 2) ≤ 16/5 := rabs_le.2 ⟨by grind, by grind⟩
  have d := rabs_le.1 (sin_diff hm hd).1
  have e1 : (y + x) / 2 + (y - x) / 2 = y := by grind
  have e2 : (y + x) / 2 - (y - x) / 2 = x := by grind
  rw [e1, e2] at d
  have cu := C_up (d := 0) (x := (y + x) / 2) (by grind) (by grind) (by grind) (by grind)
  have sl := (S_lin (x := (y - x) / 2) (by grind) (by grind)).1
  have sb := rabs_le.1 (SC_bd (y := (y - x) / 2) (by grind)).1
  have m1 := Rat.mul_nonneg (show 0 ≤ C ((y + x) / 2) + 2 / 1000000000000 by grind) (show 0 ≤ S ((y - x) / 2) by grind)
  generalize C ((y + x) / 2) = c at *
  generalize S ((y - x) / 2) = s at *
  grind
theorem sin_15 : 99/100 ≤ S (15/10) ∧ S (-(15/10)) ≤ -(99/100) ∧ (15/10 : Rat) ≤ piQ / 2 := by decide +kernel
theorem asD_small {n : Int} {D : Rat} (h : Asin n D) (h1 : -600000000 ≤ n) (h2 : n ≤ 600000000) : rabs (tq * D) ≤ piQ / 2 := by
  obtain ⟨s1, s2, s3⟩ := sin_15
  have hp := pi_num
  have hs := rabs_le.1 h.s
  have hb := rabs_le.1 h.b
  have N1 := icast h1
  have N2 := icast h2
  have c1 : ((-600000000 : Int) : Rat) = -600000000 := rfl
  have c2 : ((600000000 : Int) : Rat) = 600000000 := rfl
  rw [c1] at N1
  rw [c2] at N2
  rw [rabs_le]
  constructor
  · by_cases q : tq * D ≤ 15/10
    · grind
    · exfalso
      have m := sin_mono (x := 15/10) (y := tq * D) (by grind) (rabs_le.2 ⟨by grind, by grind⟩) (rabs_le.2 ⟨by grind, by grind⟩)
      grind
  · by_cases q : -(15/10) ≤ tq * D
    · grind
    · exfalso
      have m := sin_mono (x := tq * D) (y := -(15/10)) (by grind) (rabs_le.2 ⟨by grind, by grind⟩) (rabs_le.2 ⟨by grind, by grind⟩)
      grind
theorem as_low2 {a : Int} (h1 : -600000000 ≤ a) (h2 : a ≤ 600000000) : siU (asLo a) ≤ (a : Rat) / 1000000000 + 12 / 100000000000 := by
  have ea : cl9 a = a := by unfold cl9; omega
  obtain ⟨n1, n2⟩ := cl9_rng a
  obtain ⟨-, D, -, ha, -, l1, l2, k1, k2⟩ := asin_run (cl9 a) n1 n2
  obtain ⟨b1, b2, -, -, -⟩ := as_bounds a
  have hD := asD_small ha (by omega) (by omega)
  have hs := rabs_le.1 ha.s
  rw [ea] at hs
  rcases (show asLo a = -250000000 ∨ asLo a = arLo (asinW (cl9 a)) by unfold asLo; omega) with h | h
  · rw [h]
    have := rabs_le.1 at_ends.1
    have N1 := icast h1
    have c1 : ((-600000000 : Int) : Rat) = -600000000 := rfl
    rw [c1] at N1
    grind
  · have st := rabs_le.1 (siU_tq b1 b2)
    have mono := sin_mono2 (x := tq * (asLo a : Rat)) (y := tq * D) (tq_le (by rw [h]; grind)) (tq_rng b1 b2) hD
    grind
theorem as_high2 {a : Int} (h1 : -600000000 ≤ a) (h2 : a ≤ 600000000) : (a : Rat) / 1000000000 ≤ siU (asHi a) + 12 / 100000000000 := by
  have ea : cl9 a = a := by unfold cl9; omega
  obtain ⟨n1, n2⟩ := cl9_rng a
  obtain ⟨-, D, -, ha, -, l1, l2, k1, k2⟩ := asin_run (cl9 a) n1 n2
  obtain ⟨-, -, b1, b2, -⟩ := as_bounds a
  have hD := asD_small ha (by omega) (by omega)
  have hs := rabs_le.1 ha.s
  rw [ea] at hs
  rcases (show asHi a = 250000000 ∨ asHi a = arHi (asinW (cl9 a)) by unfold asHi; omega) with h | h
  · rw [h]
    have := rabs_le.1 at_ends.2
    have N2 := icast h2
    have c2 : ((600000000 : Int) : Rat) = 600000000 := rfl
    rw [c2] at N2
    grind
  · have st := rabs_le.1 (siU_tq b1 b2)
    have mono := sin_mono2 (x := tq * D) (y := tq * (asHi a : Rat)) (tq_le (by rw [h]; grind)) hD (tq_rng b1 b2)
    grind
theorem p_norm {zl zb : Rat} (l0 : 0 ≤ zl) (l1 : zl ≤ 1000000000) (b0 : 0 ≤ zb) (b1 : zb ≤ 1000000000) : rabs (pX zl zb * pX zl zb + pY zl zb * pY zl zb + pZ zl zb * pZ zl zb - 1) ≤ 5 / 100000000000 := by
  have cl := circT l0 l1
  have cb := rabs_le.1 (circT b0 b1)
  have ct : rabs (se9 * se9 + ce9 * ce9 - 1) ≤ 1 / 100000000000 := circT (z := 65109000) (by decide +kernel) (by decide +kernel)
  have nl := sc_one l0 l1
  have nb := sc_one b0 b1
  unfold pX pY pZ
  have k1 := sq_bd nb.2
  have k2 := sq_bd nb.1
  have k3 := sq_bd nl.1
  have a1 : rabs (C (tq * zb) * C (tq * zb)) ≤ 101/100 := by have := mul_rabs nb.2 nb.2; grind
  have a2 : rabs (S (tq * zb) * S (tq * zb)) ≤ 101/100 := by have := mul_rabs nb.1 nb.1; grind
  have a3 : rabs (C (tq * zb) * C (tq * zb) * (S (tq * zl) * S (tq * zl))) ≤ 102/100 := by have := mul_rabs a1 (mul_rabs nl.1 nl.1); grind
  have m1 := rabs_le.1 (mul_rabs a1 cl)
  have m2 := rabs_le.1 (mul_rabs a2 ct)
  have m3 := rabs_le.1 (mul_rabs a3 ct)
  clear k1 k2 k3 a1 a2 a3 nl nb cl ct
  generalize S (tq * zl) = sl at *
  generalize C (tq * zl) = cl' at *
  generalize S (tq * zb) = sb at *
  generalize C (tq * zb) = cb' at *
  generalize se9 = se at *
  generalize ce9 = ce at *
  have e : cb' * cl' * (cb' * cl') + (cb' * sl * ce - sb * se) * (cb' * sl * ce - sb * se) + (cb' * sl * se + sb * ce) * (cb' * sl * se + sb * ce) - 1 = cb' * cb' * (sl * sl + cl' * cl' - 1) + cb' * cb' * (sl * sl) * (se * se + ce * ce - 1) + sb * sb * (se * se + ce * ce - 1) + (sb * sb + cb' * cb' - 1) := by grind
  rw [e]
  clear e
  generalize cb' * cb' * (sl * sl + cl' * cl' - 1) = u1 at *
  generalize cb' * cb' * (sl * sl) * (se * se + ce * ce - 1) = u2 at *
  generalize sb * sb * (se * se + ce * ce - 1) = u3 at *
  generalize sb * sb + cb' * cb' - 1 = u4 at *
  rw [rabs_le]; constructor <;> grind
theorem eq_near {l0 l1 b0 b1 : Int} {zl zb : Rat} (p : Pt l0 l1 b0 b1 zl zb) {D0 L H : Rat} {E : Nat → Rat} (hv : ArcV (eqY0 l0 l1 b0 b1) (eqY1 l0 l1 b0 b1) (eqX0 l0 l1 b0 b1) (eqX1 l0 l1 b0 b1) D0 E L H)
    (hw : raHi l0 l1 b0 b1 - raLo l0 l1 b0 b1 ≤ 400000000) : Near (raLo l0 l1 b0 b1 % 1000000000) (raHi l0 l1 b0 b1 % 1000000000) (1000000000 * pX zl zb) (1000000000 * pY zl zb) := by
  obtain ⟨ix, iy, -⟩ := eq_in p
  have sx := eqX_sp p.hl p.hb
  have sy := eqY_bd p.hl p.hb
  unfold raLo raHi at *
  generalize eqX0 l0 l1 b0 b1 = x0 at *
  generalize eqX1 l0 l1 b0 b1 = x1 at *
  generalize eqY0 l0 l1 b0 b1 = y0 at *
  generalize eqY1 l0 l1 b0 b1 = y1 at *
  have c1 := arc_corners hv hw (y := y0) (x := x0) (.inl rfl) (.inl rfl)
  have c2 := arc_corners hv hw (y := y1) (x := x0) (.inr rfl) (.inl rfl)
  have c3 := arc_corners hv hw (y := y0) (x := x1) (.inl rfl) (.inr rfl)
  have c4 := arc_corners hv hw (y := y1) (x := x1) (.inr rfl) (.inr rfl)
  have m1 := emod_bd (arcLo y0 y1 x0 x1)
  have m2 := emod_bd (arcHi y0 y1 x0 x1)
  have q1 := rabs_int (n := x0) (B := 1100000000) (by have := sx.b0; omega) (by have := sx.b1; have := sx.o; omega)
  have q2 := rabs_int (n := x1) (B := 1100000000) (by have := sx.b0; have := sx.o; omega) (by have := sx.b1; omega)
  have q3 := rabs_int (n := y0) (B := 1400000000) (by omega) (by omega)
  have q4 := rabs_int (n := y1) (B := 1400000000) (by omega) (by omega)
  exact rect_near m1.1 m1.2 m2.1 m2.2 c1 c2 c3 c4 q1 q2 q3 q4 ix.1 ix.2 iy.1 iy.2
theorem z_half {l h z : Rat} (z1 : -497976340 ≤ l) (z2 : h ≤ 497976340) (i1 : l - 1/10 ≤ 1000000000 * z) (i2 : 1000000000 * z ≤ h + 1/10) : rabs z ≤ 1/2 := by
  rw [rabs_le]; constructor <;> grind
theorem eq_rade {l0 l1 b0 b1 B : Int} {zl zb : Rat} (p : Pt l0 l1 b0 b1 zl zb) {D0 L H : Rat} {E : Nat → Rat} (hv : ArcV (eqY0 l0 l1 b0 b1) (eqY1 l0 l1 b0 b1) (eqX0 l0 l1 b0 b1) (eqX1 l0 l1 b0 b1) D0 E L H)
    (ho : raLo l0 l1 b0 b1 ≤ raHi l0 l1 b0 b1) (hw : raHi l0 l1 b0 b1 - raLo l0 l1 b0 b1 ≤ 1000000) (hB : B ≤ 100200000) (B0 : 0 ≤ B) (h1 : -B ≤ sovLo b0 b1) (h2 : sovHi b0 b1 ≤ B) :
    RaDe (raLo l0 l1 b0 b1 % 1000000000) (raLo l0 l1 b0 b1 % 1000000000 + raHi l0 l1 b0 b1 - raLo l0 l1 b0 b1) (asLo (eqZ0 l0 l1 b0 b1)) (asHi (eqZ1 l0 l1 b0 b1)) (pX zl zb) (pY zl zb) (pZ zl zb) := by
  have near := eq_near p hv (by omega)
  obtain ⟨z1, z2⟩ := eqZ_small p.hl p.hb h1 h2 B0
  have zo := (eqZ_bd p.hl p.hb).1
  obtain ⟨-, -, i1, i2⟩ := eq_in p
  have ab := as_bounds (eqZ0 l0 l1 b0 b1)
  have ab2 := as_bounds (eqZ1 l0 l1 b0 b1)
  have q1 := as_low2 (a := eqZ0 l0 l1 b0 b1) (by omega) (by omega)
  have q2 := as_high2 (a := eqZ1 l0 l1 b0 b1) (by omega) (by omega)
  have Z1 := icast (show -497976340 ≤ eqZ0 l0 l1 b0 b1 by omega)
  have Z2 := icast (show eqZ1 l0 l1 b0 b1 ≤ 497976340 by omega)
  have c1 : ((-497976340 : Int) : Rat) = -497976340 := rfl
  have c2 : ((497976340 : Int) : Rat) = 497976340 := rfl
  rw [c1] at Z1
  rw [c2] at Z2
  obtain ⟨n1, n2, n3⟩ := near
  have m0 := emod_bd (raLo l0 l1 b0 b1)
  have k1 := siU_b (raLo l0 l1 b0 b1 % 1000000000)
  have k2 := coU_b (raLo l0 l1 b0 b1 % 1000000000)
  have k3 := siU_b (raLo l0 l1 b0 b1 % 1000000000 + raHi l0 l1 b0 b1 - raLo l0 l1 b0 b1)
  have k4 := coU_b (raLo l0 l1 b0 b1 % 1000000000 + raHi l0 l1 b0 b1 - raLo l0 l1 b0 b1)
  rw [show raLo l0 l1 b0 b1 % 1000000000 % 1000000000 = raLo l0 l1 b0 b1 % 1000000000 by omega] at k1 k2
  rw [show (raLo l0 l1 b0 b1 % 1000000000 + raHi l0 l1 b0 b1 - raLo l0 l1 b0 b1) % 1000000000 = raHi l0 l1 b0 b1 % 1000000000 by omega] at k3 k4
  have nn := p_norm p.l.1 p.l.2 p.b.1 p.b.2
  have nn' := rabs_le.1 nn
  have sq : ∀ z : Rat, 0 ≤ z * z := fun z => by rw [← rabs_sq]; exact Rat.mul_nonneg (rabs_nonneg z) (rabs_nonneg z)
  have bX : rabs (pX zl zb) ≤ 101/100 := sq_rabs (by grind) (by have := sq (pX zl zb); have := sq (pY zl zb); have := sq (pZ zl zb); grind)
  have bY : rabs (pY zl zb) ≤ 101/100 := sq_rabs (by grind) (by have := sq (pX zl zb); have := sq (pY zl zb); have := sq (pZ zl zb); grind)
  have w1 := rabs_le.1 (mul_rabs k2 bY)
  have w2 := rabs_le.1 (mul_rabs k4 bY)
  have w3 := rabs_le.1 (mul_rabs k2 bX)
  have w4 := rabs_le.1 (mul_rabs k4 bX)
  rw [← k1] at n1 n3
  rw [← k3] at n2 n3
  have oo : raLo l0 l1 b0 b1 % 1000000000 ≤ raLo l0 l1 b0 b1 % 1000000000 + raHi l0 l1 b0 b1 - raLo l0 l1 b0 b1 := by omega
  have ww : raLo l0 l1 b0 b1 % 1000000000 + raHi l0 l1 b0 b1 - raLo l0 l1 b0 b1 - raLo l0 l1 b0 b1 % 1000000000 ≤ 1000000 := by omega
  clear k1 k2 k3 k4 sq nn' bX bY
  refine ⟨oo, ww, as_order zo, ab.1, ab2.2.2.2.1, ?_, ?_, ?_, ?_, ?_, nn, ?_⟩
  all_goals clear nn oo ww m0 ab ab2 z1 z2 zo ho hw hB B0 h1 h2
  · clear n2 n3 w2 w3 w4 q1 q2; grind
  · clear n1 n3 w1 w3 w4 q1 q2; grind
  · clear n1 n2 q1 q2; grind
  · clear n1 n2 n3 w1 w2 w3 w4; grind
  · clear n1 n2 n3 w1 w2 w3 w4; grind
  · exact z_half Z1 Z2 i1 i2
theorem sun_rade {t m : Int} (h : SLon t m) : RaDe (sraLo t) (sraHi t) (sdeLo t) (sdeHi t) (pX (zA (argU m)) (zA (argU 0))) (pY (zA (argU m)) (zA (argU 0))) (pZ (zA (argU m)) (zA (argU 0))) := by
  obtain ⟨f0, f1, -, f3, -, -, f6⟩ := sun_facts t
  obtain ⟨⟨D0, E, L, H, hv⟩, ho, -, -⟩ := c_Equator_all (l0 := sunLo t) (l1 := sunHi t) (b0 := 0) (b1 := 0) f6 (by omega) (by omega) (by decide) (by decide) (by decide) (sun_box h).off
  have hw : raHi (sunLo t) (sunHi t) 0 0 - raLo (sunLo t) (sunHi t) 0 0 ≤ 10000 := sun_ra hv h
  exact eq_rade (B := 0) (sun_pt h) hv ho (by omega) (by decide) (by decide) (by rw [sov_zero.1]; decide) (by rw [sov_zero.2]; decide)
theorem moon_rade {t m v : Int} (h : MLon t m) (h' : BLat t v) : RaDe (mraLo t) (mraHi t) (mdeLo t) (mdeHi t) (pX (zA (argU m)) (zA (argU v))) (pY (zA (argU m)) (zA (argU v))) (pZ (zA (argU m)) (zA (argU v))) := by
  obtain ⟨f0, f1, -, f3, -, -, f6⟩ := moon_facts t
  obtain ⟨o, n1, n2, n3⟩ := north_rng t
  obtain ⟨⟨D0, E, L, H, hv⟩, ho, -, -⟩ := c_Equator_all (l0 := moonLo t) (l1 := moonHi t) (b0 := northLo t) (b1 := northHi t) f6 (by omega) (by omega) o (by omega) (by omega) (moon_box h h').off
  have hw : raHi (moonLo t) (moonHi t) (northLo t) (northHi t) - raLo (moonLo t) (moonHi t) (northLo t) (northHi t) ≤ 200000 := width_int (arc_wide (moon_box h h') hv) (by decide +kernel)
  have ms := moon_sov t
  exact eq_rade (B := 100200000) (moon_pt h h') hv ho (by omega) (by decide) (by decide) ms.1 ms.2
end
section
open Ieee
theorem sid_ang (lon t : Int) : ∃ k : Int, (sidLo lon t : Rat) - 1/500 ≤ zA (refSid lon t) + (k : Rat) * 1000000000 ∧ zA (refSid lon t) + (k : Rat) * 1000000000 ≤ (sidHi lon t : Rat) + 1/500 := by
  obtain ⟨-, -, -, -, h, u0, u1, a0, a1⟩ := sid_ok lon t
  have hu : unitA (refSid lon t) * 1000000 ≤ refSid lon t * 1048576 ∧ refSid lon t * 1048576 < unitA (refSid lon t) * 1000000 + 1000000 := by unfold unitA; omega
  have h1 := icast hu.1
  have h2 := icast (show refSid lon t * 1048576 ≤ unitA (refSid lon t) * 1000000 + 1000000 by omega)
  clear hu
  generalize unitA (refSid lon t) = m at *
  generalize refSid lon t = a at *
  generalize sidLo lon t = lo at *
  generalize sidHi lon t = hi at *
  refine ⟨-((m - lo * 1048576 + 2000) / 1048576000000000), ?_⟩
  have e := Int.emod_add_mul_ediv (m - lo * 1048576 + 2000) 1048576000000000
  have r0 := Int.emod_nonneg (m - lo * 1048576 + 2000) (show (1048576000000000 : Int) ≠ 0 by decide)
  generalize (m - lo * 1048576 + 2000) / 1048576000000000 = q at *
  generalize (m - lo * 1048576 + 2000) % 1048576000000000 = r at *
  have k1 := icast (show lo * 1048576 - 2000 ≤ m - 1048576000000000 * q by omega)
  have k2 := icast (show m - 1048576000000000 * q ≤ hi * 1048576 + 2000 by omega)
  push_cast at k1 k2 h1 h2
  unfold zA
  push_cast
  constructor <;> grind
/-- What the reference's parts are worth against place.look's intervals, and their bounds. -/
structure LookOk (lon lat t a0 a1 d0 d1 x y z : Int) : Prop where
  x1 : -1160000000000000000 ≤ x ∧ x ≤ 1160000000000000000
  y1 : -1160000000000000000 ≤ y ∧ y ≤ 1160000000000000000
  z1 : -1160000000000000000 ≤ z ∧ z ≤ 1160000000000000000
  o : -1160000000000000000 ≤ abOut (refSid lon t) x y ∧ abOut (refSid lon t) x y ≤ 1160000000000000000
  bu : -1160000000000000000 ≤ abUp (refSid lon t) lat x y z ∧ abUp (refSid lon t) lat x y z ≤ 1160000000000000000
  bs : -1160000000000000000 ≤ abSide (refSid lon t) x y ∧ abSide (refSid lon t) x y ≤ 1160000000000000000
  bn : -1160000000000000000 ≤ abNo (refSid lon t) lat x y z ∧ abNo (refSid lon t) lat x y z ≤ 1160000000000000000
  iu : ∃ u : Rat, InU (up0 lat (lkH0 lon t a1) (lkH1 lon t a0) d0 d1) (up1 lat (lkH0 lon t a1) (lkH1 lon t a0) d0 d1) u (92/100) ∧ rabs ((abUp (refSid lon t) lat x y z : Rat) - uQ * u) ≤ 40000000 ∧ rabs u ≤ 1 + 1 / 1000000
  ie : ∃ u : Rat, InU (ea0 (lkH0 lon t a1) (lkH1 lon t a0) d0 d1) (ea1 (lkH0 lon t a1) (lkH1 lon t a0) d0 d1) u (92/100) ∧ rabs ((abSide (refSid lon t) x y : Rat) - uQ * u) ≤ 40000000 ∧ rabs u ≤ 1 + 1 / 1000000
  iN : ∃ u : Rat, InU (no0 lat (lkH0 lon t a1) (lkH1 lon t a0) d0 d1) (no1 lat (lkH0 lon t a1) (lkH1 lon t a0) d0 d1) u (92/100) ∧ rabs ((abNo (refSid lon t) lat x y z : Rat) - uQ * u) ≤ 40000000 ∧ rabs u ≤ 1 + 1 / 1000000
theorem look_all (lon lat t : Int) {a0 a1 d0 d1 x y z : Int} {X Y Z : Rat} (h : RaDe a0 a1 d0 d1 X Y Z) (hx : rabs ((x : Rat) - uQ * X) ≤ 10000000) (hy : rabs ((y : Rat) - uQ * Y) ≤ 10000000) (hz : rabs ((z : Rat) - uQ * Z) ≤ 10000000) : LookOk lon lat t a0 a1 d0 d1 x y z := by
  have n := rabs_le.1 h.n
  have sq : ∀ z : Rat, 0 ≤ z * z := fun z => by rw [← rabs_sq]; exact Rat.mul_nonneg (rabs_nonneg z) (rabs_nonneg z)
  have sx := sq X
  have sy := sq Y
  have sz := sq Z
  have bX : rabs X ≤ 1 + 1 / 1000000 := sq_rabs (by grind) (by grind)
  have bY : rabs Y ≤ 1 + 1 / 1000000 := sq_rabs (by grind) (by grind)
  have bZ : rabs Z ≤ 1 + 1 / 1000000 := sq_rabs (by grind) (by grind)
  have ok := sid_ok lon t
  obtain ⟨z0, z1⟩ := zA_bd ok.a0 ok.a1
  have ct := circT z0 z1
  have c1 : rabs (C (tq * zA (refSid lon t)) * C (tq * zA (refSid lon t)) + S (tq * zA (refSid lon t)) * S (tq * zA (refSid lon t)) - 1) ≤ 1 / 1000000000 := by
    rw [show C (tq * zA (refSid lon t)) * C (tq * zA (refSid lon t)) + S (tq * zA (refSid lon t)) * S (tq * zA (refSid lon t)) - 1 = S (tq * zA (refSid lon t)) * S (tq * zA (refSid lon t)) + C (tq * zA (refSid lon t)) * C (tq * zA (refSid lon t)) - 1 by grind]; grind
  have c2 : rabs (-S (tq * zA (refSid lon t)) * -S (tq * zA (refSid lon t)) + C (tq * zA (refSid lon t)) * C (tq * zA (refSid lon t)) - 1) ≤ 1 / 1000000000 := by
    rw [show -S (tq * zA (refSid lon t)) * -S (tq * zA (refSid lon t)) + C (tq * zA (refSid lon t)) * C (tq * zA (refSid lon t)) - 1 = S (tq * zA (refSid lon t)) * S (tq * zA (refSid lon t)) + C (tq * zA (refSid lon t)) * C (tq * zA (refSid lon t)) - 1 by grind]; grind
  have bO : rabs (vOut (zA (refSid lon t)) X Y) ≤ 1 + 1 / 1000000 := cauchy c1 (by grind) (by grind)
  have bS : rabs (vSide (zA (refSid lon t)) X Y) ≤ 1 + 1 / 1000000 := by
    have := cauchy (s := -S (tq * zA (refSid lon t))) (c := C (tq * zA (refSid lon t))) (a := X) (b := Y) (R := 1 + 1 / 1000000) c2 (by grind) (by grind)
    unfold vSide
    rw [show C (tq * zA (refSid lon t)) * Y - S (tq * zA (refSid lon t)) * X = -S (tq * zA (refSid lon t)) * X + C (tq * zA (refSid lon t)) * Y by grind]; exact this
  have vv : vOut (zA (refSid lon t)) X Y * vOut (zA (refSid lon t)) X Y + vSide (zA (refSid lon t)) X Y * vSide (zA (refSid lon t)) X Y ≤ (X * X + Y * Y) * (1 + 1 / 1000000000) := by
    have ct' := rabs_le.1 ct
    have m := Rat.mul_le_mul_of_nonneg_right (show S (tq * zA (refSid lon t)) * S (tq * zA (refSid lon t)) + C (tq * zA (refSid lon t)) * C (tq * zA (refSid lon t)) ≤ 1 + 1 / 1000000000 by grind) (show 0 ≤ X * X + Y * Y by grind)
    unfold vOut vSide
    grind
  have so := sq (vOut (zA (refSid lon t)) X Y)
  have ss := sq (vSide (zA (refSid lon t)) X Y)
  obtain ⟨cl, -, -⟩ := siU_circ lat
  have cl1 : rabs (siU lat * siU lat + coU lat * coU lat - 1) ≤ 1 / 1000000000 := by grind
  have cl2 : rabs (coU lat * coU lat + -siU lat * -siU lat - 1) ≤ 1 / 1000000000 := by rw [show coU lat * coU lat + -siU lat * -siU lat - 1 = siU lat * siU lat + coU lat * coU lat - 1 by grind]; exact cl1
  have bU : rabs (tUp lat Z (vOut (zA (refSid lon t)) X Y)) ≤ 1 + 1 / 1000000 := cauchy cl1 (by grind) (by grind)
  have bN : rabs (tNo lat Z (vOut (zA (refSid lon t)) X Y)) ≤ 1 + 1 / 1000000 := by
    have := cauchy (a := Z) (b := vOut (zA (refSid lon t)) X Y) (R := 1 + 1 / 1000000) cl2 (by grind) (by grind)
    unfold tNo
    rw [show coU lat * Z - siU lat * vOut (zA (refSid lon t)) X Y = coU lat * Z + -siU lat * vOut (zA (refSid lon t)) X Y by grind]; exact this
  have ab := ab_ok (lat := lat) ok.a0 ok.a1 hx hy hz bX bY bZ bO
  obtain ⟨za, zd, hd, ka, kd⟩ := dirA_of h
  obtain ⟨i1, i2, i3⟩ := look_near lat hd ok.o h.oa h.od z0 z1 (sid_ang lon t) ka kd
  have ao := ab.o
  have asd := ab.s
  have au := ab.u
  have an := ab.n
  exact ⟨(fine_bd (by grind) bX).2, (fine_bd (by grind) bY).2, (fine_bd (by grind) bZ).2, (fine_bd (by grind) bO).2, (fine_bd (by grind) bU).2, (fine_bd (by grind) bS).2, (fine_bd (by grind) bN).2, ⟨_, i1, au, bU⟩, ⟨_, i2, by grind, bS⟩, ⟨_, i3, an, bN⟩⟩
/-- A height decided against a limit is so for the reference. -/
theorem look_above {lon lat t a0 a1 d0 d1 x y z : Int} (h : LookOk lon lat t a0 a1 d0 d1 x y z) (n : Int) : (n < up0 lat (lkH0 lon t a1) (lkH1 lon t a0) d0 d1 → fu n < abUp (refSid lon t) lat x y z) ∧ (up1 lat (lkH0 lon t a1) (lkH1 lon t a0) d0 d1 < n → abUp (refSid lon t) lat x y z < fu n) := by
  obtain ⟨u, ⟨i1, i2⟩, au, -⟩ := h.iu
  have hf := rabs_le.1 (fu_near n)
  have au := rabs_le.1 au
  have hu : uQ = 1152921504606846976 := by decide +kernel
  rw [hu] at hf au
  have r' : ∀ {p q : Int}, (p : Rat) < (q : Rat) → p < q := fun h => by exact_mod_cast h
  constructor
  · intro hn
    have := icast (show n + 1 ≤ up0 lat (lkH0 lon t a1) (lkH1 lon t a0) d0 d1 by omega)
    push_cast at this
    refine r' ?_
    grind
  · intro hn
    have := icast (show up1 lat (lkH0 lon t a1) (lkH1 lon t a0) d0 d1 + 1 ≤ n by omega)
    push_cast at this
    refine r' ?_
    grind
theorem sun_look (lon lat : Int) {t m : Int} (h : SLon t m) : LookOk lon lat t (sraLo t) (sraHi t) (sdeLo t) (sdeHi t) (dirX m 0) (dirY m 0) (dirZ m 0) :=
  look_all lon lat t (sun_rade h) (dir_ok m 0).x (dir_ok m 0).y (dir_ok m 0).z
theorem moon_look (lon lat : Int) {t m v : Int} (h : MLon t m) (h' : BLat t v) : LookOk lon lat t (mraLo t) (mraHi t) (mdeLo t) (mdeHi t) (dirX m v) (dirY m v) (dirZ m v) :=
  look_all lon lat t (moon_rade h h') (dir_ok m v).x (dir_ok m v).y (dir_ok m v).z
end
end Go.Proofs.YtcgnhnmigmdalaaGreatDoor
