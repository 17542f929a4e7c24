/- A direction whose coordinates lie in intervals has angles in them; the reference's parts of a direction. No program in sight. -/
import Derived.Test.YtcgnhnmigmdalaaDoorHdA
import Derived.Test.YtcgnhnmigmdalaaDoorEqB
import Derived.Test.YtcgnhnmigmdalaaDoorWalkAbv
set_option linter.unusedVariables false
set_option linter.unusedSimpArgs false
namespace Go.Proofs.YtcgnhnmigmdalaaDoor
open Ieee
/-- What the intervals of right ascension and declination tell of a direction. -/
structure RaDe (a0 a1 d0 d1 : Int) (X Y Z : Rat) : Prop where
  oa : a0 ≤ a1
  wa : a1 - a0 ≤ 1000000
  od : d0 ≤ d1
  b0 : -250000000 ≤ d0
  b1 : d1 ≤ 250000000
  g0 : -(51 / 100000000000) ≤ coU a0 * Y - siU a0 * X
  g1 : -(51 / 100000000000) ≤ siU a1 * X - coU a1 * Y
  g2 : -(1 / 1000000000) ≤ (coU a0 + coU a1) * X + (siU a0 + siU a1) * Y
  e0 : siU d0 ≤ Z + 23 / 100000000000
  e1 : Z ≤ siU d1 + 23 / 100000000000
  n : rabs (X * X + Y * Y + Z * Z - 1) ≤ 5 / 100000000000
  zb : rabs Z ≤ 1/2
theorem len_alg {c ρ E : Rat} (hE : rabs (c * c - ρ * ρ) ≤ 32 / 100000000000) (h1 : 86/100 ≤ ρ) (h2 : -(1 / 1000000000) ≤ c) : rabs (ρ - c) ≤ 19 / 100000000000 := by
  have hE := rabs_le.1 hE
  have e : (c - ρ) * (c + ρ) = c * c - ρ * ρ := by grind
  have c1 : 85/100 ≤ c := by
    by_cases q : c < 85/100
    · exfalso
      have p := Rat.mul_nonneg (show 0 ≤ ρ - c - 1/100 by grind) (show 0 ≤ c + ρ by grind)
      grind
    · grind
  have s : 171/100 ≤ c + ρ := by grind
  by_cases q : 0 ≤ c - ρ
  · have p := Rat.mul_le_mul_of_nonneg_left s q
    rw [rabs_le]; constructor <;> grind
  · have p := Rat.mul_le_mul_of_nonneg_left s (show 0 ≤ ρ - c by grind)
    rw [rabs_le]; constructor <;> grind
theorem dirA_of {a0 a1 d0 d1 : Int} {X Y Z : Rat} (h : RaDe a0 a1 d0 d1 X Y Z) : ∃ z zd, DirA X Y Z z zd ∧ (∃ k : Int, (a0 : Rat) ≤ z + (k : Rat) * 1000000000 ∧ z + (k : Rat) * 1000000000 ≤ (a1 : Rat)) ∧ (∃ k : Int, (d0 : Rat) ≤ zd + (k : Rat) * 1000000000 ∧ zd + (k : Rat) * 1000000000 ≤ (d1 : Rat)) := by
  obtain ⟨oa, wa, od, b0, b1, g0, g1, g2, e0, e1, n, zb⟩ := h
  have n' := rabs_le.1 n
  have sq : ∀ z : Rat, 0 ≤ z * z := fun z => by rw [← rabs_sq]; exact Rat.mul_nonneg (rabs_nonneg z) (rabs_nonneg z)
  have sx := sq X
  have sy := sq Y
  have sz := sq Z
  have bX : rabs X ≤ 101/100 := sq_rabs (by grind) (by grind)
  have bY : rabs Y ≤ 101/100 := sq_rabs (by grind) (by grind)
  obtain ⟨z, hz⟩ := head_ex (β := 51 / 100000000000) oa wa (by grind) g0 g1 bX bY
  obtain ⟨zd, hzd⟩ := dec_ex (β := 23 / 100000000000) b0 b1 od (by grind) e0 e1
  refine ⟨z, zd, ⟨hz.z0, hz.z1, hzd.z0, hzd.z1, ⟨C (tq * z) * X + S (tq * z) * Y, C (tq * z) * Y - S (tq * z) * X, ?_, ?_, ?_, ?_⟩, ?_⟩, hz.k, hzd.k⟩
  · have c := circT hz.z0 hz.z1
    have m := rabs_le.1 (mul_rabs c bX)
    have e : X - ((C (tq * z) * X + S (tq * z) * Y) * C (tq * z) - (C (tq * z) * Y - S (tq * z) * X) * S (tq * z)) = -((S (tq * z) * S (tq * z) + C (tq * z) * C (tq * z) - 1) * X) := by grind
    rw [e, rabs_le]; constructor <;> grind
  · have c := circT hz.z0 hz.z1
    have m := rabs_le.1 (mul_rabs c bY)
    have e : Y - ((C (tq * z) * X + S (tq * z) * Y) * S (tq * z) + (C (tq * z) * Y - S (tq * z) * X) * C (tq * z)) = -((S (tq * z) * S (tq * z) + C (tq * z) * C (tq * z) - 1) * Y) := by grind
    rw [e, rabs_le]; constructor <;> grind
  · have := hz.g; grind
  · have c := rabs_le.1 (circT hz.z0 hz.z1)
    have cd := rabs_le.1 (circT hzd.z0 hzd.z1)
    have q1 := hzd.g
    have q2 := hzd.c
    have k1 := rabs_le.1 hz.s
    have k2 := rabs_le.1 hz.c
    have l := co_lip oa wa
    have l1 := rabs_le.1 l.1
    have l2 := rabs_le.1 l.2
    have gg := sq_bd hz.g
    have zb' := rabs_le.1 zb
    have q1' := rabs_le.1 q1
    have m := rabs_le.1 (mul_rabs q1 (show rabs (S (tq * zd) + Z) ≤ 101/100 from rabs_le.2 ⟨by grind, by grind⟩))
    have zz := sq_bd zb
    -- the length is positive
    have d1 := rabs_le.1 (mul_rabs (show rabs (2 * C (tq * z) - (coU a0 + coU a1)) ≤ 2/100 from rabs_le.2 ⟨by grind, by grind⟩) bX)
    have d2 := rabs_le.1 (mul_rabs (show rabs (2 * S (tq * z) - (siU a0 + siU a1)) ≤ 2/100 from rabs_le.2 ⟨by grind, by grind⟩) bY)
    clear k1 k2 l l1 l2 q1
    generalize S (tq * zd) = sd at *
    generalize C (tq * zd) = cd at *
    have pos : -(3/100) ≤ C (tq * z) * X + S (tq * z) * Y := by grind
    have e : (C (tq * z) * X + S (tq * z) * Y) * (C (tq * z) * X + S (tq * z) * Y) + (C (tq * z) * Y - S (tq * z) * X) * (C (tq * z) * Y - S (tq * z) * X) = (S (tq * z) * S (tq * z) + C (tq * z) * C (tq * z)) * (X * X + Y * Y) := by grind
    have xy : X * X + Y * Y ≤ 11/10 := by grind
    have f1 := Rat.mul_le_mul_of_nonneg_right (show S (tq * z) * S (tq * z) + C (tq * z) * C (tq * z) ≤ 1 + 1 / 100000000000 by grind) (show 0 ≤ X * X + Y * Y by grind)
    have f2 := Rat.mul_le_mul_of_nonneg_right (show 1 - 1 / 100000000000 ≤ S (tq * z) * S (tq * z) + C (tq * z) * C (tq * z) by grind) (show 0 ≤ X * X + Y * Y by grind)
    rw [← e] at f1 f2
    have g0' := sq (C (tq * z) * Y - S (tq * z) * X)
    clear e d1 d2 g0 g1 g2
    generalize C (tq * z) * X + S (tq * z) * Y = ρ at *
    generalize (C (tq * z) * Y - S (tq * z) * X) * (C (tq * z) * Y - S (tq * z) * X) = G at *
    have r1 : 86/100 ≤ ρ := by
      by_cases q : ρ < 86/100
      · exfalso
        have p := Rat.mul_nonneg (show 0 ≤ ρ + 3/100 by grind) (show 0 ≤ 86/100 - ρ by grind)
        grind
      · grind
    refine len_alg (E := 0) ?_ r1 (by grind)
    rw [rabs_le]
    constructor <;> grind
  · have := hzd.g
    have e : Z - S (tq * zd) = -(S (tq * zd) - Z) := by grind
    rw [e, rabs_neg]; grind
theorem fm_two8 {s u : Int} {σ υ a b : Rat} (hs : rabs ((s : Rat) - uQ * σ) ≤ a) (hu : rabs ((u : Rat) - uQ * υ) ≤ b) (ha : a ≤ 1000000000) (hb : b ≤ 1000000000) (bσ : rabs σ ≤ 1 + 1 / 1000000) (bυ : rabs υ ≤ 1 + 1 / 1000000) : rabs ((fm s u : Rat) - uQ * (σ * υ)) ≤ 102/100 * (a + b) + 2 := by
  obtain ⟨f1, f2⟩ := fm_near s u
  have u0 : (0 : Rat) < uQ := by decide +kernel
  have a0 : 0 ≤ a := by have := rabs_nonneg ((s : Rat) - uQ * σ); grind
  have b0 : 0 ≤ b := by have := rabs_nonneg ((u : Rat) - uQ * υ); grind
  have m1 := rabs_le.1 (mul_rabs bσ hu)
  have hu' : rabs (u : Rat) ≤ uQ * (101/100) := by
    have k := rabs_le.1 hu
    have l := rabs_le.1 (mul_rabs (a := uQ) (A := uQ) (by rw [rabs_pos (by decide +kernel)]; exact Rat.le_refl) bυ)
    have hU : 1000000000000000000 ≤ uQ := by decide +kernel
    exact rabs_le.2 ⟨by grind, by grind⟩
  have m2 := rabs_le.1 (mul_rabs hs hu')
  have e : (s : Rat) * u = uQ * (uQ * (σ * υ)) + uQ * (σ * ((u : Rat) - uQ * υ)) + ((s : Rat) - uQ * σ) * u := by grind
  rw [e] at f1 f2
  generalize ((s : Rat) - uQ * σ) * u = d at *
  generalize σ * ((u : Rat) - uQ * υ) = g at *
  generalize σ * υ = z at *
  generalize (fm s u : Rat) = F at *
  have n1 := Rat.mul_le_mul_of_nonneg_left m1.1 (show 0 ≤ uQ by grind)
  have n2 := Rat.mul_le_mul_of_nonneg_left m1.2 (show 0 ≤ uQ by grind)
  have ua := Rat.mul_nonneg (show 0 ≤ uQ by grind) a0
  have ub := Rat.mul_nonneg (show 0 ≤ uQ by grind) b0
  have k1 : (F - uQ * z) * uQ ≤ (102/100 * (a + b) + 2) * uQ := by grind
  have k2 : -(102/100 * (a + b) + 2) * uQ ≤ (F - uQ * z) * uQ := by grind
  exact rabs_le.2 ⟨Rat.le_of_mul_le_mul_right k1 u0, Rat.le_of_mul_le_mul_right k2 u0⟩
theorem lat_sc (lat : Int) : rabs (((sc (latA lat)).1 : Rat) - uQ * siU lat) ≤ 180000 ∧ rabs (((sc (latA lat)).2 : Rat) - uQ * coU lat) ≤ 600000 := by
  obtain ⟨b0, b1⟩ := emod_bd lat
  have e : latA lat = lat % 1000000000 * 1000000 := by unfold latA; omega
  obtain ⟨h1, h2⟩ := sc_ang b0 b1
  have hs := siU_b lat
  have hc := coU_b lat
  rw [e]
  rw [angU_tq] at h1 h2
  rw [hs]
  refine ⟨h1, ?_⟩
  have hu : uQ = 1152921504606846976 := by decide +kernel
  have h2 := rabs_le.1 h2
  have hc := rabs_le.1 hc
  rw [hu] at h2 ⊢
  rw [rabs_le]; constructor <;> grind
/-- The reference's parts are near the true ones. -/
structure AbOk (θ lat x y z : Int) (X Y Z : Rat) : Prop where
  o : rabs ((abOut θ x y : Rat) - uQ * vOut (zA θ) X Y) ≤ 21000000
  s : rabs ((abSide θ x y : Rat) - uQ * vSide (zA θ) X Y) ≤ 21000000
  u : rabs ((abUp θ lat x y z : Rat) - uQ * tUp lat Z (vOut (zA θ) X Y)) ≤ 40000000
  n : rabs ((abNo θ lat x y z : Rat) - uQ * tNo lat Z (vOut (zA θ) X Y)) ≤ 40000000
theorem ab_ok {θ lat x y z : Int} {X Y Z : Rat} (t0 : 0 ≤ θ) (t1 : θ < 1000000000000000) (hx : rabs ((x : Rat) - uQ * X) ≤ 10000000) (hy : rabs ((y : Rat) - uQ * Y) ≤ 10000000) (hz : rabs ((z : Rat) - uQ * Z) ≤ 10000000)
    (bX : rabs X ≤ 1 + 1 / 1000000) (bY : rabs Y ≤ 1 + 1 / 1000000) (bZ : rabs Z ≤ 1 + 1 / 1000000) (bO : rabs (vOut (zA θ) X Y) ≤ 1 + 1 / 1000000) : AbOk θ lat x y z X Y Z := by
  obtain ⟨st, ct⟩ := sc_zA t0 t1
  obtain ⟨z0, z1⟩ := zA_bd t0 t1
  have bt := sc_one z0 z1
  have bt1 : rabs (S (tq * zA θ)) ≤ 1 + 1 / 1000000 := by have := bt.1; grind
  have bt2 : rabs (C (tq * zA θ)) ≤ 1 + 1 / 1000000 := by have := bt.2; grind
  obtain ⟨sp, cp⟩ := lat_sc lat
  obtain ⟨-, bl1, bl2⟩ := siU_circ lat
  have bl1' : rabs (siU lat) ≤ 1 + 1 / 1000000 := by grind
  have bl2' : rabs (coU lat) ≤ 1 + 1 / 1000000 := by grind
  have p1 := rabs_le.1 (fm_two8 ct hx (by grind) (by grind) bt2 bX)
  have p2 := rabs_le.1 (fm_two8 st hy (by grind) (by grind) bt1 bY)
  have p3 := rabs_le.1 (fm_two8 ct hy (by grind) (by grind) bt2 bY)
  have p4 := rabs_le.1 (fm_two8 st hx (by grind) (by grind) bt1 bX)
  have O : rabs ((abOut θ x y : Rat) - uQ * vOut (zA θ) X Y) ≤ 21000000 := by
    unfold abOut vOut
    rw [rabs_le]; push_cast
    constructor <;> grind
  have s1 := rabs_le.1 (fm_two8 sp hz (by grind) (by grind) bl1' bZ)
  have s2 := rabs_le.1 (fm_two8 cp O (by grind) (by grind) bl2' bO)
  have s3 := rabs_le.1 (fm_two8 cp hz (by grind) (by grind) bl2' bZ)
  have s4 := rabs_le.1 (fm_two8 sp O (by grind) (by grind) bl1' bO)
  refine ⟨O, ?_, ?_, ?_⟩
  · unfold abSide vSide
    rw [rabs_le]; push_cast
    constructor <;> grind
  · unfold abUp tUp
    rw [rabs_le]; push_cast
    constructor <;> grind
  · unfold abNo tNo
    rw [rabs_le]; push_cast
    constructor <;> grind
end Go.Proofs.YtcgnhnmigmdalaaDoor
