/- The reference's direction of a longitude and a latitude is near the true one. No program in sight. -/
import Derived.Test.YtaaiamcpdicnhaaDoorPlainEqu2
set_option linter.unusedVariables false
set_option linter.unusedSimpArgs false
namespace Go.Proofs.YtaaiamcpdicnhaaDoor
open Ieee
/-- The argument of an angle in the unit 1 / 2^20. -/
def argU (v : Int) : Int := v % 1048576000000000 / 1048576 * 1000000 + v % 1048576000000000 % 1048576 * 1000000 / 1048576
theorem argU_bd (v : Int) : 0 ≤ argU v ∧ argU v < 1000000000000000 := by unfold argU; omega
def tiltA : Int := 65109000000000
def dirX (lon lat : Int) : Int := fm (sc (argU lat)).2 (sc (argU lon)).2
def dirY (lon lat : Int) : Int := fm (fm (sc (argU lat)).2 (sc (argU lon)).1) (sc tiltA).2 - fm (sc (argU lat)).1 (sc tiltA).1
def dirZ (lon lat : Int) : Int := fm (fm (sc (argU lat)).2 (sc (argU lon)).1) (sc tiltA).1 + fm (sc (argU lat)).1 (sc tiltA).2
/-- The angle of an argument in billionths of a turn. -/
def zA (a : Int) : Rat := (a : Rat) / 1000000
theorem zA_bd {a : Int} (h0 : 0 ≤ a) (h1 : a < 1000000000000000) : 0 ≤ zA a ∧ zA a ≤ 1000000000 := by
  have g0 := icast h0
  have g1 := icast (show a ≤ 1000000000000000 by omega)
  have c0 : ((0 : Int) : Rat) = 0 := rfl
  have c1 : ((1000000000000000 : Int) : Rat) = 1000000000000000 := rfl
  rw [c0] at g0
  rw [c1] at g1
  unfold zA
  constructor <;> grind
theorem sc_zA {a : Int} (h0 : 0 ≤ a) (h1 : a < 1000000000000000) : rabs (((sc a).1 : Rat) - uQ * S (tq * zA a)) ≤ 180000 ∧ rabs (((sc a).2 : Rat) - uQ * C (tq * zA a)) ≤ 180000 := by
  have h := sc_near3 h0 (show a ≤ 1000000000000000 by omega)
  have e : ang a = tq * zA a := by unfold ang zA tq; grind
  rw [e] at h
  obtain ⟨⟨h1, h2⟩, ⟨h3, h4⟩⟩ := h
  exact ⟨rabs_le.2 ⟨by grind, by grind⟩, rabs_le.2 ⟨by grind, by grind⟩⟩
theorem fm_two {s u : Int} {σ υ a b : Rat} (hs : rabs ((s : Rat) - uQ * σ) ≤ a) (hu : rabs ((u : Rat) - uQ * υ) ≤ b) (ha : a ≤ 10000000) (hb : b ≤ 10000000) (bσ : rabs σ ≤ 1 + 1 / 1000000) (bυ : rabs υ ≤ 1 + 1 / 1000000) : rabs ((fm s u : Rat) - uQ * (σ * υ)) ≤ 102/100 * (a + b) + 2 := by
  obtain ⟨f1, f2⟩ := fm_near s u
  have u0 : (0 : Rat) < uQ := by decide +kernel
  have a0 : 0 ≤ a := by have := rabs_nonneg ((s : Rat) - uQ * σ); grind
  have b0 : 0 ≤ b := by have := rabs_nonneg ((u : Rat) - uQ * υ); grind
  have m1 := rabs_le.1 (mul_rabs bσ hu)
  have hu' : rabs (u : Rat) ≤ uQ * (101/100) := by
    have k := rabs_le.1 hu
    have l := rabs_le.1 (mul_rabs (a := uQ) (A := uQ) (by rw [rabs_pos (by decide +kernel)]; exact Rat.le_refl) bυ)
    have hU : 1000000000000000000 ≤ uQ := by decide +kernel
    exact rabs_le.2 ⟨by grind, by grind⟩
  have m2 := rabs_le.1 (mul_rabs hs hu')
  have e : (s : Rat) * u = uQ * (uQ * (σ * υ)) + uQ * (σ * ((u : Rat) - uQ * υ)) + ((s : Rat) - uQ * σ) * u := by grind
  rw [e] at f1 f2
  generalize ((s : Rat) - uQ * σ) * u = d at *
  generalize σ * ((u : Rat) - uQ * υ) = g at *
  generalize σ * υ = z at *
  generalize (fm s u : Rat) = F at *
  have n1 := Rat.mul_le_mul_of_nonneg_left m1.1 (show 0 ≤ uQ by grind)
  have n2 := Rat.mul_le_mul_of_nonneg_left m1.2 (show 0 ≤ uQ by grind)
  have ua := Rat.mul_nonneg (show 0 ≤ uQ by grind) a0
  have ub := Rat.mul_nonneg (show 0 ≤ uQ by grind) b0
  have k1 : (F - uQ * z) * uQ ≤ (102/100 * (a + b) + 2) * uQ := by grind
  have k2 : -(102/100 * (a + b) + 2) * uQ ≤ (F - uQ * z) * uQ := by grind
  exact rabs_le.2 ⟨Rat.le_of_mul_le_mul_right k1 u0, Rat.le_of_mul_le_mul_right k2 u0⟩
/-- A number near a fraction of at most about 1 fits. -/
theorem fine_bd {n : Int} {x : Rat} (h : rabs ((n : Rat) - uQ * x) ≤ 100000000) (bx : rabs x ≤ 1 + 1 / 1000000) : rabs (n : Rat) ≤ 1160000000000000000 ∧ -1160000000000000000 ≤ n ∧ n ≤ 1160000000000000000 := by
  have h := rabs_le.1 h
  have l := rabs_le.1 (mul_rabs (a := uQ) (A := uQ) (by rw [rabs_pos (by decide +kernel)]; exact Rat.le_refl) bx)
  have hU : uQ = 1152921504606846976 := rfl
  rw [hU] at h l
  have r1 : (n : Rat) ≤ 1160000000000000000 := by grind
  have r2 : -1160000000000000000 ≤ (n : Rat) := by grind
  have c1 : ((1160000000000000000 : Int) : Rat) = 1160000000000000000 := rfl
  have c2 : ((-1160000000000000000 : Int) : Rat) = -1160000000000000000 := rfl
  refine ⟨rabs_le.2 ⟨r1, r2⟩, ?_, ?_⟩
  · rw [← c2] at r2; exact Rat.intCast_le_intCast.1 r2
  · rw [← c1] at r1; exact Rat.intCast_le_intCast.1 r1
/-- What the reference's direction is worth. -/
structure DirOk (lon lat : Int) : Prop where
  x : rabs ((dirX lon lat : Rat) - uQ * pX (zA (argU lon)) (zA (argU lat))) ≤ 10000000
  y : rabs ((dirY lon lat : Rat) - uQ * pY (zA (argU lon)) (zA (argU lat))) ≤ 10000000
  z : rabs ((dirZ lon lat : Rat) - uQ * pZ (zA (argU lon)) (zA (argU lat))) ≤ 10000000
theorem dir_ok (lon lat : Int) : DirOk lon lat := by
  obtain ⟨l0, l1⟩ := argU_bd lon
  obtain ⟨b0, b1⟩ := argU_bd lat
  obtain ⟨sl, cl⟩ := sc_zA l0 l1
  obtain ⟨sb, cb⟩ := sc_zA b0 b1
  have t := sc_zA (a := tiltA) (by decide) (by decide)
  have et : zA tiltA = 65109000 := by decide +kernel
  rw [et] at t
  have ts : rabs (((sc tiltA).1 : Rat) - uQ * se9) ≤ 180000 := t.1
  have tc : rabs (((sc tiltA).2 : Rat) - uQ * ce9) ≤ 180000 := t.2
  obtain ⟨zl0, zl1⟩ := zA_bd l0 l1
  obtain ⟨zb0, zb1⟩ := zA_bd b0 b1
  have nl := sc_one zl0 zl1
  have nb := sc_one zb0 zb1
  obtain ⟨q1, q2, q3, q4⟩ := tilt_num
  have ne : rabs se9 ≤ 1 + 1 / 1000000 := rabs_le.2 ⟨by grind, by grind⟩
  have nc : rabs ce9 ≤ 1 + 1 / 1000000 := rabs_le.2 ⟨by grind, by grind⟩
  have w1 : rabs (S (tq * zA (argU lon))) ≤ 1 + 1 / 1000000 := by have := nl.1; grind
  have w2 : rabs (C (tq * zA (argU lon))) ≤ 1 + 1 / 1000000 := by have := nl.2; grind
  have w3 : rabs (S (tq * zA (argU lat))) ≤ 1 + 1 / 1000000 := by have := nb.1; grind
  have w4 : rabs (C (tq * zA (argU lat))) ≤ 1 + 1 / 1000000 := by have := nb.2; grind
  have w5 : rabs (C (tq * zA (argU lat)) * S (tq * zA (argU lon))) ≤ 1 + 1 / 1000000 := by have := mul_rabs nb.2 nl.1; grind
  have X := fm_two cb cl (by grind) (by grind) w4 w2
  have A := fm_two cb sl (by grind) (by grind) w4 w1
  have P := fm_two A tc (by grind) (by grind) w5 nc
  have R := fm_two A ts (by grind) (by grind) w5 ne
  have Q := fm_two sb ts (by grind) (by grind) w3 ne
  have U := fm_two sb tc (by grind) (by grind) w3 nc
  have P := rabs_le.1 P
  have R := rabs_le.1 R
  have Q := rabs_le.1 Q
  have U := rabs_le.1 U
  refine ⟨?_, ?_, ?_⟩
  · unfold dirX pX; grind
  · unfold dirY pY
    rw [rabs_le]; push_cast
    constructor <;> grind
  · unfold dirZ pZ
    rw [rabs_le]; push_cast
    constructor <;> grind
end Go.Proofs.YtaaiamcpdicnhaaDoor
