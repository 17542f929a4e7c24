/- A point of a circle lies between the bounds of an interval that holds its angle. No program in sight. -/
import Derived.Test.YtcgnhnmigmdalaaDoorEqB
set_option linter.unusedVariables false
set_option linter.unusedSimpArgs false
namespace Go.Proofs.YtcgnhnmigmdalaaDoor
open Ieee
/-- The sine and the cosine a little further, up to whole turns. -/
theorem sc_further {a z δ : Rat} {k : Int} (a0 : 0 ≤ a) (a1 : a ≤ 1000000000) (z0 : 0 ≤ z) (z1 : z ≤ 1000000000) (h : z + (k : Rat) * 1000000000 = a + δ) (d0 : -(1/100) ≤ δ) (d1 : δ ≤ 400000000) :
    rabs (S (tq * z) - (S (tq * a) * C (tq * δ) + C (tq * a) * S (tq * δ))) ≤ 2 / 1000000000000 ∧ rabs (C (tq * z) - (C (tq * a) * C (tq * δ) - S (tq * a) * S (tq * δ))) ≤ 2 / 1000000000000 := by
  have hp := pi_num
  obtain ⟨t1, t2, -⟩ := tq_num
  have lim : tq * 400000000 ≤ 2514/1000 := by decide +kernel
  have limn : -(1/100000) ≤ tq * -(1/100) := by decide +kernel
  have A0 := tq_le a0
  have A1 := tq_le a1
  have Z0 := tq_le z0
  have Z1 := tq_le z1
  have D0 := tq_le d0
  have D1 := tq_le d1
  rw [tq_turn] at A1 Z1
  have hA : rabs (tq * a) ≤ 32/5 := rabs_le.2 ⟨by grind, by grind⟩
  have hD : rabs (tq * δ) ≤ 16/5 := rabs_le.2 ⟨by grind, by grind⟩
  have s := sin_add hA hD
  have c := cos_add hA hD
  have e : tq * a + tq * δ = tq * z + (k : Rat) * (2 * piQ) := by rw [← tq_turn]; grind
  rw [e] at s c
  have hk : k = 0 ∨ k = 1 ∨ k = -1 := by
    have c2 : ((2 : Int) : Rat) = 2 := rfl
    have cm : ((-2 : Int) : Rat) = -2 := rfl
    have a1 : k < 2 := by
      by_cases q : k < 2
      · exact q
      · exfalso
        have := icast (show 2 ≤ k by omega)
        rw [c2] at this; grind
    have a2 : -2 < k := by
      by_cases q : -2 < k
      · exact q
      · exfalso
        have := icast (show k ≤ -2 by omega)
        rw [cm] at this; grind
    omega
  rcases hk with rfl | rfl | rfl
  · have c0 : ((0 : Int) : Rat) = 0 := rfl
    rw [c0, show tq * z + 0 * (2 * piQ) = tq * z by grind] at s c
    exact ⟨by grind, by grind⟩
  · have c1 : ((1 : Int) : Rat) = 1 := rfl
    rw [c1] at s c h
    rw [show tq * z + 1 * (2 * piQ) = tq * z + 2 * piQ by grind] at s c
    have zs := tq_le (show z ≤ 400000000 by grind)
    obtain ⟨k1, k2⟩ := sin_turn (x := tq * z) (rabs_le.2 ⟨by grind, by grind⟩)
    have s := rabs_le.1 s
    have c := rabs_le.1 c
    have k1 := rabs_le.1 k1
    have k2 := rabs_le.1 k2
    clear hA hD e
    constructor <;> rw [rabs_le] <;> constructor <;> grind
  · have c1 : ((-1 : Int) : Rat) = -1 := rfl
    rw [c1] at s c h
    rw [show tq * z + -1 * (2 * piQ) = tq * z - 2 * piQ by grind] at s c
    have zs := tq_le (show 999999999 ≤ z by grind)
    have lim2 : tq * 999999999 ≥ 62/10 := by decide +kernel
    obtain ⟨k1, k2⟩ := sin_turn (x := tq * z - 2 * piQ) (rabs_le.2 ⟨by grind, by grind⟩)
    rw [show tq * z - 2 * piQ + 2 * piQ = tq * z by grind] at k1 k2
    have s := rabs_le.1 s
    have c := rabs_le.1 c
    have k1 := rabs_le.1 k1
    have k2 := rabs_le.1 k2
    clear hA hD e
    constructor <;> rw [rabs_le] <;> constructor <;> grind
/-- Two directions of length 1, one a little behind the other: the parts across and along. -/
theorem across {sa ca sz cz s c : Rat} (h1 : rabs (sz - (sa * c + ca * s)) ≤ 2 / 1000000000000) (h2 : rabs (cz - (ca * c - sa * s)) ≤ 2 / 1000000000000) (ha : rabs (sa * sa + ca * ca - 1) ≤ 1 / 100000000000) (b1 : rabs sa ≤ 101/100) (b2 : rabs ca ≤ 101/100) (b3 : rabs s ≤ 101/100) (b4 : rabs c ≤ 101/100) :
    rabs (ca * sz - sa * cz - s) ≤ 2 / 100000000000 ∧ rabs (ca * cz + sa * sz - c) ≤ 2 / 100000000000 := by
  have m1 := rabs_le.1 (mul_rabs b2 h1)
  have m2 := rabs_le.1 (mul_rabs b1 h2)
  have m3 := rabs_le.1 (mul_rabs b2 h2)
  have m4 := rabs_le.1 (mul_rabs b1 h1)
  have m5 := rabs_le.1 (mul_rabs ha b3)
  have m6 := rabs_le.1 (mul_rabs ha b4)
  constructor
  · have e : ca * sz - sa * cz - s = ca * (sz - (sa * c + ca * s)) - sa * (cz - (ca * c - sa * s)) + (sa * sa + ca * ca - 1) * s := by grind
    rw [e, rabs_le]
    clear e h1 h2 ha b1 b2 b3 b4 m3 m4 m6
    generalize ca * (sz - (sa * c + ca * s)) = p at *
    generalize sa * (cz - (ca * c - sa * s)) = q at *
    generalize (sa * sa + ca * ca - 1) * s = r at *
    constructor <;> grind
  · have e : ca * cz + sa * sz - c = ca * (cz - (ca * c - sa * s)) + sa * (sz - (sa * c + ca * s)) + (sa * sa + ca * ca - 1) * c := by grind
    rw [e, rabs_le]
    clear e h1 h2 ha b1 b2 b3 b4 m1 m2 m5
    generalize ca * (cz - (ca * c - sa * s)) = p at *
    generalize sa * (sz - (sa * c + ca * s)) = q at *
    generalize (sa * sa + ca * ca - 1) * c = r at *
    constructor <;> grind
theorem near_point {lo hi k : Int} {z r : Rat} (l0 : 0 ≤ lo) (l1 : lo < 1000000000) (hh : lo ≤ hi) (hw : hi - lo ≤ 100000000) (z0 : 0 ≤ z) (z1 : z ≤ 1000000000) (h1 : (lo : Rat) - 1/500 ≤ z + (k : Rat) * 1000000000) (h2 : z + (k : Rat) * 1000000000 ≤ (hi : Rat) + 1/500) (r0 : 0 ≤ r) (r1 : r ≤ 1100000000) :
    Near lo (hi % 1000000000) (r * C (tq * z)) (r * S (tq * z)) := by
  have hp := pi_num
  obtain ⟨t1, t2, -⟩ := tq_num
  obtain ⟨e0, e1⟩ := emod_bd hi
  have es := turn_split hi
  have L0 := icast l0
  have L1 := icast (show lo ≤ 1000000000 by omega)
  have E0 := icast e0
  have E1 := icast (show hi % 1000000000 ≤ 1000000000 by omega)
  have W := icast hw
  have c0 : ((0 : Int) : Rat) = 0 := rfl
  have c1 : ((1000000000 : Int) : Rat) = 1000000000 := rfl
  have c2 : ((100000000 : Int) : Rat) = 100000000 := rfl
  rw [c0] at L0 E0
  rw [c1] at L1 E1
  rw [c2] at W
  push_cast at W
  generalize hi % 1000000000 = h at *
  generalize hi / 1000000000 = q at *
  obtain ⟨δ, hδ⟩ : ∃ δ, z + (k : Rat) * 1000000000 - (lo : Rat) = δ := ⟨_, rfl⟩
  obtain ⟨ε, hε⟩ : ∃ ε, (hi : Rat) - (z + (k : Rat) * 1000000000) = ε := ⟨_, rfl⟩
  obtain ⟨p1, p2⟩ := sc_further (a := (lo : Rat)) (z := z) (δ := δ) (k := k) L0 L1 z0 z1 (by grind) (by grind) (by grind)
  obtain ⟨p3, p4⟩ := sc_further (a := z) (z := (h : Rat)) (δ := ε) (k := q - k) z0 z1 E0 E1 (by push_cast; grind) (by grind) (by grind)
  have lim : tq * (100000000 + 1/100) ≤ 63/100 := by decide +kernel
  have limn : -(13 / 1000000000000) ≤ tq * -(1/500) := by decide +kernel
  have D0 := tq_le (show -(1/500) ≤ δ by grind)
  have D1 := tq_le (show δ ≤ 100000000 + 1/100 by grind)
  have F0 := tq_le (show -(1/500) ≤ ε by grind)
  have F1 := tq_le (show ε ≤ 100000000 + 1/100 by grind)
  have ba := sc_one L0 L1
  have bz := sc_one z0 z1
  have bd := SC_bd (y := tq * δ) (rabs_le.2 ⟨by grind, by grind⟩)
  have be := SC_bd (y := tq * ε) (rabs_le.2 ⟨by grind, by grind⟩)
  have sd := S_up (d := 13 / 1000000000000) (x := tq * δ) (by grind) (by grind) (by grind) (by grind)
  have se := S_up (d := 13 / 1000000000000) (x := tq * ε) (by grind) (by grind) (by grind) (by grind)
  have cd := C_up (d := 13 / 1000000000000) (x := tq * δ) (by grind) (by grind) (by grind) (by grind)
  have ce := C_up (d := 13 / 1000000000000) (x := tq * ε) (by grind) (by grind) (by grind) (by grind)
  obtain ⟨g1, g2⟩ := across p1 p2 (circT L0 L1) (by grind) (by grind) (by grind) (by grind)
  obtain ⟨g3, g4⟩ := across p3 p4 (circT z0 z1) (by grind) (by grind) (by grind) (by grind)
  have g1 := rabs_le.1 g1
  have g2 := rabs_le.1 g2
  have g3 := rabs_le.1 g3
  have g4 := rabs_le.1 g4
  clear p1 p2 p3 p4 ba bz bd be D0 D1 F0 F1 hδ hε
  refine ⟨?_, ?_, ?_⟩
  all_goals generalize S (tq * (lo : Rat)) = sa at *
  all_goals generalize C (tq * (lo : Rat)) = ca at *
  all_goals generalize S (tq * (h : Rat)) = sh at *
  all_goals generalize C (tq * (h : Rat)) = ch at *
  all_goals generalize S (tq * z) = sz at *
  all_goals generalize C (tq * z) = cz at *
  · have m := Rat.mul_le_mul_of_nonneg_left (show -(1 / 10000000000) ≤ ca * sz - sa * cz by grind) r0
    grind
  · have m := Rat.mul_le_mul_of_nonneg_left (show -(1 / 10000000000) ≤ cz * sh - sz * ch by grind) r0
    grind
  · have m := Rat.mul_le_mul_of_nonneg_left (show -(1 / 10000000000) ≤ ca * cz + sa * sz by grind) r0
    have m2 := Rat.mul_le_mul_of_nonneg_left (show -(1 / 10000000000) ≤ cz * ch + sz * sh by grind) r0
    grind
end Go.Proofs.YtcgnhnmigmdalaaDoor
