/- What the latitude can move beside its ends, in floating point; the latitudes between two near instants. No program in sight. -/
import Derived.Test.YtcgnhnmigmdalaaDoorPlainEcl
import Derived.Test.YtcgnhnmigmdalaaDoorGwA
import Derived.Test.YtcgnhnmigmdalaaDoorSmA
set_option linter.unusedVariables false
set_option linter.unusedSimpArgs false
namespace Go.Proofs.YtcgnhnmigmdalaaDoor
open Ieee
def spd : Int := 3648980
def mA (h : Int) : Nat := fdiv (fmul (fofI spd) (fofI h)) wDayF
def mB (h : Int) : Nat := fdiv (fmul (mA h) (fofI h)) wDayF
def mF (h : Int) : Int := ((double.read (mB h)).toInt .zero).getD 0
theorem more_run {h : Int} (h0 : 0 ≤ h) (h1 : h ≤ 600000) : ∃ p r, double.mul (fofI spd) (fofI h) = some p ∧ double.div p wDayF = some (mA h) ∧ double.mul (mA h) (fofI h) = some r ∧ double.div r wDayF = some (mB h) ∧ (double.read (mB h)).toInt .zero = some (mF h) ∧
    3648980 * ((h : Rat) * (1 / 86400000)) * ((h : Rat) * (1 / 86400000)) - 1 - 1 / 1000 ≤ (mF h : Rat) ∧ 0 ≤ mF h ∧ mF h ≤ 176 := by
  have H0 : (0 : Rat) ≤ (h : Rat) := by exact_mod_cast h0
  have H1 : (h : Rat) ≤ 600000 := Rat.intCast_le_intCast.2 h1
  have nS : Num (fofI spd) ((spd : Int) : Rat) := fofI_num spd (by decide) (by decide)
  have eS : ((spd : Int) : Rat) = 3648980 := rfl
  rw [eS] at nS
  have nH := fofI_num h (by omega) (by omega)
  have nD : Num wDayF (cv wDayF) := cv_num (by decide +kernel)
  have eD : cv wDayF = 86400000 := by decide +kernel
  rw [eD] at nD
  have dv : ∀ x : Rat, x / 86400000 = x * (1 / 86400000) := fun x => by rw [Rat.div_def, Rat.div_def]; grind
  have u41 : p2 ((41 : Nat) : Int) = 2199023255552 ∧ p2 (((41 : Nat) : Int) - 53) = 1 / 4096 := by decide +kernel
  have u15 : p2 ((15 : Nat) : Int) = 32768 ∧ p2 (((15 : Nat) : Int) - 54) ≤ 1 / 100000000000 ∧ p2 (((15 : Nat) : Int) - 53) ≤ 1 / 100000000000 ∧ 0 ≤ p2 (((15 : Nat) : Int) - 54) ∧ 0 ≤ p2 (((15 : Nat) : Int) - 53) := by decide +kernel
  have u34 : p2 ((34 : Nat) : Int) = 17179869184 ∧ p2 (((34 : Nat) : Int) - 53) ≤ 1 / 100000 ∧ 0 ≤ p2 (((34 : Nat) : Int) - 53) := by decide +kernel
  have u8 : p2 ((8 : Nat) : Int) = 256 ∧ p2 (((8 : Nat) : Int) - 54) ≤ 1 / 1000000000000 ∧ p2 (((8 : Nat) : Int) - 53) ≤ 1 / 1000000000000 ∧ 0 ≤ p2 (((8 : Nat) : Int) - 54) ∧ 0 ≤ p2 (((8 : Nat) : Int) - 53) := by decide +kernel
  -- the first product
  obtain ⟨p, p1, p3⟩ := mul_ap (a := 0) (b := 0) 3648980 600000 41 (by omega) nS.ap nH.ap (by grind) (by grind) H1 (by grind) (by rw [u41.1]; grind)
  have p4 : Ap p (3648980 * (h : Rat)) (1 / 4096) := p3.mono (by rw [u41.2]; grind)
  have X0 : (0 : Rat) ≤ 3648980 * (h : Rat) := by grind
  obtain ⟨q, q1, q3⟩ := div_ap (a := 1 / 4096) (b := 0) 86400000 25341 15 (by omega) p4 nD.ap (by decide +kernel) (by grind) (by rw [dv]; exact rabs_le.2 ⟨by grind, by grind⟩) (by
    rw [u15.1]
    have e : (1 / 4096 + 25341 * (0 : Rat)) / 86400000 ≤ 1 / 100000000000 := by decide +kernel
    have := u15.2.1
    grind)
  rw [dv] at q3
  have q4 : Ap q (3648980 * (h : Rat) * (1 / 86400000)) (4 / 100000000000) := q3.mono (by
    have e : (1 / 4096 + 25341 * (0 : Rat)) / 86400000 ≤ 1 / 100000000000 := by decide +kernel
    have := u15.2
    grind)
  have eA : mA h = q := by unfold mA; rw [fmul_of p1, fdiv_of q1]
  obtain ⟨r, r1, r3⟩ := mul_ap (b := 0) 25341 600000 34 (by omega) q4 nH.ap (by grind) (by grind) H1 (by grind) (by rw [u34.1]; grind)
  have hp63 : p < 9223372036854775808 := mul_lt63 (fofI_lt63 spd (by decide)) (fofI_lt63 h h0) nS nH p1
  obtain ⟨sp, mp, pp, a1, a2, a3⟩ := p4
  have hq63 : q < 9223372036854775808 := div_lt63 hp63 (by decide +kernel) ⟨sp, mp, pp, a1, rfl⟩ nD (by decide +kernel) q1
  obtain ⟨sq, mq, pq, b1, b2, b3⟩ := q4
  have hr63 : r < 9223372036854775808 := mul_lt63 hq63 (fofI_lt63 h h0) ⟨sq, mq, pq, b1, rfl⟩ nH r1
  have r4 : Ap r (3648980 * (h : Rat) * (1 / 86400000) * (h : Rat)) (4 / 100000) := r3.mono (by have := u34.2; grind)
  have HH : 0 ≤ (h : Rat) * (h : Rat) := Rat.mul_nonneg H0 H0
  have HH1 : (h : Rat) * (h : Rat) ≤ 600000 * 600000 := by
    have := Rat.mul_nonneg (show 0 ≤ 600000 - (h : Rat) by grind) (show 0 ≤ 600000 + (h : Rat) by grind)
    grind
  obtain ⟨v, v1, v3⟩ := div_ap (b := 0) 86400000 177 8 (by omega) r4 nD.ap (by decide +kernel) (by grind) (by rw [dv]; exact rabs_le.2 ⟨by grind, by grind⟩) (by
    rw [u8.1]
    have e : (4 / 100000 + 177 * (0 : Rat)) / 86400000 ≤ 1 / 1000000000000 := by decide +kernel
    have := u8.2.1
    grind)
  rw [dv] at v3
  have eB : mB h = v := by unfold mB; rw [eA, fmul_of r1, fdiv_of v1]
  obtain ⟨sr, mr, pr, c1, c2, c3⟩ := r4
  have hv63 : v < 9223372036854775808 := div_lt63 hr63 (by decide +kernel) ⟨sr, mr, pr, c1, rfl⟩ nD (by decide +kernel) v1
  obtain ⟨s, m, e, d1, d2, d3⟩ := v3
  have hs := sign_of hv63 d1
  subst hs
  obtain ⟨k, k1, k2, k3⟩ := toInt_pos m e
  have ei : (double.read v).toInt .zero = some ((k : Nat) : Int) := by
    unfold Reads at d1
    rw [d1]; exact k1
  have ef : mF h = (k : Int) := by unfold mF; rw [eB, ei]; rfl
  have e0 : (4 / 100000 + 177 * (0 : Rat)) / 86400000 ≤ 1 / 1000000000000 := by decide +kernel
  have ek : (((k : Nat) : Int) : Rat) = (k : Rat) := rfl
  have w8 := u8.2
  refine ⟨p, r, p1, by rw [eA]; exact q1, by rw [eA]; exact r1, by rw [eB]; exact v1, by rw [eB, ef]; exact ei, ?_, by rw [ef]; omega, ?_⟩
  · rw [ef, ek]
    clear p1 p3 q1 q3 r1 r3 v1 a1 b1 c1 d1 k1 ei ef eA eB nS nH nD
    generalize p2 (((8 : Nat) : Int) - 54) = y1 at *
    generalize p2 (((8 : Nat) : Int) - 53) = y2 at *
    generalize rv false m e = z at *
    grind
  · rw [ef]
    have : ((k : Nat) : Rat) < ((177 : Nat) : Rat) := by
      have c : ((177 : Nat) : Rat) = 177 := rfl
      rw [c]
      clear p1 p3 q1 q3 r1 r3 v1 a1 b1 c1 d1 k1 ei ef eA eB nS nH nD
      generalize p2 (((8 : Nat) : Int) - 54) = y1 at *
      generalize p2 (((8 : Nat) : Int) - 53) = y2 at *
      generalize rv false m e = z at *
      grind
    have : k < 177 := by exact_mod_cast this
    omega
end Go.Proofs.YtcgnhnmigmdalaaDoor
