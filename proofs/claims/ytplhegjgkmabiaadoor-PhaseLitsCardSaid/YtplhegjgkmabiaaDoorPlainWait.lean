/- The time that the sun needs by its mean speed, in floating point. No program in sight. -/
import Derived.Test.YtplhegjgkmabiaaDoorTrA
set_option linter.unusedVariables false
set_option linter.unusedSimpArgs false
namespace Go.Proofs.YtplhegjgkmabiaaDoor
open Ieee
def wRate2 : Nat := 4703134026798884454
def wDayF : Nat := 4725570615333879808
def waitW (M : Int) : Nat := fmul (fdiv (fofI M) wRate2) wDayF
def waitF (M : Int) : Int := ((double.read (waitW M)).toInt .zero).getD 0
theorem wait_run {M : Int} (m0 : 0 ≤ M) (m1 : M < 1000000000) : ∃ q, double.div (fofI M) wRate2 = some q ∧ double.mul q wDayF = some (waitW M) ∧ (double.read (waitW M)).toInt .zero = some (waitF M) ∧
    864000000 * M - 54758186 ≤ 27379093 * waitF M ∧ 27379093 * waitF M ≤ 864000000 * M + 54758186 ∧ 0 ≤ waitF M := by
  have M0 : (0 : Rat) ≤ (M : Rat) := by exact_mod_cast m0
  have M1 : (M : Rat) ≤ 1000000000 := by
    have := Rat.intCast_le_intCast.2 (show M ≤ 1000000000 by omega)
    exact this
  have nM := fofI_num M (by omega) (by omega)
  have nR : Num wRate2 (cv wRate2) := cv_num (by decide +kernel)
  have nD : Num wDayF (cv wDayF) := cv_num (by decide +kernel)
  have eD : cv wDayF = 86400000 := by decide +kernel
  have eR : 1 ≤ cv wRate2 ∧ cv wRate2 ≠ 0 := by decide +kernel
  have v0 : (0 : Rat) ≤ (cv wRate2)⁻¹ := by decide +kernel
  have v1 : (cv wRate2)⁻¹ ≤ 1 / 2737909 := by decide +kernel
  have v2 : 27379093 * (cv wRate2)⁻¹ - 10 ≤ 1 / 100000000000000 ∧ -(1 / 100000000000000) ≤ 27379093 * (cv wRate2)⁻¹ - 10 := by decide +kernel
  have ed : (M : Rat) / cv wRate2 = (M : Rat) * (cv wRate2)⁻¹ := Rat.div_def _ _
  have p1 : (M : Rat) * (cv wRate2)⁻¹ ≤ 1000000000 * (cv wRate2)⁻¹ := Rat.mul_le_mul_of_nonneg_right M1 v0
  have p0 : 0 ≤ (M : Rat) * (cv wRate2)⁻¹ := Rat.mul_nonneg M0 v0
  have u9 : p2 ((9 : Nat) : Int) = 512 ∧ p2 (((9 : Nat) : Int) - 54) ≤ 1 / 10000000000000 ∧ p2 (((9 : Nat) : Int) - 53) ≤ 1 / 10000000000000 := by decide +kernel
  have u36 : p2 ((36 : Nat) : Int) = 68719476736 ∧ p2 (((36 : Nat) : Int) - 53) ≤ 1 / 100000 := by decide +kernel
  obtain ⟨q, q1, q2⟩ := div_ap (a := 0) (b := 0) 1 400 9 (by omega) nM.ap nR.ap (by decide +kernel) (by have := eR.1; grind) (by rw [ed]; exact rabs_le.2 ⟨by grind, by grind⟩) (by
    rw [u9.1]
    have h := u9.2.1
    have e : (0 + 400 * (0 : Rat)) / 1 = 0 := by decide +kernel
    rw [e]; grind)
  rw [ed] at q2
  have q3 : Ap q ((M : Rat) * (cv wRate2)⁻¹) (2 / 10000000000000) := q2.mono (by
    have e : (0 + 400 * (0 : Rat)) / 1 = 0 := by decide +kernel
    rw [e]; have := u9.2; grind)
  obtain ⟨r, r1, r2⟩ := mul_ap (b := 0) 400 86400000 36 (by omega) q3 nD.ap (by grind) (by grind) (by rw [eD]; grind) (by rw [eD]; grind) (by rw [u36.1]; grind)
  have hq63 : q < 9223372036854775808 := div_lt63 (fofI_lt63 M m0) (by decide +kernel) nM nR eR.2 q1
  obtain ⟨sq, mq, pq, a1, a2, a3⟩ := q3
  have hr63 : r < 9223372036854775808 := mul_lt63 hq63 (by decide +kernel) ⟨sq, mq, pq, a1, rfl⟩ nD r1
  obtain ⟨s, m, p, b1, b2, b3⟩ := r2
  have hs := sign_of hr63 b1
  subst hs
  obtain ⟨k, k1, k2, k3⟩ := toInt_pos m p
  have ew : waitW M = r := by unfold waitW; rw [fdiv_of q1, fmul_of r1]
  have ei : (double.read r).toInt .zero = some ((k : Nat) : Int) := by
    unfold Reads at b1
    rw [b1]; exact k1
  have ef : waitF M = (k : Int) := by unfold waitF; rw [ew, ei]; rfl
  refine ⟨q, q1, by rw [ew]; exact r1, by rw [ew, ef]; exact ei, ?_, ?_, by rw [ef]; omega⟩
  all_goals
    rw [ef]
    refine Rat.intCast_le_intCast.1 ?_
    rw [eD] at b2 b3
    have u := u36.2
    have t1 := Rat.mul_le_mul_of_nonneg_left v2.1 M0
    have t2 := Rat.mul_le_mul_of_nonneg_left v2.2 M0
    have ek : (((k : Nat) : Int) : Rat) = (k : Rat) := rfl
    push_cast
    generalize (cv wRate2)⁻¹ = v at *
    clear q1 q2 r1 a1 a2 a3 b1 k1 ei ef ew ed nM nR nD u9 eR
    generalize (k : Rat) = kk at *
    generalize rv false m p = z at *
    generalize p2 (((36 : Nat) : Int) - 53) = pp at *
    have e1 : (M : Rat) * (27379093 * v - 10) = 27379093 * ((M : Rat) * v) - 10 * (M : Rat) := by grind
    have e2 : (M : Rat) * -(1 / 100000000000000) = -((M : Rat) * (1 / 100000000000000)) := by grind
    rw [e1] at t1 t2
    rw [e2] at t2
    generalize (M : Rat) * v = mv at *
    grind
end Go.Proofs.YtplhegjgkmabiaaDoor
