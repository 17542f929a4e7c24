/- What trig.arcSine runs through; TrigArcSins' statement. No program in sight. -/
import Derived.Test.YtffnmfcaoldlhaaDoorPlainAsin
set_option linter.unusedVariables false
set_option linter.unusedSimpArgs false
namespace Go.Proofs.YtffnmfcaoldlhaaDoor
open Ieee
theorem sq_monoI {a b : Int} (ha : 0 ≤ a) (h : a ≤ b) : a * a ≤ b * b := Int.le_trans (Int.mul_le_mul_of_nonneg_left h ha) (Int.mul_le_mul_of_nonneg_right h (by omega))
def cl9 (n : Int) : Int := min (max n (-1000000000)) 1000000000
def fsqrt (x : Nat) : Nat := (double.sqrt x).getD 0
def asinW (n : Int) : Nat := fmul (fdiv (at2W (fofI n) (fsqrt (fofI ((1000000000 - n) * (1000000000 + n))))) w2Pi) wTurn
/-- What arcSine runs through. -/
structure AsinP (n : Int) (f : Nat) : Prop where
  ex : ∃ x X r d, double.sqrt (fofI ((1000000000 - n) * (1000000000 + n))) = some x ∧ x < 18446744073709551616 ∧ Num (fofI n) (n : Rat) ∧ Num x X ∧ rabs (n : Rat) ≤ 9000000000000000000 ∧ rabs X ≤ 9000000000000000000 ∧ ((n : Rat) = 0 → fofI n = 0) ∧ At2P (fofI n) (n : Rat) x X r ∧ double.div r w2Pi = some d ∧ double.mul d wTurn = some f
theorem asin_run (n : Int) (n1 : -1000000000 ≤ n) (n2 : n ≤ 1000000000) : AsinP n (asinW n) ∧ ∃ D, Num (asinW n) D ∧ Asin n D ∧ AroundP (asinW n) ∧ (arLo (asinW n) : Rat) ≤ D - 9 / 10000 ∧ D - 11 / 10000 < (arLo (asinW n) : Rat) + 1 ∧ D + 9 / 10000 ≤ (arHi (asinW n) : Rat) ∧ (arHi (asinW n) : Rat) < D + 11 / 10000 + 1 := by
  have hn := fofI_num n (by omega) (by omega)
  have c1 : ((1000000000 : Int) : Rat) = 1000000000 := rfl
  have c2 : ((-1000000000 : Int) : Rat) = -1000000000 := rfl
  have N1 := icast n1
  have N2 := icast n2
  rw [c2] at N1
  rw [c1] at N2
  have z0 : rabs 0 = 0 := by decide +kernel
  have rn : rabs (n : Rat) ≤ 9000000000000000000 := rabs_le.2 ⟨by grind, by grind⟩
  have nz : (n : Rat) = 0 → fofI n = 0 := by
    intro h
    have : n = 0 := by exact_mod_cast h
    rw [this]; decide +kernel
  have hmm : (1000000000 - n) * (1000000000 + n) = 1000000000000000000 - n * n := by grind
  have mq : (0 : Int) ≤ n * n := by
    by_cases q : 0 ≤ n
    · exact Int.mul_nonneg q q
    · have := Int.mul_nonneg (show 0 ≤ -n by omega) (show 0 ≤ -n by omega); grind
  have m0 : 0 ≤ (1000000000 - n) * (1000000000 + n) := Int.mul_nonneg (by omega) (by omega)
  have m1 : (1000000000 - n) * (1000000000 + n) ≤ 1000000000000000000 := by omega
  have hmR : (((1000000000 - n) * (1000000000 + n) : Int) : Rat) = 1000000000000000000 - (n : Rat) * n := by rw [hmm]; push_cast; rfl
  -- the root
  obtain ⟨x, X, x1, x2, x3, x4, x5, x6⟩ : ∃ x X, double.sqrt (fofI ((1000000000 - n) * (1000000000 + n))) = some x ∧ x < 18446744073709551616 ∧ Num x X ∧ 0 ≤ X ∧ rabs (X * X - (1000000000000000000 - (n : Rat) * n)) ≤ 10000 ∧ (X = 0 ∨ 1/2 ≤ rabs X) := by
    by_cases h0 : (1000000000 - n) * (1000000000 + n) = 0
    · rw [h0] at hmR ⊢
      refine ⟨0, 0, by decide +kernel, by omega, num_zero, by grind, ?_, .inl rfl⟩
      rw [← hmR]
      have : (0 : Rat) * 0 - ((0 : Int) : Rat) = 0 := by have : ((0 : Int) : Rat) = 0 := rfl
                                                         rw [this]; grind
      rw [this, z0]; grind
    · have hm : 1999999999 ≤ (1000000000 - n) * (1000000000 + n) := by
        have hne : n ≠ 1000000000 ∧ n ≠ -1000000000 := ⟨fun h => h0 (by rw [h]; rfl), fun h => h0 (by rw [h]; rfl)⟩
        have := sq_monoI (a := n.natAbs) (b := 999999999) (by omega) (by omega)
        have e : (n.natAbs : Int) * n.natAbs = n * n := Int.natAbs_mul_self
        omega
      obtain ⟨V, v1, v2, -, -, -⟩ := int_num ((1000000000 - n) * (1000000000 + n)) (by omega) (by omega)
      have M0 := icast hm
      have M1 := icast m1
      have d1 : ((1999999999 : Int) : Rat) = 1999999999 := rfl
      have d2 : ((1000000000000000000 : Int) : Rat) = 1000000000000000000 := rfl
      rw [d1] at M0
      rw [d2] at M1
      generalize (1000000000 - n) * (1000000000 + n) = m at *
      rw [rabs_pos (show 0 ≤ (m : Rat) by grind)] at v2
      have v2 := rabs_le.1 v2
      have p62 : p2 62 = 4611686018427387904 := by decide +kernel
      obtain ⟨r, R, s1, lt, s2, s3, s4⟩ := sqrt_near v1 (by grind) (by rw [p62]; grind)
      have s4 := rabs_le.1 s4
      refine ⟨r, R, s1, by omega, s2, s3, ?_, ?_⟩
      · rw [← hmR]; exact rabs_le.2 ⟨by grind, by grind⟩
      · right
        rw [rabs_pos s3]
        by_cases q : 1/2 ≤ R
        · exact q
        · have := Rat.mul_nonneg s3 (show 0 ≤ 1/2 - R by grind)
          grind
  have x5' := rabs_le.1 x5
  have nn := sq_nonneg (n : Rat)
  have Xb : rabs X ≤ 9000000000000000000 := by
    rw [rabs_pos x4]
    by_cases q : X ≤ 9000000000000000000
    · exact q
    · have := Rat.mul_nonneg (show 0 ≤ X - 9000000000000000000 by grind) x4
      grind
  have hz : (n : Rat) ≠ 0 ∨ X ≠ 0 := by
    by_cases q : (n : Rat) = 0
    · right
      intro h
      rw [h, q] at x5'
      grind
    · exact .inl q
  obtain ⟨r, d, f, D, f1, f2, f3, f4, f5⟩ := dir_run hn x3 x6 Xb rn hz
  have ef : asinW n = f := by
    unfold asinW fsqrt
    rw [x1]
    show fmul (fdiv (at2W (fofI n) x) w2Pi) wTurn = f
    rw [at2W_of hn x3 f1, fdiv_of f2, fmul_of f3]
  have ha := asin_of f5 n1 n2 x4 x5
  have hb := rabs_le.1 f5.b
  have q30 : p2 ((30 : Nat) : Int) = 1073741824 := by decide +kernel
  have n30 : p2 (((30 : Nat) : Int) - 53) ≤ 12 / 100000000 := by decide +kernel
  have t18 : (1 : Rat) / 10 ^ 18 ≤ 1 / 1000000000 := by decide +kernel
  obtain ⟨s1, s2, X1, X2, w1, w2, w3, w4, w5, w6, w7, w8, w9, w10, w11, w12, w13, w14⟩ := around_run 30 (by omega) f4.ap (by rw [q30]; grind) (by rw [q30]; grind)
  rw [ef]
  exact ⟨⟨x, X, r, d, x1, x2, hn, x3, rn, Xb, nz, f1, f2, f3⟩, D, f4, ha, ⟨s1, s2, X1, X2, w1, w2, w3, w4, w5, w6, w7, w8, w9, w10⟩, by grind, by grind, by grind, by grind⟩
end Go.Proofs.YtffnmfcaoldlhaaDoor
