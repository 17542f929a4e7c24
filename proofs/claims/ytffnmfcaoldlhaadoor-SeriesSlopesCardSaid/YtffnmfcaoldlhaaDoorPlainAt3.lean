/- What math.satan, atan and atan2 run through, and how near they come. No program in sight. -/
import Derived.Test.YtffnmfcaoldlhaaDoorPlainAt2
set_option linter.unusedVariables false
set_option linter.unusedSimpArgs false
namespace Go.Proofs.YtffnmfcaoldlhaaDoor
open Ieee
def w066 : Nat := 4604119971053405471
def wT38 : Nat := 4612618744449965542
def wPi2 : Nat := 4609753056924675352
def wPi4 : Nat := 4605249457297304856
def wMB : Nat := 4364452196894661639
def wMBh : Nat := 4359948597267291143
def wPiA : Nat := 4614256656552045848
theorem Ap.of_near {w : Nat} {X Y e : Rat} (h : Ap w X e) (d : Rat) (h1 : rabs (X - Y) ≤ d) : Ap w Y (e + d) := by
  have := rabs_le.1 h1
  exact h.move (by grind) (by grind)
/-- What math.satan runs through. -/
def SatP (t : Nat) (T : Rat) (r : Nat) : Prop :=
  (T ≤ cv w066 ∧ XatP t r) ∨
  (cv w066 < T ∧ cv wT38 < T ∧ ∃ i x a, double.div wOne t = some i ∧ XatP i x ∧ double.sub wPi2 x = some a ∧ double.add a wMB = some r) ∨
  (cv w066 < T ∧ T ≤ cv wT38 ∧ ∃ n d q x a, double.sub t wOne = some n ∧ double.add t wOne = some d ∧ double.div n d = some q ∧ XatP q x ∧ double.add wPi4 x = some a ∧ double.add a wMBh = some r)
theorem rabs_pos {x : Rat} (h : 0 ≤ x) : rabs x = x := by unfold rabs; rw [if_pos h]
theorem sat_num : (65/100 ≤ cv w066 ∧ cv w066 ≤ 6601/10000) ∧ (24142/10000 ≤ cv wT38 ∧ cv wT38 ≤ 24143/10000) ∧ rabs (cv wPi2 - piQ / 2) ≤ 1 / 1000000000000000 ∧ rabs (cv wPi4 - piQ / 4) ≤ 1 / 1000000000000000 ∧ rabs (cv wMB) ≤ 1 / 1000000000000000 ∧ rabs (cv wMBh) ≤ 1 / 1000000000000000 ∧ rabs (cv wPiA - piQ) ≤ 1 / 1000000000000000 ∧ cv wOne = 1 := by decide +kernel
theorem sat_ap : Ap wPi2 (piQ / 2) (1 / 1000000000000000) ∧ Ap wPi4 (piQ / 4) (1 / 1000000000000000) ∧ Ap wMB 0 (1 / 1000000000000000) ∧ Ap wMBh 0 (1 / 1000000000000000) ∧ Ap wPiA piQ (1 / 1000000000000000) ∧ Ap wOne 1 0 := by
  obtain ⟨-, -, h1, h2, h3, h4, h5, h6⟩ := sat_num
  have z : ∀ e : Rat, 0 + e = e := fun e => by grind
  refine ⟨?_, ?_, ?_, ?_, ?_, ?_⟩
  · have := (cv_ap (show isNum wPi2 = true by decide +kernel)).of_near _ h1; rw [z] at this; exact this
  · have := (cv_ap (show isNum wPi4 = true by decide +kernel)).of_near _ h2; rw [z] at this; exact this
  · have := (cv_ap (show isNum wMB = true by decide +kernel)).of_near (Y := 0) (1 / 1000000000000000) (by have e : cv wMB - 0 = cv wMB := by grind
                                                                                                          rw [e]; exact h3)
    rw [z] at this; exact this
  · have := (cv_ap (show isNum wMBh = true by decide +kernel)).of_near (Y := 0) (1 / 1000000000000000) (by have e : cv wMBh - 0 = cv wMBh := by grind
                                                                                                           rw [e]; exact h4)
    rw [z] at this; exact this
  · have := (cv_ap (show isNum wPiA = true by decide +kernel)).of_near _ h5; rw [z] at this; exact this
  · have := cv_ap (show isNum wOne = true by decide +kernel); rw [h6] at this; exact this
theorem at_pi4 : rabs (S (piQ / 4) - C (piQ / 4)) ≤ 1 / 100000000000000 ∧ rabs (C (piQ / 4)) ≤ 71/100 ∧ 70/100 ≤ C (piQ / 4) := by decide +kernel
/-- An angle of a tangent from nought on. -/
structure Tan (T a : Rat) : Prop where
  n : rabs (S a - T * C a) ≤ 1 / 100000000000 * (1 + T)
  a0 : 0 ≤ a
  a1 : a ≤ piQ / 2
theorem tan_lo {T R : Rat} (T0 : 0 ≤ T) (h : rabs (S R - T * C R) ≤ 2 / 1000000000000) (R0 : 0 ≤ R) (R1 : R ≤ 1) : Tan T R := by
  have := pi_num
  exact ⟨by grind, R0, by grind⟩
theorem tan_hi {T R : Rat} (T1 : 1 ≤ T) (h : rabs (S R - 1 / T * C R) ≤ 2 / 1000000000000) (R0 : 0 ≤ R) (R1 : R ≤ 1) : Tan T (piQ / 2 - R) := by
  have hp := pi_num
  refine ⟨?_, by grind, by grind⟩
  obtain ⟨-, -, p1, p2, -⟩ := at_pi
  have hR : rabs R ≤ 16/5 := rabs_le.2 ⟨by grind, by grind⟩
  have hq : rabs (piQ / 2) ≤ 32/5 := rabs_le.2 ⟨by grind, by grind⟩
  have s1 := rabs_le.1 (sin_sub hq hR)
  have s2 := rabs_le.1 (cos_sub hq hR)
  have hb := SC_bd (y := R) (by grind)
  have m1 := rabs_le.1 (mul_rabs p1 hb.1)
  have m2 := rabs_le.1 (mul_rabs p1 hb.2)
  have m3 := rabs_le.1 (mul_rabs p2 hb.1)
  have m4 := rabs_le.1 (mul_rabs p2 hb.2)
  have TT : rabs T ≤ T := by rw [rabs_pos (by grind)]; exact Rat.le_refl
  have k : T * (1 / T) = 1 := by rw [Rat.div_def]; have := Rat.mul_inv_cancel T (by grind); grind
  have hT := rabs_le.1 (mul_rabs TT h)
  have e1 : T * (S R - 1 / T * C R) = T * S R - C R := by
    have : T * (S R - 1 / T * C R) = T * S R - T * (1 / T) * C R := by grind
    rw [this, k]; grind
  rw [e1] at hT
  generalize S (piQ / 2) = sp at *
  generalize C (piQ / 2) = cp at *
  have c1 : rabs (S (piQ / 2 - R) - C R) ≤ 2 / 10000000000000 := rabs_le.2 ⟨by grind, by grind⟩
  have c2 : rabs (C (piQ / 2 - R) - S R) ≤ 2 / 10000000000000 := rabs_le.2 ⟨by grind, by grind⟩
  have m5 := rabs_le.1 (mul_rabs TT c2)
  have c1 := rabs_le.1 c1
  clear m1 m2 m3 m4 s1 s2 p1 p2 h
  rw [rabs_le]
  constructor <;> grind
theorem tan_mid {T R : Rat} (T0 : 13/20 ≤ T) (T1 : T ≤ 5/2) (h : rabs (S R - (T - 1) / (T + 1) * C R) ≤ 2 / 1000000000000) (R0 : -(3/5) ≤ R) (R1 : R ≤ 3/5) : Tan T (piQ / 4 + R) := by
  have hp := pi_num
  refine ⟨?_, by grind, by grind⟩
  obtain ⟨p1, p2, -⟩ := at_pi4
  have hR : rabs R ≤ 16/5 := rabs_le.2 ⟨by grind, by grind⟩
  have hq : rabs (piQ / 4) ≤ 32/5 := rabs_le.2 ⟨by grind, by grind⟩
  have s1 := rabs_le.1 (sin_add hq hR)
  have s2 := cos_add hq hR
  have hb := SC_bd (y := R) (by grind)
  have k : (T + 1) * ((T - 1) / (T + 1)) = T - 1 := by rw [Rat.div_def]; have := Rat.mul_inv_cancel (T + 1) (by grind); grind
  have hT := mul_rabs (show rabs (T + 1) ≤ T + 1 by rw [rabs_pos (by grind)]; exact Rat.le_refl) h
  have e1 : (T + 1) * (S R - (T - 1) / (T + 1) * C R) = (T + 1) * S R - (T - 1) * C R := by
    have : (T + 1) * (S R - (T - 1) / (T + 1) * C R) = (T + 1) * S R - (T + 1) * ((T - 1) / (T + 1)) * C R := by grind
    rw [this, k]
  rw [e1] at hT
  have hT2 := rabs_le.1 (mul_rabs p2 hT)
  have TT : rabs T ≤ 5/2 := rabs_le.2 ⟨T1, by grind⟩
  have m1 := rabs_le.1 (mul_rabs TT s2)
  have m2 := rabs_le.1 (mul_rabs p1 hb.2)
  have m3 := mul_rabs p1 hb.1
  have m4 := rabs_le.1 (mul_rabs TT m3)
  clear s2 m3 p1 hb e1 k h hT
  generalize S (piQ / 4) = sp at *
  generalize C (piQ / 4) = cp at *
  rw [rabs_le]
  constructor <;> grind
theorem sat_run {t : Nat} {T : Rat} (ht : Num t T) (T0 : 0 ≤ T) : ∃ r a, SatP t T r ∧ Ap r a (3 / 10000000000000) ∧ Tan T a := by
  obtain ⟨n1, n2, -⟩ := sat_num
  obtain ⟨p1, p2', p3, p4, p5, p6⟩ := sat_ap
  have hp := pi_num
  have q0 : p2 ((0 : Nat) : Int) = 1 := by decide +kernel
  have nn : p2 (((0 : Nat) : Int) - 53) ≤ 12 / 100000000000000000 := by decide +kernel
  have nn1 : p2 (((0 : Nat) : Int) - 54) ≤ 12 / 100000000000000000 := by decide +kernel
  have q2 : p2 ((2 : Nat) : Int) = 4 := by decide +kernel
  have nm2 : p2 (((2 : Nat) : Int) - 53) ≤ 48 / 100000000000000000 := by decide +kernel
  by_cases h1 : T ≤ cv w066
  · obtain ⟨r, R, g1, g2, g3, g4, g5, g6⟩ := xat_run ht.ap (by rw [rabs_pos T0]; grind) (by grind)
    rw [rabs_pos T0] at g4
    have g4 := rabs_le.1 g4
    exact ⟨r, R, .inl ⟨h1, g1⟩, g2.mono (by grind), tan_lo T0 g3 (g5 T0) (by grind)⟩
  by_cases h2 : T ≤ cv wT38
  · obtain ⟨n, f1, a1⟩ := sub_ap 2 (by omega) ht.ap p6 (by rw [q2]; grind) (by rw [q2]; grind)
    obtain ⟨d, f2, a2⟩ := add_ap 2 (by omega) ht.ap p6 (by rw [q2]; grind) (by rw [q2]; grind)
    have a1 := a1.mono (e' := 5 / 10000000000000000) (by grind)
    have a2 := a2.mono (e' := 5 / 10000000000000000) (by grind)
    have i0 : (T + 1) * (T + 1)⁻¹ = 1 := Rat.mul_inv_cancel (T + 1) (by grind)
    have i1 : 0 < (T + 1)⁻¹ := Rat.inv_pos.2 (by grind)
    have hM : rabs ((T - 1) / (T + 1)) ≤ 42/100 := by
      rw [Rat.div_def, rabs_le]
      have m1 := Rat.mul_nonneg (show 0 ≤ 42/100 * (T + 1) - (T - 1) by grind) (Rat.le_of_lt i1)
      have m2 := Rat.mul_nonneg (show 0 ≤ 42/100 * (T + 1) + (T - 1) by grind) (Rat.le_of_lt i1)
      constructor <;> grind
    obtain ⟨q, f3, a3⟩ := div_ap (3/2) (42/100) 0 (by omega) a1 a2 (by grind) (by grind) hM (by rw [q0]; grind)
    have a3 := a3.mono (e' := 1 / 1000000000000000) (by grind)
    obtain ⟨x, R, g1, g2, g3, g4, -, -⟩ := xat_run a3 (by grind) (by grind)
    generalize hX : (T - 1) / (T + 1) = X at *
    have g4 : rabs R ≤ 3/5 := by grind
    have R1 := rabs_le.1 g4
    obtain ⟨a, f4, a4⟩ := add_ap 2 (by omega) p2' g2 (by rw [q2]; grind) (by rw [q2]; grind)
    obtain ⟨r, f5, a5⟩ := add_ap 2 (by omega) a4 p4 (by rw [q2]; grind) (by rw [q2]; grind)
    have e : piQ / 4 + R + 0 = piQ / 4 + R := by grind
    rw [e] at a5
    refine ⟨r, _, .inr (.inr ⟨by grind, h2, n, d, q, x, a, f1, f2, f3, g1, f4, f5⟩), a5.mono (by grind), tan_mid (by grind) (by grind) (by rw [hX]; exact g3) R1.2 R1.1⟩
  · have hT2 : T * (1 / T) = 1 := by rw [Rat.div_def]; have := Rat.mul_inv_cancel T (by grind); grind
    have iT : 0 < 1 / T := by rw [Rat.div_def]; have : 0 < T⁻¹ := Rat.inv_pos.2 (by grind); grind
    have iT2 : 1 / T ≤ 42/100 := by
      have m := Rat.mul_nonneg (show 0 ≤ T - 24142/10000 by grind) (Rat.le_of_lt iT)
      grind
    obtain ⟨i, f1, a1⟩ := div_ap 2 (42/100) 0 (by omega) p6 ht.ap (by grind) (by grind) (by rw [rabs_pos (Rat.le_of_lt iT)]; exact iT2) (by rw [q0]; grind)
    have a1 := a1.mono (e' := 1 / 1000000000000000) (by grind)
    obtain ⟨x, R, g1, g2, g3, g4, g5, -⟩ := xat_run a1 (by rw [rabs_pos (Rat.le_of_lt iT)]; grind) (by grind)
    have R0 := g5 (Rat.le_of_lt iT)
    rw [rabs_pos (Rat.le_of_lt iT)] at g4
    have R1 := rabs_le.1 g4
    obtain ⟨a, f4, a4⟩ := sub_ap 2 (by omega) p1 g2 (by rw [q2]; grind) (by rw [q2]; grind)
    obtain ⟨r, f5, a5⟩ := add_ap 2 (by omega) a4 p3 (by rw [q2]; grind) (by rw [q2]; grind)
    have e : piQ / 2 - R + 0 = piQ / 2 - R := by grind
    rw [e] at a5
    exact ⟨r, _, .inr (.inl ⟨by grind, by grind, i, x, a, f1, g1, f4, f5⟩), a5.mono (by grind), tan_hi (by grind) g3 R0 (by grind)⟩
end Go.Proofs.YtffnmfcaoldlhaaDoor
