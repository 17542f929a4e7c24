/- The angle whose sine is a number. No program in sight. What trig.arcSine runs through; TrigArcSins' statement. No program in sight. TrigArcSins' statement. No program in sight. -/
import Derived.Test.YtcgnhnmigmdalaaGreatDoorTrB
import Derived.Test.YtcgnhnmigmdalaaGreatDoorTrC
set_option linter.unusedVariables false
set_option linter.unusedSimpArgs false
namespace Go.Proofs.YtcgnhnmigmdalaaGreatDoor
section
open Ieee
/-- An angle whose sine is a whole number of units. -/
structure Asin (n : Int) (D : Rat) : Prop where
  s : rabs (S (tq * D) - (n : Rat) / 1000000000) ≤ 27 / 10000000000000
  b : rabs (tq * D) ≤ piQ / 2 + 2 / 10000000000
theorem cos_sign {θ : Rat} (h : rabs θ ≤ 3142/1000) (hc : -(9 / 100000000000) ≤ C θ) : rabs θ ≤ piQ / 2 + 2 / 10000000000 := by
  have hp := pi_num
  obtain ⟨-, -, p3, p4, -⟩ := at_pi
  have key : ∀ t : Rat, 0 ≤ t → t ≤ 3142/1000 → -(9 / 100000000000) ≤ C t → t ≤ piQ / 2 + 2 / 10000000000 := by
    intro t t0 t1 tc
    by_cases q : t ≤ piQ / 2 + 2 / 10000000000
    · exact q
    · exfalso
      have hq : rabs (piQ / 2) ≤ 16/5 := rabs_le.2 ⟨by grind, by grind⟩
      have ht : rabs t ≤ 32/5 := rabs_le.2 ⟨by grind, by grind⟩
      have a := rabs_le.1 (sin_sub ht hq)
      have hb := SC_bd ht
      have m1 := rabs_le.1 (mul_rabs hb.1 p4)
      have m2 := rabs_le.1 (mul_rabs hb.2 p3)
      by_cases q2 : t - piQ / 2 ≤ 8/5
      · have l := (S_lin (x := t - piQ / 2) (by grind) q2).1
        grind
      · grind
  have h1 := rabs_le.1 h
  by_cases h0 : 0 ≤ θ
  · have := key θ h0 h1.1 hc
    rw [rabs_pos h0]; exact this
  · have := key (-θ) (by grind) (by grind) (by rw [C_neg]; exact hc)
    rw [← rabs_neg, rabs_pos (by grind)]; exact this
theorem asin_alg1 {s y u1 u2 u3 : Rat} (e : 1000000000 * (s - y / 1000000000) = u1 - u2 + u3) (h1 : rabs u1 ≤ 1 / 100000) (h2 : rabs u2 ≤ 13 / 1000000) (h3 : rabs u3 ≤ 258/100000) : rabs (s - y / 1000000000) ≤ 27 / 10000000000000 := by
  have a := rabs_le.1 h1
  have b := rabs_le.1 h2
  have c := rabs_le.1 h3
  rw [rabs_le]
  generalize s - y / 1000000000 = z at *
  constructor <;> grind
theorem asin_alg2 {X c u1 u2 u3 : Rat} (X0 : 0 ≤ X) (e : 1000000000 * c = X + u1 - u3 - u2) (h1 : rabs u1 ≤ 1 / 10000) (h2 : rabs u2 ≤ 1 / 1000) (h3 : rabs u3 ≤ 82/1000) : -(9 / 100000000000) ≤ c := by
  have a := rabs_le.1 h1
  have b := rabs_le.1 h2
  have c := rabs_le.1 h3
  grind
theorem asin_of {X D : Rat} {n : Int} (h : Head X (n : Rat) D) (n1 : -1000000000 ≤ n) (n2 : n ≤ 1000000000) (X0 : 0 ≤ X) (hX : rabs (X * X - (1000000000000000000 - (n : Rat) * n)) ≤ 10000) : Asin n D := by
  obtain ⟨hn, hpp, hb⟩ := h
  have hp := pi_num
  obtain ⟨t1, t2, -⟩ := tq_num
  have tb : rabs (tq * D) ≤ 3142/1000 := by
    have := mul_rabs (show rabs tq ≤ 628319 / 100000000000000 from rabs_le.2 ⟨by grind, by grind⟩) hb
    grind
  have ci := rabs_le.1 (circ9 (y := tq * D) (by grind))
  have bb := SC_bd (y := tq * D) (by grind)
  have c1 : ((1000000000 : Int) : Rat) = 1000000000 := rfl
  have c2 : ((-1000000000 : Int) : Rat) = -1000000000 := rfl
  have N1 := icast n1
  have N2 := icast n2
  rw [c2] at N1
  rw [c1] at N2
  have hx := rabs_le.1 hX
  have nn := sq_nonneg (n : Rat)
  have Xb : X ≤ 1000000001 := by
    by_cases q : X ≤ 1000000001
    · exact q
    · have m1 := Rat.mul_nonneg (show 0 ≤ X - 1000000001 by grind) X0
      grind
  have rX := rabs_pos X0
  have rn : rabs (n : Rat) ≤ 1000000000 := rabs_le.2 ⟨N2, N1⟩
  generalize hs : S (tq * D) = s at *
  generalize hc : C (tq * D) = c at *
  generalize hy : (n : Rat) = y at *
  obtain ⟨N, hN⟩ : ∃ N, X * s - y * c = N := ⟨_, rfl⟩
  obtain ⟨P, hP⟩ : ∃ P, X * c + y * s = P := ⟨_, rfl⟩
  rw [hN, rX] at hn
  rw [hP, rX] at hpp
  have hN2 : rabs N ≤ 257/100000 := by clear hN hP hx hX; grind
  have NN := rabs_le.1 (mul_rabs hN2 hN2)
  have P0 : 0 ≤ P := by have := rabs_nonneg y; clear hN hP hx hX; grind
  have id1 : P * P + N * N = (X * X + y * y) * (s * s + c * c) := by rw [← hN, ← hP]; grind
  have zz : rabs (X * X + y * y) ≤ 1000000000000010000 := rabs_le.2 ⟨by grind, by grind⟩
  have k1 := rabs_le.1 (mul_rabs zz (show rabs (s * s + c * c - 1) ≤ 1 / 1000000000000000 from rabs_le.2 ci))
  have pp : rabs (P * P - 1000000000000000000) ≤ 20000 := by
    have e : P * P - 1000000000000000000 = (X * X + y * y) * (s * s + c * c - 1) + (X * X - (1000000000000000000 - y * y)) - N * N := by grind
    rw [e, rabs_le]
    constructor <;> grind
  have pp1 := rabs_le.1 pp
  have Pn : rabs (P - 1000000000) ≤ 12 / 1000000 := by
    rw [rabs_le]
    constructor
    · by_cases q : P - 1000000000 ≤ 12 / 1000000
      · exact q
      · have m1 := Rat.mul_nonneg (show 0 ≤ P - 1000000000 - 12 / 1000000 by grind) (show 0 ≤ P + 1000000000 by grind)
        grind
    · by_cases q : -(12 / 1000000) ≤ P - 1000000000
      · exact q
      · have m1 := Rat.mul_nonneg (show 0 ≤ 1000000000 - 12 / 1000000 - P by grind) (show 0 ≤ P + 1000000000 by grind)
        grind
  have Pn1 := rabs_le.1 Pn
  have id2 : y * (s * s + c * c) = s * P - c * N := by rw [← hN, ← hP]; grind
  have id3 : X * (s * s + c * c) = c * P + s * N := by rw [← hN, ← hP]; grind
  have k2 := rabs_le.1 (mul_rabs rn (show rabs (s * s + c * c - 1) ≤ 1 / 1000000000000000 from rabs_le.2 ci))
  have k3 := rabs_le.1 (mul_rabs bb.2 hN2)
  have k4 := rabs_le.1 (mul_rabs bb.1 Pn)
  have k5 := rabs_le.1 (mul_rabs bb.1 hN2)
  have k6 := rabs_le.1 (mul_rabs bb.2 Pn)
  have k7 := rabs_le.1 (mul_rabs (show rabs X ≤ 1000000001 by rw [rX]; exact Xb) (show rabs (s * s + c * c - 1) ≤ 1 / 1000000000000000 from rabs_le.2 ci))
  constructor
  · rw [hs, hy]
    have e : 1000000000 * (s - y / 1000000000) = (s * P - c * N - y) - s * (P - 1000000000) + c * N := by grind
    have e2 : s * P - c * N - y = y * (s * s + c * c - 1) := by rw [← id2]; grind
    rw [e2] at e
    exact asin_alg1 (u1 := y * (s * s + c * c - 1)) (u2 := s * (P - 1000000000)) (u3 := c * N) e (rabs_le.2 ⟨by clear e2 e id2 id3 hN hP; grind, by clear e2 e id2 id3 hN hP; grind⟩) (rabs_le.2 ⟨by clear e2 e id2 id3 hN hP; grind, by clear e2 e id2 id3 hN hP; grind⟩) (rabs_le.2 ⟨by clear e2 e id2 id3 hN hP; grind, by clear e2 e id2 id3 hN hP; grind⟩)
  · refine cos_sign tb ?_
    rw [hc]
    have e : 1000000000 * c = X + X * (s * s + c * c - 1) - s * N - c * (P - 1000000000) := by
      have : c * P = X * (s * s + c * c) - s * N := by rw [id3]; grind
      grind
    exact asin_alg2 (u1 := X * (s * s + c * c - 1)) (u2 := c * (P - 1000000000)) (u3 := s * N) X0 e (rabs_le.2 ⟨by clear e id2 id3 hN hP; grind, by clear e id2 id3 hN hP; grind⟩) (rabs_le.2 ⟨by clear e id2 id3 hN hP; grind, by clear e id2 id3 hN hP; grind⟩) (rabs_le.2 ⟨by clear e id2 id3 hN hP; grind, by clear e id2 id3 hN hP; grind⟩)
theorem sin_mono {x y : Rat} (h : x ≤ y) (hx : rabs x ≤ piQ / 2 + 3 / 10000000000) (hy : rabs y ≤ piQ / 2 + 3 / 10000000000) : S x ≤ S y + 7 / 10000000000 := by
  have hp := pi_num
  have x1 := rabs_le.1 hx
  have y1 := rabs_le.1 hy
  have hm : rabs ((y + x) / 2) ≤ 32/5 := rabs_le.2 ⟨by grind, by grind⟩
  have hd : rabs ((y - x) / 2) ≤ 16/5 := rabs_le.2 ⟨by grind, by grind⟩
  have d := rabs_le.1 (sin_diff hm hd).1
  have e1 : (y + x) / 2 + (y - x) / 2 = y := by grind
  have e2 : (y + x) / 2 - (y - x) / 2 = x := by grind
  rw [e1, e2] at d
  have cu := C_up (d := 3 / 10000000000) (x := (y + x) / 2) (by grind) (by grind) (by grind) (by grind)
  have sl := (S_lin (x := (y - x) / 2) (by grind) (by grind)).1
  have sb := rabs_le.1 (SC_bd (y := (y - x) / 2) (by grind)).1
  have m1 := Rat.mul_nonneg (show 0 ≤ C ((y + x) / 2) + 302 / 1000000000000 by grind) (show 0 ≤ S ((y - x) / 2) by grind)
  generalize C ((y + x) / 2) = c at *
  generalize S ((y - x) / 2) = s at *
  grind
/-- A greater sine has a greater angle. -/
theorem asin_lt {m n : Int} {D E : Rat} (h : m < n) (hm : Asin m D) (hn : Asin n E) : D ≤ E := by
  by_cases q : D ≤ E
  · exact q
  · exfalso
    have hb := hm.b
    have he := hn.b
    have := sin_mono (x := tq * E) (y := tq * D) (tq_le (by grind)) (by grind) (by grind)
    have a := rabs_le.1 hm.s
    have b := rabs_le.1 hn.s
    have c := icast (show m + 1 ≤ n by omega)
    push_cast at c
    grind
end
section
open Ieee
theorem sq_monoI {a b : Int} (ha : 0 ≤ a) (h : a ≤ b) : a * a ≤ b * b := Int.le_trans (Int.mul_le_mul_of_nonneg_left h ha) (Int.mul_le_mul_of_nonneg_right h (by omega))
def cl9 (n : Int) : Int := min (max n (-1000000000)) 1000000000
def fsqrt (x : Nat) : Nat := (double.sqrt x).getD 0
def asinW (n : Int) : Nat := fmul (fdiv (at2W (fofI n) (fsqrt (fofI ((1000000000 - n) * (1000000000 + n))))) w2Pi) wTurn
/-- What arcSine runs through. -/
structure AsinP (n : Int) (f : Nat) : Prop where
  ex : ∃ x X r d, double.sqrt (fofI ((1000000000 - n) * (1000000000 + n))) = some x ∧ x < 18446744073709551616 ∧ Num (fofI n) (n : Rat) ∧ Num x X ∧ rabs (n : Rat) ≤ 9000000000000000000 ∧ rabs X ≤ 9000000000000000000 ∧ ((n : Rat) = 0 → fofI n = 0) ∧ At2P (fofI n) (n : Rat) x X r ∧ double.div r w2Pi = some d ∧ double.mul d wTurn = some f
theorem asin_run (n : Int) (n1 : -1000000000 ≤ n) (n2 : n ≤ 1000000000) : AsinP n (asinW n) ∧ ∃ D, Num (asinW n) D ∧ Asin n D ∧ AroundP (asinW n) ∧ (arLo (asinW n) : Rat) ≤ D - 9 / 10000 ∧ D - 11 / 10000 < (arLo (asinW n) : Rat) + 1 ∧ D + 9 / 10000 ≤ (arHi (asinW n) : Rat) ∧ (arHi (asinW n) : Rat) < D + 11 / 10000 + 1 := by
  have hn := fofI_num n (by omega) (by omega)
  have c1 : ((1000000000 : Int) : Rat) = 1000000000 := rfl
  have c2 : ((-1000000000 : Int) : Rat) = -1000000000 := rfl
  have N1 := icast n1
  have N2 := icast n2
  rw [c2] at N1
  rw [c1] at N2
  have z0 : rabs 0 = 0 := by decide +kernel
  have rn : rabs (n : Rat) ≤ 9000000000000000000 := rabs_le.2 ⟨by grind, by grind⟩
  have nz : (n : Rat) = 0 → fofI n = 0 := by
    intro h
    have : n = 0 := by exact_mod_cast h
    rw [this]; decide +kernel
  have hmm : (1000000000 - n) * (1000000000 + n) = 1000000000000000000 - n * n := by grind
  have mq : (0 : Int) ≤ n * n := by
    by_cases q : 0 ≤ n
    · exact Int.mul_nonneg q q
    · have := Int.mul_nonneg (show 0 ≤ -n by omega) (show 0 ≤ -n by omega); grind
  have m0 : 0 ≤ (1000000000 - n) * (1000000000 + n) := Int.mul_nonneg (by omega) (by omega)
  have m1 : (1000000000 - n) * (1000000000 + n) ≤ 1000000000000000000 := by omega
  have hmR : (((1000000000 - n) * (1000000000 + n) : Int) : Rat) = 1000000000000000000 - (n : Rat) * n := by rw [hmm]; push_cast; rfl
  -- the root
  obtain ⟨x, X, x1, x2, x3, x4, x5, x6⟩ : ∃ x X, double.sqrt (fofI ((1000000000 - n) * (1000000000 + n))) = some x ∧ x < 18446744073709551616 ∧ Num x X ∧ 0 ≤ X ∧ rabs (X * X - (1000000000000000000 - (n : Rat) * n)) ≤ 10000 ∧ (X = 0 ∨ 1/2 ≤ rabs X) := by
    by_cases h0 : (1000000000 - n) * (1000000000 + n) = 0
    · rw [h0] at hmR ⊢
      refine ⟨0, 0, by decide +kernel, by omega, num_zero, by grind, ?_, .inl rfl⟩
      rw [← hmR]
      have : (0 : Rat) * 0 - ((0 : Int) : Rat) = 0 := by have : ((0 : Int) : Rat) = 0 := rfl
                                                         rw [this]; grind
      rw [this, z0]; grind
    · have hm : 1999999999 ≤ (1000000000 - n) * (1000000000 + n) := by
        have hne : n ≠ 1000000000 ∧ n ≠ -1000000000 := ⟨fun h => h0 (by rw [h]; rfl), fun h => h0 (by rw [h]; rfl)⟩
        have := sq_monoI (a := n.natAbs) (b := 999999999) (by omega) (by omega)
        have e : (n.natAbs : Int) * n.natAbs = n * n := Int.natAbs_mul_self
        omega
      obtain ⟨V, v1, v2, -, -, -⟩ := int_num ((1000000000 - n) * (1000000000 + n)) (by omega) (by omega)
      have M0 := icast hm
      have M1 := icast m1
      have d1 : ((1999999999 : Int) : Rat) = 1999999999 := rfl
      have d2 : ((1000000000000000000 : Int) : Rat) = 1000000000000000000 := rfl
      rw [d1] at M0
      rw [d2] at M1
      generalize (1000000000 - n) * (1000000000 + n) = m at *
      rw [rabs_pos (show 0 ≤ (m : Rat) by grind)] at v2
      have v2 := rabs_le.1 v2
      have p62 : p2 62 = 4611686018427387904 := by decide +kernel
      obtain ⟨r, R, s1, lt, s2, s3, s4⟩ := sqrt_near v1 (by grind) (by rw [p62]; grind)
      have s4 := rabs_le.1 s4
      refine ⟨r, R, s1, by omega, s2, s3, ?_, ?_⟩
      · rw [← hmR]; exact rabs_le.2 ⟨by grind, by grind⟩
      · right
        rw [rabs_pos s3]
        by_cases q : 1/2 ≤ R
        · exact q
        · have := Rat.mul_nonneg s3 (show 0 ≤ 1/2 - R by grind)
          grind
  have x5' := rabs_le.1 x5
  have nn := sq_nonneg (n : Rat)
  have Xb : rabs X ≤ 9000000000000000000 := by
    rw [rabs_pos x4]
    by_cases q : X ≤ 9000000000000000000
    · exact q
    · have := Rat.mul_nonneg (show 0 ≤ X - 9000000000000000000 by grind) x4
      grind
  have hz : (n : Rat) ≠ 0 ∨ X ≠ 0 := by
    by_cases q : (n : Rat) = 0
    · right
      intro h
      rw [h, q] at x5'
      grind
    · exact .inl q
  obtain ⟨r, d, f, D, f1, f2, f3, f4, f5⟩ := dir_run hn x3 x6 Xb rn hz
  have ef : asinW n = f := by
    unfold asinW fsqrt
    rw [x1]
    show fmul (fdiv (at2W (fofI n) x) w2Pi) wTurn = f
    rw [at2W_of hn x3 f1, fdiv_of f2, fmul_of f3]
  have ha := asin_of f5 n1 n2 x4 x5
  have hb := rabs_le.1 f5.b
  have q30 : p2 ((30 : Nat) : Int) = 1073741824 := by decide +kernel
  have n30 : p2 (((30 : Nat) : Int) - 53) ≤ 12 / 100000000 := by decide +kernel
  have t18 : (1 : Rat) / 10 ^ 18 ≤ 1 / 1000000000 := by decide +kernel
  obtain ⟨s1, s2, X1, X2, w1, w2, w3, w4, w5, w6, w7, w8, w9, w10, w11, w12, w13, w14⟩ := around_run 30 (by omega) f4.ap (by rw [q30]; grind) (by rw [q30]; grind)
  rw [ef]
  exact ⟨⟨x, X, r, d, x1, x2, hn, x3, rn, Xb, nz, f1, f2, f3⟩, D, f4, ha, ⟨s1, s2, X1, X2, w1, w2, w3, w4, w5, w6, w7, w8, w9, w10⟩, by grind, by grind, by grind, by grind⟩
end
section
open Ieee
def asLo (a : Int) : Int := max (arLo (asinW (cl9 a))) (-250000000)
def asHi (a : Int) : Int := min (arHi (asinW (cl9 a))) 250000000
/-- A number lies between the sines of two angles. -/
structure AsinOk (lo hi : Int) (z : Rat) : Prop where
  s1 : siU lo ≤ z + 2 / 1000000000
  s2 : z ≤ siU hi + 2 / 1000000000
theorem siU_tq {a : Int} (h1 : -250000000 ≤ a) (h2 : a ≤ 250000000) : rabs (siU a - S (tq * a)) ≤ 1 / 1000000000000 := by
  unfold siU
  rw [angU_tq]
  obtain ⟨m0, m1⟩ := emod_bd a
  have h := sc_shift m0 m1 (θ := tq * a) (by
    by_cases q : 0 ≤ a
    · left; have : a % 1000000000 = a := by omega
      rw [this]
    · right; have : a % 1000000000 = a + 1000000000 := by omega
      rw [this, ← tq_turn]; push_cast; grind)
  have e : S (tq * ((a % 1000000000 : Int) : Rat)) - S (tq * a) = -(S (tq * a) - S (tq * ((a % 1000000000 : Int) : Rat))) := by grind
  rw [e, rabs_neg]
  exact h.1
theorem tq_quarter : tq * 250000000 = piQ / 2 := by decide +kernel
theorem tq_rng {a : Int} (h1 : -250000000 ≤ a) (h2 : a ≤ 250000000) : rabs (tq * a) ≤ piQ / 2 := by
  have c1 : ((250000000 : Int) : Rat) = 250000000 := rfl
  have c2 : ((-250000000 : Int) : Rat) = -250000000 := rfl
  have a1 := tq_le (icast h1)
  have a2 := tq_le (icast h2)
  rw [c2] at a1
  rw [c1, tq_quarter] at a2
  have e : tq * -250000000 = -(piQ / 2) := by rw [← tq_quarter]; grind
  rw [e] at a1
  exact rabs_le.2 ⟨a2, a1⟩
theorem cl9_rng (n : Int) : -1000000000 ≤ cl9 n ∧ cl9 n ≤ 1000000000 := by unfold cl9; omega
theorem at_ends : rabs (siU (-250000000) + 1) ≤ 1 / 1000000000000 ∧ rabs (siU 250000000 - 1) ≤ 1 / 1000000000000 := by decide +kernel
theorem asD_rng {n : Int} {D : Rat} (h : Asin n D) : D ≤ 250000000 + 4/100 ∧ -(250000000 + 4/100) ≤ D := by
  obtain ⟨t1, t2, -⟩ := tq_num
  have hb := rabs_le.1 h.b
  have tz : (0 : Rat) < tq := by grind
  have lim : piQ / 2 + 2 / 10000000000 ≤ tq * (250000000 + 4/100) := by decide +kernel
  have g : ∀ {z : Rat}, tq * z ≤ tq * (250000000 + 4/100) → z ≤ 250000000 + 4/100 := fun h => Rat.le_of_mul_le_mul_left h tz
  exact ⟨g (by grind), by have := g (z := -D) (by grind); grind⟩
theorem as_bounds (a : Int) : -250000000 ≤ asLo a ∧ asLo a ≤ 250000000 ∧ -250000000 ≤ asHi a ∧ asHi a ≤ 250000000 ∧ asHi a - asLo a ≤ 3 := by
  obtain ⟨n1, n2⟩ := cl9_rng a
  obtain ⟨-, D, -, ha, -, l1, l2, h1, h2⟩ := asin_run (cl9 a) n1 n2
  obtain ⟨d1, d2⟩ := asD_rng ha
  unfold asLo asHi
  have c1 : ((250000000 : Int) : Rat) = 250000000 := rfl
  have c2 : ((-250000000 : Int) : Rat) = -250000000 := rfl
  have c3 : ((3 : Int) : Rat) = 3 := rfl
  generalize arLo (asinW (cl9 a)) = lo at *
  generalize arHi (asinW (cl9 a)) = hi at *
  have u1 : lo ≤ 250000000 := int_of_rat (x := D - 9/10000) l1 (by rw [c1]; grind)
  have u2 : -250000000 ≤ hi := int_of_rat (x := D + 9/10000 + 1/2) (by rw [c2]; grind) (by grind)
  have u3 : hi - lo ≤ 3 := by
    have : ((hi - lo : Int) : Rat) ≤ ((3 : Int) : Rat) := by rw [c3]; push_cast; grind
    exact Rat.intCast_le_intCast.1 this
  omega
theorem as_low (a : Int) {z : Rat} (hz : (cl9 a : Rat) / 1000000000 ≤ z) : siU (asLo a) ≤ z + 2 / 1000000000 := by
  obtain ⟨n1, n2⟩ := cl9_rng a
  obtain ⟨-, D, -, ha, -, l1, l2, h1, h2⟩ := asin_run (cl9 a) n1 n2
  obtain ⟨b1, b2, -, -, -⟩ := as_bounds a
  have hs := rabs_le.1 ha.s
  have hb := ha.b
  have c2 : ((-1000000000 : Int) : Rat) = -1000000000 := rfl
  have N1 := icast n1
  rw [c2] at N1
  rcases (show asLo a = -250000000 ∨ asLo a = arLo (asinW (cl9 a)) by unfold asLo; omega) with h | h
  · rw [h]
    have := rabs_le.1 at_ends.1
    grind
  · have st := rabs_le.1 (siU_tq b1 b2)
    have mono := sin_mono (x := tq * (asLo a : Rat)) (y := tq * D) (tq_le (by rw [h]; grind)) (by have := tq_rng b1 b2; grind) (by grind)
    grind
theorem as_high (a : Int) {z : Rat} (hz : z ≤ (cl9 a : Rat) / 1000000000) : z ≤ siU (asHi a) + 2 / 1000000000 := by
  obtain ⟨n1, n2⟩ := cl9_rng a
  obtain ⟨-, D, -, ha, -, l1, l2, h1, h2⟩ := asin_run (cl9 a) n1 n2
  obtain ⟨-, -, b1, b2, -⟩ := as_bounds a
  have hs := rabs_le.1 ha.s
  have hb := ha.b
  have c1 : ((1000000000 : Int) : Rat) = 1000000000 := rfl
  have N2 := icast n2
  rw [c1] at N2
  rcases (show asHi a = 250000000 ∨ asHi a = arHi (asinW (cl9 a)) by unfold asHi; omega) with h | h
  · rw [h]
    have := rabs_le.1 at_ends.2
    grind
  · have st := rabs_le.1 (siU_tq b1 b2)
    have mono := sin_mono (x := tq * D) (y := tq * (asHi a : Rat)) (tq_le (by rw [h]; grind)) (by grind) (by have := tq_rng b1 b2; grind)
    grind
theorem as_order {a b : Int} (h : a ≤ b) : asLo a ≤ asHi b := by
  obtain ⟨n1, n2⟩ := cl9_rng a
  obtain ⟨m1, m2⟩ := cl9_rng b
  have r1 := as_bounds a
  have r2 := as_bounds b
  by_cases q : cl9 a = cl9 b
  · have e : asHi b = asHi a := by unfold asHi; rw [q]
    rw [e]
    obtain ⟨-, D, -, ha, -, l1, l2, h1, h2⟩ := asin_run (cl9 a) n1 n2
    have : arLo (asinW (cl9 a)) ≤ arHi (asinW (cl9 a)) := int_of_rat (x := D) (by grind) (by grind)
    unfold asLo asHi at *
    omega
  · obtain ⟨-, D, -, ha, -, l1, l2, h1, h2⟩ := asin_run (cl9 a) n1 n2
    obtain ⟨-, E, -, hb, -, k1, k2, j1, j2⟩ := asin_run (cl9 b) m1 m2
    have lt : cl9 a < cl9 b := by unfold cl9 at *; omega
    have := asin_lt lt ha hb
    have : arLo (asinW (cl9 a)) ≤ arHi (asinW (cl9 b)) := int_of_rat (x := D) (by grind) (by grind)
    unfold asLo asHi at *
    omega
/-- A number of units in the reference's unit. -/
def fu (n : Int) : Int := n * 1152921504 + (n * 606846976).tdiv 1000000000
theorem fu_near (n : Int) : rabs ((fu n : Rat) - uQ * ((n : Rat) / 1000000000)) ≤ 2 := by
  have h := tdiv_near (n * 606846976) 1000000000 (by decide)
  have c1 : ((1000000000 : Int) : Rat) = 1000000000 := rfl
  rw [c1] at h
  unfold fu
  have hu : uQ = 1152921504606846976 := rfl
  rw [hu, rabs_le]
  push_cast at h ⊢
  constructor <;> grind
/-- What InArcSin asks. -/
def InAsin (lo hi z : Int) : Prop := (sc (lo % 1000000000 * 1000000)).1 ≤ z + 4294967296 ∧ z ≤ (sc (hi % 1000000000 * 1000000)).1 + 4294967296
theorem inAsin_of {lo hi z : Int} {x : Rat} (hz : rabs ((z : Rat) - uQ * x) ≤ 100000000) (s1 : siU lo ≤ x + 3 / 1000000000) (s2 : x ≤ siU hi + 3 / 1000000000) : InAsin lo hi z := by
  obtain ⟨m0, m1⟩ := emod_bd lo
  obtain ⟨k0, k1⟩ := emod_bd hi
  have g1 := rabs_le.1 (sc_ang m0 m1).1
  have g2 := rabs_le.1 (sc_ang k0 k1).1
  have hz := rabs_le.1 hz
  have hu : uQ = 1152921504606846976 := rfl
  unfold siU at s1 s2
  have r : ∀ {p q : Int}, (p : Rat) ≤ (q : Rat) → p ≤ q := fun h => Rat.intCast_le_intCast.1 h
  rw [hu] at g1 g2 hz
  constructor
  · apply r; push_cast; grind
  · apply r; push_cast; grind
end
end Go.Proofs.YtcgnhnmigmdalaaGreatDoor
