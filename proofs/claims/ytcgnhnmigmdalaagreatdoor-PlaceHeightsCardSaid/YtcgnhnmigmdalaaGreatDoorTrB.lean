/- What math.atan2 answers at two words, and the angle of a direction. No program in sight. Signs of words. No program in sight. The arc functions as plain functions of words. No program in sight. The interval of an arc holds the directions of the corners. No program in sight. What trig.Arc runs through, and what its interval holds. No program in sight. The square root in floating point is near the root. No program in sight. -/
import Derived.Test.YtcgnhnmigmdalaaGreatDoorTrA
import Derived.Test.YtcgnhnmigmdalaaGreatDoorFltC
set_option linter.unusedVariables false
set_option linter.unusedSimpArgs false
namespace Go.Proofs.YtcgnhnmigmdalaaGreatDoor
section
open Ieee
/-- A power of two that is near to a number. -/
theorem pow_near (v : Rat) (hv : 0 ≤ v) : ∀ n : Nat, 2 * v ≤ p2 (n : Int) → ∃ K, K ≤ n ∧ 2 * v ≤ p2 (K : Int) ∧ p2 (K : Int) ≤ 4 * v + 2
  | 0, h => ⟨0, Nat.le_refl _, h, by have e : p2 ((0 : Nat) : Int) = 1 := by decide +kernel
                                     rw [e]; grind⟩
  | n + 1, h => by
    by_cases q : 2 * v ≤ p2 (n : Int)
    · obtain ⟨K, k1, k2, k3⟩ := pow_near v hv n q
      exact ⟨K, by omega, k2, k3⟩
    · refine ⟨n + 1, Nat.le_refl _, h, ?_⟩
      have e : p2 ((n + 1 : Nat) : Int) = 2 * p2 (n : Int) := by
        have : ((n + 1 : Nat) : Int) = (n : Int) + 1 := by omega
        rw [this, p2_add]
        have : p2 1 = 2 := by decide +kernel
        rw [this]; grind
      rw [e]; grind
theorem p2_err (K : Nat) : p2 ((K : Int) - 53) ≤ p2 (K : Int) * (12 / 100000000000000000) ∧ p2 ((K : Int) - 54) ≤ p2 (K : Int) * (6 / 100000000000000000) := by
  have h := p2_pos (K : Int)
  have e1 : p2 (-53) ≤ 12 / 100000000000000000 := by decide +kernel
  have e2 : p2 (-54) ≤ 6 / 100000000000000000 := by decide +kernel
  have a1 : (K : Int) - 53 = (K : Int) + (-53) := by omega
  have a2 : (K : Int) - 54 = (K : Int) + (-54) := by omega
  rw [a1, a2, p2_add, p2_add]
  have m1 := Rat.mul_le_mul_of_nonneg_left e1 (Rat.le_of_lt h)
  have m2 := Rat.mul_le_mul_of_nonneg_left e2 (Rat.le_of_lt h)
  exact ⟨m1, m2⟩
theorem rabs_inv {x : Rat} (h : x ≠ 0) : rabs x⁻¹ * rabs x = 1 := by
  rw [← rabs_mul]
  have := Rat.mul_inv_cancel x h
  have e : x⁻¹ * x = 1 := by grind
  rw [e]; decide +kernel
theorem fneg_num {w : Nat} {X : Rat} (h : Num w X) : Num (fneg w) (-X) := (fneg_ap h.ap).num0
theorem rabs_zero {x : Rat} (h : rabs x ≤ 0) : x = 0 := by have := rabs_le.1 h; grind
theorem quo_run {y x : Nat} {Y X : Rat} (ny : Num y Y) (nx : Num x X) (x1 : 1/2 ≤ rabs X) (y2 : rabs Y ≤ 9000000000000000000) :
    ∃ q V, double.div y x = some q ∧ Num q V ∧ rabs (V * X - Y) ≤ 1 / 100000000000000 * (rabs X + rabs Y) ∧ rabs V ≤ 40000000000000000000 := by
  obtain ⟨s, m, i, h1, h2⟩ := ny
  obtain ⟨t, n, j, g1, g2⟩ := nx
  have hX0 : X ≠ 0 := by
    intro h
    rw [h] at x1
    have : rabs 0 = 0 := by decide +kernel
    rw [this] at x1
    grind
  have hn : n ≠ 0 := by
    rintro rfl
    unfold rv at g2
    simp at g2
    exact hX0 g2.symm
  have iv := rabs_inv hX0
  have i0 := rabs_nonneg X⁻¹
  have i2 : rabs X⁻¹ ≤ 2 := by
    have := Rat.mul_nonneg i0 (show 0 ≤ rabs X - 1/2 by grind)
    grind
  have hv : rabs (Y / X) = rabs Y * rabs X⁻¹ := by rw [Rat.div_def, rabs_mul]
  have v0 := rabs_nonneg (Y / X)
  have y0 := rabs_nonneg Y
  have v1 : rabs (Y / X) ≤ 18000000000000000000 := by
    rw [hv]
    have m1 := Rat.mul_le_mul_of_nonneg_left i2 y0
    grind
  have hXq : rabs X * rabs (Y / X) = rabs Y := by rw [hv]; grind
  have p66 : (2 : Rat) * 18000000000000000000 ≤ p2 ((66 : Nat) : Int) := by decide +kernel
  obtain ⟨K, k1, k2, k3⟩ := pow_near (rabs (Y / X)) v0 66 (by grind)
  obtain ⟨e1, e2⟩ := p2_err K
  have vv := rabs_le.1 (show rabs (Y / X) ≤ rabs (Y / X) from Rat.le_refl)
  have pk := p2_pos (K : Int)
  have p1 : 1 ≤ p2 (K : Int) := by
    have := p2_mono (a := 0) (b := (K : Int)) (by omega)
    rw [p2_zero] at this
    exact this
  obtain ⟨r, r1, r2⟩ := div_val (s := s) (t := t) (m := m) (n := n) (i := i) (j := j) K (by omega) h1 g1 hn (by rw [h2, g2]; grind) (by rw [h2, g2]; grind)
  rw [h2, g2] at r2
  obtain ⟨V, n1, n2, n3⟩ := r2.num
  have err : rabs (V - Y / X) ≤ 8 / 10000000000000000 * (1 + rabs (Y / X)) := rabs_le.2 ⟨by grind, by grind⟩
  refine ⟨r, V, r1, n1, ?_, ?_⟩
  · have m1 := mul_rabs (show rabs X ≤ rabs X from Rat.le_refl) err
    have e : X * (V - Y / X) = V * X - Y := by
      have : X * (Y / X) = Y := by rw [Rat.div_def]; have := Rat.mul_inv_cancel X hX0; grind
      grind
    rw [e] at m1
    have e3 : rabs X * (8 / 10000000000000000 * (1 + rabs (Y / X))) = 8 / 10000000000000000 * (rabs X + rabs X * rabs (Y / X)) := by grind
    rw [e3, hXq] at m1
    have x0 := rabs_nonneg X
    grind
  · have t := rabs_add (V - Y / X) (Y / X)
    have e : V - Y / X + Y / X = V := by grind
    rw [e] at t
    grind
/-- What math.atan runs through. -/
def AtanP (q : Nat) (V : Rat) (r : Nat) : Prop := (V = 0 ∧ r = q) ∨ (0 < V ∧ SatP q V r) ∨ (V < 0 ∧ ∃ s, SatP (fneg q) (-V) s ∧ r = fneg s)
theorem atan_run {q : Nat} {V : Rat} (hq : Num q V) : ∃ r θ, AtanP q V r ∧ Ap r θ (3 / 10000000000000) ∧ TanS V θ := by
  by_cases h0 : V = 0
  · refine ⟨q, 0, .inl ⟨h0, rfl⟩, ?_, ?_⟩
    · subst h0; exact hq.ap.mono (by grind)
    · subst h0
      have e1 : S 0 = 0 := by decide +kernel
      have e2 : C 0 = 1 := by decide +kernel
      have e3 : rabs 0 = 0 := by decide +kernel
      have hp := pi_num
      refine ⟨?_, ?_, by grind, by grind⟩
      · rw [e1, e2]; decide +kernel
      · rw [e1, e2, e3]; decide +kernel
  by_cases h1 : 0 < V
  · obtain ⟨r, a, s1, s2, s3⟩ := sat_run hq (Rat.le_of_lt h1)
    exact ⟨r, a, .inr (.inl ⟨h1, s1⟩), s2, s3.pos (Rat.le_of_lt h1)⟩
  · have h2 : V < 0 := by grind
    obtain ⟨r, a, s1, s2, s3⟩ := sat_run (fneg_num hq) (show 0 ≤ -V by grind)
    have t := s3.neg (show 0 ≤ -V by grind)
    have e : - -V = V := by grind
    rw [e] at t
    exact ⟨fneg r, -a, .inr (.inr ⟨h2, r, s1, rfl⟩), fneg_ap s2, t⟩
/-- What math.atan2 runs through. -/
def At2P (y : Nat) (Y : Rat) (x : Nat) (X : Rat) (r : Nat) : Prop :=
  (Y = 0 ∧ 0 < X ∧ r = 0) ∨ (Y = 0 ∧ X < 0 ∧ r = wPiA) ∨ (X = 0 ∧ 0 < Y ∧ r = wPi2) ∨ (X = 0 ∧ Y < 0 ∧ r = fneg wPi2) ∨
  (Y ≠ 0 ∧ X ≠ 0 ∧ ∃ q V a v, double.div y x = some q ∧ Num q V ∧ rabs V ≤ 40000000000000000000 ∧ AtanP q V a ∧ Num a v ∧ ((0 < X ∧ r = a) ∨ (X < 0 ∧ v ≤ 0 ∧ double.add a wPiA = some r) ∨ (X < 0 ∧ 0 < v ∧ double.sub a wPiA = some r)))
theorem S0C0 : S 0 = 0 ∧ C 0 = 1 := by decide +kernel
theorem at2_run {y x : Nat} {Y X : Rat} (ny : Num y Y) (nx : Num x X) (x1 : X = 0 ∨ 1/2 ≤ rabs X) (x2 : rabs X ≤ 9000000000000000000) (y2 : rabs Y ≤ 9000000000000000000) (h0 : Y ≠ 0 ∨ X ≠ 0) :
    ∃ r θ, At2P y Y x X r ∧ Ap r θ (33 / 100000000000000) ∧ Dir X Y θ := by
  have hp := pi_num
  obtain ⟨c1, c2⟩ := S0C0
  obtain ⟨p1, p2', p3, p4, -⟩ := at_pi
  obtain ⟨w1, w2, w3, w4, w5, w6⟩ := sat_ap
  have e0 : rabs 0 = 0 := by decide +kernel
  by_cases hX : X = 0
  · have hY : Y ≠ 0 := by rcases h0 with h | h; exact h; exact absurd hX h
    by_cases hy : 0 < Y
    · refine ⟨wPi2, piQ / 2, .inr (.inr (.inl ⟨hX, hy, rfl⟩)), w1.mono (by grind), ?_⟩
      have ry := rabs_pos (Rat.le_of_lt hy)
      subst hX
      have m1 := rabs_le.1 (mul_rabs (show rabs Y ≤ Y by grind) p4)
      have m2 := rabs_le.1 (mul_rabs (show rabs Y ≤ Y by grind) p3)
      refine ⟨?_, ?_, rabs_le.2 ⟨by grind, by grind⟩⟩
      · rw [e0, ry, rabs_le]; constructor <;> grind
      · rw [e0, ry]; grind
    · have hy : Y < 0 := by grind
      refine ⟨fneg wPi2, -(piQ / 2), .inr (.inr (.inr (.inl ⟨hX, hy, rfl⟩))), (fneg_ap w1).mono (by grind), ?_⟩
      have ry : rabs Y = -Y := by unfold rabs; rw [if_neg (by grind)]
      subst hX
      have m1 := rabs_le.1 (mul_rabs (show rabs Y ≤ -Y by grind) p4)
      have m2 := rabs_le.1 (mul_rabs (show rabs Y ≤ -Y by grind) p3)
      refine ⟨?_, ?_, rabs_le.2 ⟨by grind, by grind⟩⟩
      · rw [S_neg, C_neg, e0, ry, rabs_le]; constructor <;> grind
      · rw [S_neg, C_neg, e0, ry]; grind
  have x1 : 1/2 ≤ rabs X := by rcases x1 with h | h; exact absurd h hX; exact h
  by_cases hY : Y = 0
  · subst hY
    by_cases hx : 0 < X
    · refine ⟨0, 0, .inl ⟨rfl, hx, rfl⟩, num_zero.ap.mono (by grind), ?_⟩
      have rx := rabs_pos (Rat.le_of_lt hx)
      refine ⟨?_, ?_, by rw [e0]; grind⟩
      · rw [c1, c2, e0, rx, rabs_le]; constructor <;> grind
      · rw [c1, c2, e0, rx]; grind
    · have hx : X < 0 := by grind
      refine ⟨wPiA, piQ, .inr (.inl ⟨rfl, hx, rfl⟩), w5.mono (by grind), ?_⟩
      have rx : rabs X = -X := by unfold rabs; rw [if_neg (by grind)]
      have m1 := rabs_le.1 (mul_rabs (show rabs X ≤ -X by grind) p1)
      have m2 := rabs_le.1 (mul_rabs (show rabs X ≤ -X by grind) p2')
      refine ⟨?_, ?_, rabs_le.2 ⟨by grind, by grind⟩⟩
      · rw [e0, rx, rabs_le]; constructor <;> grind
      · rw [e0, rx]; grind
  · obtain ⟨q, V, q1, q2, q3, q4⟩ := quo_run ny nx x1 y2
    obtain ⟨a, θ, a1, a2, a3⟩ := atan_run q2
    obtain ⟨v, v1, v2, v3⟩ := a2.num
    have b0 := a3.a0
    have b1 := a3.a1
    by_cases hx : 0 < X
    · exact ⟨a, θ, .inr (.inr (.inr (.inr ⟨hY, hX, q, V, a, v, q1, q2, q4, a1, v1, .inl ⟨hx, rfl⟩⟩))), a2.mono (by grind), a3.dir1 hx q3⟩
    · have hx : X < 0 := by grind
      have q3' : rabs (V * -X - -Y) ≤ 1 / 100000000000000 * (rabs (-X) + rabs (-Y)) := by
        have e : V * -X - -Y = -(V * X - Y) := by grind
        rw [e, rabs_neg, rabs_neg, rabs_neg]; exact q3
      obtain ⟨d1, d2⟩ := a3.dir (X := -X) (Y := -Y) (by grind) q3'
      have k2 : p2 ((3 : Nat) : Int) = 8 := by decide +kernel
      have nm2 : p2 (((3 : Nat) : Int) - 53) ≤ 96 / 100000000000000000 := by decide +kernel
      rw [rabs_neg, rabs_neg] at d1
      by_cases hv : v ≤ 0
      · obtain ⟨r, f1, f2⟩ := add_ap 3 (by omega) a2 w5 (by rw [k2]; grind) (by rw [k2]; grind)
        have e : θ + piQ = θ + 1 * piQ := by grind
        refine ⟨r, θ + 1 * piQ, .inr (.inr (.inr (.inr ⟨hY, hX, q, V, a, v, q1, q2, q4, a1, v1, .inr (.inl ⟨hx, hv, f1⟩)⟩))), ?_, Dir.half d2 1 (.inl rfl) (rabs_le.2 ⟨by grind, by grind⟩) d1.1 d1.2⟩
        rw [e] at f2
        exact f2.mono (by grind)
      · obtain ⟨r, f1, f2⟩ := sub_ap 3 (by omega) a2 w5 (by rw [k2]; grind) (by rw [k2]; grind)
        have e : θ - piQ = θ + -1 * piQ := by grind
        refine ⟨r, θ + -1 * piQ, .inr (.inr (.inr (.inr ⟨hY, hX, q, V, a, v, q1, q2, q4, a1, v1, .inr (.inr ⟨hx, by grind, f1⟩)⟩))), ?_, Dir.half d2 (-1) (.inr rfl) (rabs_le.2 ⟨by grind, by grind⟩) d1.1 d1.2⟩
        rw [e] at f2
        exact f2.mono (by grind)
/-- The units of angles in radians. -/
def tq : Rat := 2 * piQ / 1000000000
/-- The direction of a pair of numbers, by an angle in units. -/
structure Head (X Y D : Rat) : Prop where
  n : rabs (X * S (tq * D) - Y * C (tq * D)) ≤ 128 / 100000000000000 * (rabs X + rabs Y)
  p : (rabs X + rabs Y) / 5 ≤ X * C (tq * D) + Y * S (tq * D)
  b : rabs D ≤ 500000000 + 1 / 100
def w2Pi : Nat := 4618760256179416344
theorem tq_num : 628318 / 100000000000000 ≤ tq ∧ tq ≤ 628319 / 100000000000000 ∧ rabs (tq * 1000000000 - cv w2Pi) ≤ 1 / 1000000000000000 ∧ rabs (tq * (500000000 + 1 / 100)) ≤ 31416 / 10000 + 1/100000 ∧ 62831/10000 ≤ cv w2Pi ∧ cv w2Pi ≤ 62832/10000 ∧ cv wTurn = 1000000000 ∧ tq * 500000000 = piQ := by decide +kernel
theorem dir_run {y x : Nat} {Y X : Rat} (ny : Num y Y) (nx : Num x X) (x1 : X = 0 ∨ 1/2 ≤ rabs X) (x2 : rabs X ≤ 9000000000000000000) (y2 : rabs Y ≤ 9000000000000000000) (h0 : Y ≠ 0 ∨ X ≠ 0) :
    ∃ r d f D, At2P y Y x X r ∧ double.div r w2Pi = some d ∧ double.mul d wTurn = some f ∧ Num f D ∧ Head X Y D := by
  obtain ⟨r, θ, a1, a2, a3⟩ := at2_run ny nx x1 x2 y2 h0
  obtain ⟨t1, t2, t3, t4, t5, t6, t7, t8⟩ := tq_num
  have hp := pi_num
  have hb := rabs_le.1 a3.b
  have k0 : p2 ((0 : Nat) : Int) = 1 := by decide +kernel
  have nn : p2 (((0 : Nat) : Int) - 53) ≤ 12 / 100000000000000000 := by decide +kernel
  have nn1 : p2 (((0 : Nat) : Int) - 54) ≤ 12 / 100000000000000000 := by decide +kernel
  have k30 : p2 ((30 : Nat) : Int) = 1073741824 := by decide +kernel
  have n30 : p2 (((30 : Nat) : Int) - 53) ≤ 2 / 10000000 := by decide +kernel
  have cw := cv_ap (show isNum w2Pi = true by decide +kernel)
  have ct := cv_ap (show isNum wTurn = true by decide +kernel)
  rw [t7] at ct
  have hw0 : cv w2Pi ≠ 0 := by grind
  have iw := Rat.mul_inv_cancel (cv w2Pi) hw0
  have iw0 : 0 < (cv w2Pi)⁻¹ := Rat.inv_pos.2 (by grind)
  have hθ : θ / cv w2Pi * cv w2Pi = θ := Rat.div_mul_cancel hw0
  have hM : rabs (θ / cv w2Pi) ≤ 51/100 := by
    rw [Rat.div_def, rabs_le]
    have m1 := Rat.mul_nonneg (show 0 ≤ 51/100 * cv w2Pi - θ by grind) (Rat.le_of_lt iw0)
    have m2 := Rat.mul_nonneg (show 0 ≤ 51/100 * cv w2Pi + θ by grind) (Rat.le_of_lt iw0)
    constructor <;> grind
  obtain ⟨d, d1, d2⟩ := div_ap 6 (51/100) 0 (by omega) a2 cw (by grind) (by grind) hM (by rw [k0]; grind)
  have d2 := d2.mono (e' := 57 / 1000000000000000) (by grind)
  have M1 := rabs_le.1 hM
  obtain ⟨f, f1, f2⟩ := mul_ap (51/100) 1000000000 30 (by omega) d2 ct M1.1 M1.2 (by grind) (by grind) (by rw [k30]; grind)
  have f2 := f2.mono (e' := 58 / 1000000) (by grind)
  obtain ⟨D, n1, n2, n3⟩ := f2.num
  refine ⟨r, d, f, D, a1, d1, f1, n1, ?_⟩
  generalize hq : θ / cv w2Pi = Q at *
  have m3 := rabs_le.1 (mul_rabs hM t3)
  have e3 : Q * (tq * 1000000000 - cv w2Pi) = tq * (Q * 1000000000) - θ := by grind
  rw [e3] at m3
  have dd : rabs (D - Q * 1000000000) ≤ 58 / 1000000 := rabs_le.2 ⟨by grind, by grind⟩
  have m4 := rabs_le.1 (mul_rabs (show rabs tq ≤ 628319 / 100000000000000 from rabs_le.2 ⟨by grind, by grind⟩) dd)
  have near : rabs (tq * D - θ) ≤ 37 / 100000000000000 := by
    rw [rabs_le]
    constructor <;> grind
  have near1 := rabs_le.1 near
  have db : rabs D ≤ 500000000 + 1 / 100 := by
    have g : ∀ {z : Rat}, tq * z ≤ piQ + 13 / 1000000000000 → z ≤ 500000000 + 1/100 := by
      intro z hz
      by_cases q : z ≤ 500000000 + 1/100
      · exact q
      · exfalso
        have m := Rat.mul_nonneg (show 0 ≤ tq by grind) (show 0 ≤ z - (500000000 + 1/100) by grind)
        clear near near1 m4 m3 hM hθ iw iw0 e3 dd n2 n3 d2 f2 a2
        grind
    exact rabs_le.2 ⟨g (by grind), by have := g (z := -D) (by grind); grind⟩
  have lip := sin_lipQ (x := tq * D) (y := θ) (rabs_le.2 ⟨by grind, by grind⟩) (rabs_le.2 ⟨by grind, by grind⟩)
  have l1 : rabs (S (tq * D) - S θ) ≤ 40 / 100000000000000 := by grind
  have l2 : rabs (C (tq * D) - C θ) ≤ 40 / 100000000000000 := by grind
  have g1 := rabs_le.1 (mul_rabs (show rabs X ≤ rabs X from Rat.le_refl) l1)
  have g2 := rabs_le.1 (mul_rabs (show rabs X ≤ rabs X from Rat.le_refl) l2)
  have g3 := rabs_le.1 (mul_rabs (show rabs Y ≤ rabs Y from Rat.le_refl) l1)
  have g4 := rabs_le.1 (mul_rabs (show rabs Y ≤ rabs Y from Rat.le_refl) l2)
  have b1 := rabs_le.1 a3.n
  have b2 := a3.p
  have x0 := rabs_nonneg X
  have y0 := rabs_nonneg Y
  clear lip l1 l2 m4 m3 e3 dd near near1 hM hθ iw iw0 t3 t4 x1 x2 y2 h0 n2 n3 d2 f2 a2 M1 hb
  refine ⟨?_, ?_, db⟩
  all_goals
    generalize S (tq * D) = s at *
    generalize C (tq * D) = c at *
    generalize rabs X = ax at *
    generalize rabs Y = ay at *
  · rw [rabs_le]
    constructor <;> grind
  · grind
/-- A whole number in floating point, up to a part of itself. -/
theorem int_num (n : Int) (h1 : -2000000000000000000 ≤ n) (h2 : n ≤ 2000000000000000000) : ∃ N, Num (fofI n) N ∧ rabs (N - (n : Rat)) ≤ 1 / 1000000000000000 * rabs (n : Rat) ∧ (n = 0 → N = 0 ∧ fofI n = 0) ∧ (n ≠ 0 → 1/2 ≤ rabs N) ∧ rabs N ≤ 3000000000000000000 := by
  have r1 : ((-2000000000000000000 : Int) : Rat) ≤ (n : Rat) := Rat.intCast_le_intCast.2 h1
  have r2 : (n : Rat) ≤ ((2000000000000000000 : Int) : Rat) := Rat.intCast_le_intCast.2 h2
  have c1 : ((-2000000000000000000 : Int) : Rat) = -2000000000000000000 := rfl
  have c2 : ((2000000000000000000 : Int) : Rat) = 2000000000000000000 := rfl
  rw [c1] at r1
  rw [c2] at r2
  by_cases h0 : n = 0
  · subst h0
    have e : fofI 0 = 0 := by decide +kernel
    have e2 : ((0 : Int) : Rat) = 0 := rfl
    have e3 : rabs 0 = 0 := by decide +kernel
    refine ⟨0, by rw [e]; exact num_zero, ?_, fun _ => ⟨rfl, e⟩, fun h => absurd rfl h, by rw [e3]; decide +kernel⟩
    rw [e2]; decide +kernel
  · have hb : rabs (n : Rat) ≤ 2000000000000000000 := rabs_le.2 ⟨r2, r1⟩
    have n1 : 1 ≤ rabs (n : Rat) := by
      unfold rabs
      split
      · rename_i h
        have : (0 : Int) ≤ n := by exact_mod_cast h
        have : (1 : Int) ≤ n := by omega
        have := Rat.intCast_le_intCast.2 this
        exact this
      · rename_i h
        have : ¬ (0 : Int) ≤ n := fun q => h (by exact_mod_cast q)
        have : n ≤ (-1 : Int) := by omega
        have := Rat.intCast_le_intCast.2 this
        have c : ((-1 : Int) : Rat) = -1 := rfl
        rw [c] at this
        grind
    have nn := rabs_le.1 (show rabs (n : Rat) ≤ rabs (n : Rat) from Rat.le_refl)
    have p63 : (2 : Rat) * 2000000000000000000 ≤ p2 ((63 : Nat) : Int) := by decide +kernel
    obtain ⟨K, k1, k2, k3⟩ := pow_near (rabs (n : Rat)) (rabs_nonneg _) 63 (by grind)
    obtain ⟨e1, e2⟩ := p2_err K
    obtain ⟨N, m1, m2, m3⟩ := (fofI_ap n K (by omega) (by grind) (by grind)).num
    have err : rabs (N - (n : Rat)) ≤ 1 / 1000000000000000 * rabs (n : Rat) := rabs_le.2 ⟨by grind, by grind⟩
    refine ⟨N, m1, err, fun h => absurd h h0, fun _ => ?_, ?_⟩
    · have t := rabs_add ((n : Rat) - N) N
      have e : (n : Rat) - N + N = n := by grind
      have e5 : rabs ((n : Rat) - N) = rabs (N - (n : Rat)) := by
        have : (n : Rat) - N = -(N - (n : Rat)) := by grind
        rw [this, rabs_neg]
      rw [e, e5] at t
      grind
    · have t := rabs_add (N - (n : Rat)) n
      have e : N - (n : Rat) + n = N := by grind
      rw [e] at t
      grind
end
section
open Ieee
theorem sign_neg {x : Nat} {X : Rat} (h : Num x X) (h0 : X < 0) : 9223372036854775808 ≤ x := by
  by_cases q : 9223372036854775808 ≤ x
  · exact q
  · exfalso
    obtain ⟨s, m, p, h1, h2⟩ := h
    have hs := sign_of (by omega) h1
    subst hs
    have := mp_nonneg m p
    unfold rv at h2
    simp at h2
    grind
theorem fneg_hi {x : Nat} (h : 9223372036854775808 ≤ x) (hx : x < 18446744073709551616) : fneg x = x - 9223372036854775808 := by
  unfold fneg
  have h1 : x ^^^ 9223372036854775808 < 2 ^ 64 := Nat.xor_lt_two_pow (by omega) (by omega)
  have a := Nat.xor_mod_two_pow (a := x) (b := 2^63) (n := 63)
  have b := Nat.xor_div_two_pow (a := x) (b := 2^63) (n := 63)
  rw [show x / 2^63 = 1 by omega] at b
  simp at a b
  omega
theorem and63 {x : Nat} (hx : x < 18446744073709551616) : x &&& 9223372036854775808 = if 9223372036854775808 ≤ x then 9223372036854775808 else 0 := by
  have a := Nat.and_mod_two_pow (a := x) (b := 2^63) (n := 63)
  have b := Nat.and_div_two_pow (a := x) (b := 2^63) (n := 63)
  simp at a b
  split
  · rw [show x / 9223372036854775808 = 1 by omega] at b
    simp at b
    omega
  · rw [show x / 9223372036854775808 = 0 by omega] at b
    simp at b
    omega
/-- The word without its sign. -/
theorem abs_num {x : Nat} {X : Rat} (h : Num x X) (hx : x < 18446744073709551616) : Num (x % 9223372036854775808) (rabs X) := by
  by_cases q : x < 9223372036854775808
  · rw [Nat.mod_eq_of_lt q]
    obtain ⟨s, m, p, h1, h2⟩ := h
    have hs := sign_of q h1
    subst hs
    have := mp_nonneg m p
    have e : rabs X = X := rabs_pos (by unfold rv at h2; simp at h2; grind)
    rw [e]
    exact ⟨_, _, _, h1, h2⟩
  · have e : x % 9223372036854775808 = fneg x := by rw [fneg_hi (by omega) hx]; omega
    rw [e]
    have g := fneg_num h
    have lt : fneg x < 9223372036854775808 := by rw [← e]; omega
    obtain ⟨s, m, p, h1, h2⟩ := g
    have hs := sign_of lt h1
    subst hs
    have := mp_nonneg m p
    have e2 : rabs X = -X := by rw [← rabs_neg, rabs_pos]; unfold rv at h2; simp at h2; grind
    rw [e2]
    exact ⟨_, _, _, h1, h2⟩
theorem nearest_lt64 (s : Bool) (m : Nat) (e : Int) : double.nearest s m e < 18446744073709551616 := by
  have hw : double.signWeight = 9223372036854775808 := by decide +kernel
  unfold Format.nearest Format.word
  rw [hw]
  have := inf_lt
  cases s <;> simp only [Bool.false_eq_true, if_false, if_true] <;> split <;> omega
theorem fofI_lt64 (n : Int) : fofI n < 18446744073709551616 := nearest_lt64 _ _ _
end
section
open Ieee
def gt0 (x y : Nat) : Bool := double.order x y == some .gt
def lt0 (x y : Nat) : Bool := double.order x y == some .lt
def eq0 (x y : Nat) : Bool := double.order x y == some .eq
theorem gt0_num {x y : Nat} {X Y : Rat} (hx : Num x X) (hy : Num y Y) : gt0 x y = decide (Y < X) := by
  obtain ⟨a, b, c⟩ := num_order hx hy
  unfold gt0
  by_cases h : Y < X
  · rw [c h, decide_eq_true h]; rfl
  · rw [decide_eq_false h]
    by_cases h2 : X = Y
    · rw [b h2]; rfl
    · rw [a (by grind)]; rfl
theorem lt0_num {x y : Nat} {X Y : Rat} (hx : Num x X) (hy : Num y Y) : lt0 x y = decide (X < Y) := by
  obtain ⟨a, b, c⟩ := num_order hx hy
  unfold lt0
  by_cases h : X < Y
  · rw [a h, decide_eq_true h]; rfl
  · rw [decide_eq_false h]
    by_cases h2 : X = Y
    · rw [b h2]; rfl
    · rw [c (by grind)]; rfl
theorem eq0_num {x y : Nat} {X Y : Rat} (hx : Num x X) (hy : Num y Y) : eq0 x y = decide (X = Y) := by
  obtain ⟨a, b, c⟩ := num_order hx hy
  unfold eq0
  by_cases h : X = Y
  · rw [b h, decide_eq_true h]; rfl
  · rw [decide_eq_false h]
    by_cases h2 : X < Y
    · rw [a h2]; rfl
    · rw [c (by grind)]; rfl
def xatW (x : Nat) : Nat := (fun z => fadd (fmul x (fdiv (fmul z (fadd (fmul (fadd (fmul (fadd (fmul (fadd (fmul aP0 z) aP1) z) aP2) z) aP3) z) aP4)) (fadd (fmul (fadd (fmul (fadd (fmul (fadd (fmul (fadd z aQ0) z) aQ1) z) aQ2) z) aQ3) z) aQ4))) x) (fmul x x)
theorem xatW_of {x r : Nat} (h : XatP x r) : xatW x = r := by
  obtain ⟨z, m1, h1, m2, h2, m3, h3, m4, h4, n, k0, l1, k1, l2, k2, l3, k3, l4, k4, d, v, f1, f2, f3, f4, f5, f6, f7, f8, f9, f10, f11, f12, f13, f14, f15, f16, f17, f18, f19, f20, f21, f22⟩ := h
  unfold xatW
  simp only [fmul_of f1, fmul_of f2, fadd_of f3, fmul_of f4, fadd_of f5, fmul_of f6, fadd_of f7, fmul_of f8, fadd_of f9, fmul_of f10, fadd_of f11, fmul_of f12, fadd_of f13, fmul_of f14, fadd_of f15, fmul_of f16, fadd_of f17, fmul_of f18, fadd_of f19, fdiv_of f20, fmul_of f21, fadd_of f22]
def satW (t : Nat) : Nat := if gt0 t w066 then (if gt0 t wT38 then fadd (fsub wPi2 (xatW (fdiv wOne t))) wMB else fadd (fadd wPi4 (xatW (fdiv (fsub t wOne) (fadd t wOne)))) wMBh) else xatW t
theorem satW_of {t r : Nat} {T : Rat} (hn : Num t T) (h : SatP t T r) : satW t = r := by
  have n1 : Num w066 (cv w066) := cv_num (by decide +kernel)
  have n2 : Num wT38 (cv wT38) := cv_num (by decide +kernel)
  unfold satW
  rw [gt0_num hn n1, gt0_num hn n2]
  rcases h with ⟨h1, h2⟩ | ⟨h1, h2, i, x, a, f1, f2, f3, f4⟩ | ⟨h1, h2, n, d, q, x, a, f1, f2, f3, f4, f5, f6⟩
  · rw [decide_eq_false (by grind), if_neg (by simp), xatW_of h2]
  · rw [decide_eq_true h1, decide_eq_true h2, if_pos rfl, if_pos rfl, fdiv_of f1, xatW_of f2, fsub_of f3, fadd_of f4]
  · rw [decide_eq_true h1, decide_eq_false (by grind), if_pos rfl, if_neg (by simp), fsub_of f1, fadd_of f2, fdiv_of f3, xatW_of f4, fadd_of f5, fadd_of f6]
def atanW (q : Nat) : Nat := if eq0 q 0 then q else if gt0 q 0 then satW q else fneg (satW (fneg q))
theorem atanW_of {q r : Nat} {V : Rat} (hn : Num q V) (h : AtanP q V r) : atanW q = r := by
  unfold atanW
  rw [eq0_num hn num_zero, gt0_num hn num_zero]
  rcases h with ⟨h1, rfl⟩ | ⟨h1, h2⟩ | ⟨h1, s, h2, rfl⟩
  · rw [decide_eq_true h1, if_pos rfl]
  · rw [decide_eq_false (by grind), decide_eq_true h1, if_neg (by simp), if_pos rfl, satW_of hn h2]
  · rw [decide_eq_false (by grind), decide_eq_false (by grind), if_neg (by simp), if_neg (by simp), satW_of (fneg_num hn) h2]
def at2W (y x : Nat) : Nat :=
  if eq0 y 0 then (if lt0 x 0 then wPiA else 0) else if eq0 x 0 then (if gt0 y 0 then wPi2 else fneg wPi2) else
  (fun a => if lt0 x 0 then (if gt0 a 0 then fsub a wPiA else fadd a wPiA) else a) (atanW (fdiv y x))
theorem at2W_of {y x r : Nat} {Y X : Rat} (ny : Num y Y) (nx : Num x X) (h : At2P y Y x X r) : at2W y x = r := by
  unfold at2W
  rw [eq0_num ny num_zero, eq0_num nx num_zero, lt0_num nx num_zero, gt0_num ny num_zero]
  rcases h with ⟨h1, h2, rfl⟩ | ⟨h1, h2, rfl⟩ | ⟨h1, h2, rfl⟩ | ⟨h1, h2, rfl⟩ | ⟨h1, h2, q, V, a, v, f1, f2, f3, f4, f5, f6⟩
  · rw [decide_eq_true h1, decide_eq_false (show ¬ X < 0 by grind)]; rfl
  · rw [decide_eq_true h1, decide_eq_true h2]; rfl
  · rw [decide_eq_false (show ¬ Y = 0 by grind), decide_eq_true h1, decide_eq_true h2]; rfl
  · rw [decide_eq_false (show ¬ Y = 0 by grind), decide_eq_true h1, decide_eq_false (show ¬ 0 < Y by grind)]; rfl
  · rw [decide_eq_false h1, decide_eq_false h2, if_neg (by simp), if_neg (by simp), fdiv_of f1, atanW_of f2 f4]
    dsimp only
    rw [gt0_num f5 num_zero]
    rcases f6 with ⟨k1, rfl⟩ | ⟨k1, k2, k3⟩ | ⟨k1, k2, k3⟩
    · rw [decide_eq_false (show ¬ X < 0 by grind), if_neg (by simp)]
    · rw [decide_eq_true k1, decide_eq_false (show ¬ 0 < v by grind), if_pos rfl, if_neg (by simp), fadd_of k3]
    · rw [decide_eq_true k1, decide_eq_true k2, if_pos rfl, if_pos rfl, fsub_of k3]
/-- The word of the angle of a direction. -/
def dirW (y x : Int) : Nat := fmul (fdiv (at2W (fofI y) (fofI x)) w2Pi) wTurn
/-- The direction of whole numbers. -/
structure HeadI (x y : Int) (D : Rat) : Prop where
  n : rabs ((x : Rat) * S (tq * D) - (y : Rat) * C (tq * D)) ≤ 130 / 100000000000000 * (rabs x + rabs y)
  p : (rabs x + rabs y) / 6 ≤ (x : Rat) * C (tq * D) + (y : Rat) * S (tq * D)
  b : rabs D ≤ 500000000 + 1 / 100
theorem Head.int {X Y D : Rat} {x y : Int} (h : Head X Y D) (h1 : rabs (X - (x : Rat)) ≤ 1 / 1000000000000000 * rabs (x : Rat)) (h2 : rabs (Y - (y : Rat)) ≤ 1 / 1000000000000000 * rabs (y : Rat)) : HeadI x y D := by
  obtain ⟨n, p, b⟩ := h
  have tb : rabs (tq * D) ≤ 32/5 := by
    obtain ⟨t1, t2, -, t4, -⟩ := tq_num
    have := mul_rabs (show rabs tq ≤ 628319 / 100000000000000 from rabs_le.2 ⟨by grind, by grind⟩) b
    grind
  have bb := SC_bd tb
  have m1 := rabs_le.1 (mul_rabs h1 bb.1)
  have m2 := rabs_le.1 (mul_rabs h1 bb.2)
  have m3 := rabs_le.1 (mul_rabs h2 bb.1)
  have m4 := rabs_le.1 (mul_rabs h2 bb.2)
  have x0 := rabs_nonneg (x : Rat)
  have y0 := rabs_nonneg (y : Rat)
  have k1 := rabs_add (X - (x : Rat)) x
  have k2 := rabs_add (Y - (y : Rat)) y
  have k3 := rabs_add ((x : Rat) - X) X
  have k4 := rabs_add ((y : Rat) - Y) Y
  have e1 : X - (x : Rat) + x = X := by grind
  have e2 : Y - (y : Rat) + y = Y := by grind
  have e3 : (x : Rat) - X + X = x := by grind
  have e4 : (y : Rat) - Y + Y = y := by grind
  have e5 : rabs ((x : Rat) - X) = rabs (X - (x : Rat)) := by
    have : (x : Rat) - X = -(X - (x : Rat)) := by grind
    rw [this, rabs_neg]
  have e6 : rabs ((y : Rat) - Y) = rabs (Y - (y : Rat)) := by
    have : (y : Rat) - Y = -(Y - (y : Rat)) := by grind
    rw [this, rabs_neg]
  rw [e1] at k1
  rw [e2] at k2
  rw [e3, e5] at k3
  rw [e4, e6] at k4
  have n := rabs_le.1 n
  refine ⟨?_, ?_, b⟩
  all_goals
    clear e1 e2 e3 e4 e5 e6 bb tb b
    generalize S (tq * D) = s at *
    generalize C (tq * D) = c at *
    generalize (x : Rat) = xr at *
    generalize (y : Rat) = yr at *
    generalize rabs (X - xr) = dx at *
    generalize rabs (Y - yr) = dy at *
    generalize rabs X = aX at *
    generalize rabs Y = aY at *
    generalize rabs xr = ax at *
    generalize rabs yr = ay at *
  · rw [rabs_le]
    constructor <;> grind
  · grind
/-- What trig.direction runs through. -/
def DirP (y x : Int) (f : Nat) : Prop := ∃ Y X r d, Num (fofI y) Y ∧ Num (fofI x) X ∧ rabs Y ≤ 9000000000000000000 ∧ rabs X ≤ 9000000000000000000 ∧ (Y = 0 → fofI y = 0) ∧ At2P (fofI y) Y (fofI x) X r ∧ double.div r w2Pi = some d ∧ double.mul d wTurn = some f
theorem dirI_run (y x : Int) (y1 : -2000000000000000000 ≤ y) (y2 : y ≤ 2000000000000000000) (x1 : -2000000000000000000 ≤ x) (x2 : x ≤ 2000000000000000000) (h0 : y ≠ 0 ∨ x ≠ 0) :
    DirP y x (dirW y x) ∧ ∃ D, Num (dirW y x) D ∧ HeadI x y D := by
  obtain ⟨Y, ny, b1, b2, b3, b4⟩ := int_num y y1 y2
  obtain ⟨X, nx, c1, c2, c3, c4⟩ := int_num x x1 x2
  have hX : X = 0 ∨ 1/2 ≤ rabs X := by
    by_cases h : x = 0
    · exact .inl (c2 h).1
    · exact .inr (c3 h)
  have z0 : rabs 0 = 0 := by decide +kernel
  have hz : Y ≠ 0 ∨ X ≠ 0 := by
    rcases h0 with h | h
    · left; intro e; have := b3 h; rw [e, z0] at this; grind
    · right; intro e; have := c3 h; rw [e, z0] at this; grind
  have yz : Y = 0 → fofI y = 0 := by
    intro e
    by_cases h : y = 0
    · exact (b2 h).2
    · have := b3 h; rw [e, z0] at this; grind
  obtain ⟨r, d, f, D, f1, f2, f3, f4, f5⟩ := dir_run ny nx hX (by grind) (by grind) hz
  have e : dirW y x = f := by
    unfold dirW
    rw [at2W_of ny nx f1, fdiv_of f2, fmul_of f3]
  rw [e]
  exact ⟨⟨Y, X, r, d, ny, nx, by grind, by grind, yz, f1, f2, f3⟩, D, f4, f5.int c1 b1⟩
end
section
open Ieee
theorem turn_back {a : Rat} (h0 : 0 ≤ a) (h1 : a ≤ 2 * piQ) : rabs (S (a - 2 * piQ) - S a) ≤ 1 / 1000000000000 ∧ rabs (C (a - 2 * piQ) - C a) ≤ 1 / 1000000000000 := by
  have hp := pi_num
  by_cases h : piQ ≤ a
  · have t := sin_turn (x := a - 2 * piQ) (rabs_le.2 ⟨by grind, by grind⟩)
    have e : a - 2 * piQ + 2 * piQ = a := by grind
    rw [e] at t
    have t1 := rabs_le.1 t.1
    have t2 := rabs_le.1 t.2
    constructor <;> rw [rabs_le] <;> constructor <;> grind
  · have t := sin_turn (x := -a) (rabs_le.2 ⟨by grind, by grind⟩)
    have e : -a + 2 * piQ = -(a - 2 * piQ) := by grind
    rw [e, S_neg, S_neg, C_neg, C_neg] at t
    have t1 := rabs_le.1 t.1
    have t2 := rabs_le.1 t.2
    constructor <;> rw [rabs_le] <;> constructor <;> grind
/-- A direction lies between two angles of whole units. -/
structure Between (a h : Int) (x y : Rat) : Prop where
  c1 : -(1 / 10000000000 * (rabs x + rabs y)) ≤ C (tq * a) * y - S (tq * a) * x
  c2 : -(1 / 10000000000 * (rabs x + rabs y)) ≤ S (tq * h) * x - C (tq * h) * y
  c3 : 0 ≤ (C (tq * a) + C (tq * h)) * x + (S (tq * a) + S (tq * h)) * y
theorem tq_le {z w : Rat} (h : z ≤ w) : tq * z ≤ tq * w := by
  obtain ⟨t1, -⟩ := tq_num
  exact Rat.mul_le_mul_of_nonneg_left h (by grind)
theorem tq_turn : tq * 1000000000 = 2 * piQ := by decide +kernel
/-- The sine and the cosine at an angle that differs by whole turns. -/
theorem sc_shift {a : Int} (a0 : 0 ≤ a) (a1 : a < 1000000000) {θ : Rat} (h : θ = tq * a ∨ θ = tq * a - 2 * piQ) : rabs (S θ - S (tq * a)) ≤ 1 / 1000000000000 ∧ rabs (C θ - C (tq * a)) ≤ 1 / 1000000000000 := by
  have r0 : (0 : Rat) ≤ (a : Rat) := by exact_mod_cast a0
  have r1 : (a : Rat) ≤ 1000000000 := by
    have := Rat.intCast_le_intCast.2 (show a ≤ 1000000000 by omega)
    have e : ((1000000000 : Int) : Rat) = 1000000000 := rfl
    rw [e] at this; exact this
  have z : rabs 0 = 0 := by decide +kernel
  rcases h with rfl | rfl
  · have e1 : S (tq * a) - S (tq * a) = 0 := by grind
    have e2 : C (tq * a) - C (tq * a) = 0 := by grind
    rw [e1, e2, z]
    constructor <;> grind
  · have := tq_le r0
    have := tq_le r1
    rw [tq_turn] at this
    exact turn_back (by grind) (by grind)
theorem C_lin {z : Rat} (hz : rabs z ≤ 8/5) : 1 - z * z / 2 ≤ C z := by
  have e : cT = 1 :: 0 :: -1/2 :: 0 :: 1/24 :: cT.tail.tail.tail.tail.tail := by decide +kernel
  have hb := pv_bd hz cT.tail.tail.tail.tail.tail
  have hk : pbd cT.tail.tail.tail.tail.tail (8/5) ≤ 1/100 := by decide +kernel
  have hx2 := rabs_le.1 hz
  unfold C
  rw [e]
  simp only [pv_cons]
  generalize cT.tail.tail.tail.tail.tail = t at *
  have m := rabs_le.1 (mul_rabs hz (show rabs (pv t z) ≤ 1/100 by grind))
  generalize pv t z = v at *
  have q0 : 0 ≤ 1/24 + z * v := by grind
  have q1 := Rat.mul_nonneg (sq_nonneg z) (sq_nonneg z)
  have q2 := Rat.mul_nonneg (sq_nonneg z) (Rat.mul_nonneg (sq_nonneg z) q0)
  grind
theorem cos_pair {b c : Rat} (b0 : -(1 / 1000000000000) ≤ b) (c0 : -(1 / 1000000000000) ≤ c) (hs : b + c ≤ 252/100) : 1/20 ≤ C b + C c := by
  have hp := pi_num
  have hm : rabs ((b + c) / 2) ≤ 32/5 := rabs_le.2 ⟨by grind, by grind⟩
  have hd : rabs ((b - c) / 2) ≤ 16/5 := rabs_le.2 ⟨by grind, by grind⟩
  have h1 := rabs_le.1 (cos_add hm hd)
  have h2 := rabs_le.1 (cos_sub hm hd)
  have e1 : (b + c) / 2 + (b - c) / 2 = b := by grind
  have e2 : (b + c) / 2 - (b - c) / 2 = c := by grind
  rw [e1] at h1
  rw [e2] at h2
  have lo : ∀ z : Rat, rabs z ≤ 1261/1000 → 1/5 ≤ C z := by
    intro z hz
    have l := C_lin (z := z) (by grind)
    have := sq_le (by grind) hz
    grind
  have p1 := lo ((b + c) / 2) (rabs_le.2 ⟨by grind, by grind⟩)
  have p2 := lo ((b - c) / 2) (rabs_le.2 ⟨by grind, by grind⟩)
  have m := Rat.mul_nonneg (show 0 ≤ C ((b + c) / 2) - 1/5 by grind) (show 0 ≤ C ((b - c) / 2) - 1/5 by grind)
  have m2 : 1/25 ≤ C ((b + c) / 2) * C ((b - c) / 2) := by grind
  clear m
  generalize C ((b + c) / 2) * C ((b - c) / 2) = u at *
  grind
/-- A direction within the interval lies between its bounds. -/
theorem between {lo hi m m2 k : Int} {x y : Int} {D φ : Rat} (hD : HeadI x y D) (hφ : rabs (φ - (D + (k : Rat) * 1000000000)) ≤ 1 / 1000000) (h1 : (lo : Rat) ≤ φ) (h2 : φ ≤ (hi : Rat)) (hw : hi - lo ≤ 400000000) {a h : Int}
    (ha : a = lo - m * 1000000000) (a0 : 0 ≤ a) (a1 : a < 1000000000) (hh : h = hi - m2 * 1000000000) (g0 : 0 ≤ h) (g1 : h < 1000000000) : Between a h (x : Rat) (y : Rat) := by
  obtain ⟨n, p, b⟩ := hD
  have hp := pi_num
  obtain ⟨t1, t2, -⟩ := tq_num
  have R0 : (0 : Rat) ≤ (a : Rat) := by exact_mod_cast a0
  have R1 : (a : Rat) ≤ 1000000000 := by
    have := Rat.intCast_le_intCast.2 (show a ≤ 1000000000 by omega)
    have e : ((1000000000 : Int) : Rat) = 1000000000 := rfl
    rw [e] at this; exact this
  have G0 : (0 : Rat) ≤ (h : Rat) := by exact_mod_cast g0
  have G1 : (h : Rat) ≤ 1000000000 := by
    have := Rat.intCast_le_intCast.2 (show h ≤ 1000000000 by omega)
    have e : ((1000000000 : Int) : Rat) = 1000000000 := rfl
    rw [e] at this; exact this
  have W : (hi : Rat) - (lo : Rat) ≤ 400000000 := by
    have := Rat.intCast_le_intCast.2 hw
    have e : ((400000000 : Int) : Rat) = 400000000 := rfl
    rw [e] at this; push_cast at this; exact this
  have eA : (a : Rat) = (lo : Rat) - (m : Rat) * 1000000000 := by
    rw [ha]; push_cast; rfl
  have eH : (h : Rat) = (hi : Rat) - (m2 : Rat) * 1000000000 := by
    rw [hh]; push_cast; rfl
  have hb := rabs_le.1 b
  have hφ := rabs_le.1 hφ
  -- whole turns
  have j1 : k - m = 0 ∨ k - m = 1 := by
    have u1 : ((k - m : Int) : Rat) * 1000000000 ≤ 1950000000 := by push_cast; grind
    have u2 : -950000000 ≤ ((k - m : Int) : Rat) * 1000000000 := by push_cast; grind
    have v1 : ((k - m : Int) : Rat) < ((2 : Int) : Rat) := by have e : ((2 : Int) : Rat) = 2 := rfl
                                                              rw [e]; grind
    have v2 : ((-1 : Int) : Rat) < ((k - m : Int) : Rat) := by have e : ((-1 : Int) : Rat) = -1 := rfl
                                                               rw [e]; grind
    have w1 : k - m < 2 := by exact_mod_cast v1
    have w2 : -1 < k - m := by exact_mod_cast v2
    omega
  have j2 : m2 - k = 0 ∨ m2 - k = -1 := by
    have u1 : ((m2 - k : Int) : Rat) * 1000000000 ≤ 950000000 := by push_cast; grind
    have u2 : -1950000000 ≤ ((m2 - k : Int) : Rat) * 1000000000 := by push_cast; grind
    have v1 : ((m2 - k : Int) : Rat) < ((1 : Int) : Rat) := by have e : ((1 : Int) : Rat) = 1 := rfl
                                                               rw [e]; grind
    have v2 : ((-2 : Int) : Rat) < ((m2 - k : Int) : Rat) := by have e : ((-2 : Int) : Rat) = -2 := rfl
                                                                rw [e]; grind
    have w1 : m2 - k < 1 := by exact_mod_cast v1
    have w2 : -2 < m2 - k := by exact_mod_cast v2
    omega
  obtain ⟨β, hβ⟩ : ∃ β, D - ((lo : Rat) - (k : Rat) * 1000000000) = β := ⟨_, rfl⟩
  obtain ⟨γ, hγ⟩ : ∃ γ, (hi : Rat) - (k : Rat) * 1000000000 - D = γ := ⟨_, rfl⟩
  have β0 : -(1 / 1000000) ≤ β := by grind
  have γ0 : -(1 / 1000000) ≤ γ := by grind
  have sβ : β + γ ≤ 400000000 := by grind
  have b1 := tq_le β0
  have c1 := tq_le γ0
  have s1 := tq_le sβ
  have tb : rabs (tq * D) ≤ 32/5 := by
    have := mul_rabs (show rabs tq ≤ 628319 / 100000000000000 from rabs_le.2 ⟨by grind, by grind⟩) b
    grind
  have A := sc_shift a0 a1 (θ := tq * D - tq * β) (by
    rcases j1 with j | j
    · left
      have : (k : Rat) = (m : Rat) := by have : k = m := by omega
                                         rw [this]
      rw [eA, ← hβ, this]; grind
    · right
      have : (k : Rat) = (m : Rat) + 1 := by have : k = m + 1 := by omega
                                             rw [this]; push_cast; rfl
      rw [eA, ← hβ, this, ← tq_turn]; grind)
  have H := sc_shift g0 g1 (θ := tq * D + tq * γ) (by
    rcases j2 with j | j
    · left
      have : (m2 : Rat) = (k : Rat) := by have : m2 = k := by omega
                                          rw [this]
      rw [eH, ← hγ, this]; grind
    · right
      have : (m2 : Rat) = (k : Rat) - 1 := by have : m2 = k - 1 := by omega
                                              rw [this]; push_cast; rfl
      rw [eH, ← hγ, this, ← tq_turn]; grind)
  have lim1 : tq * 400000000 ≤ 2514/1000 := by decide +kernel
  have lim2 : tq * -(1 / 1000000) ≥ -(1 / 100000000000000) := by decide +kernel
  have pr := cos_pair (b := tq * β) (c := tq * γ) (by grind) (by grind) (by grind)
  have Bb : rabs (tq * β) ≤ 16/5 := rabs_le.2 ⟨by grind, by grind⟩
  have Cb : rabs (tq * γ) ≤ 16/5 := rabs_le.2 ⟨by grind, by grind⟩
  have pb := S_up (d := 1 / 100000000000000) (x := tq * β) (by grind) (by grind) (by grind) (by grind)
  have pc := S_up (d := 1 / 100000000000000) (x := tq * γ) (by grind) (by grind) (by grind) (by grind)
  have a1' := sin_sub tb Bb
  have a2' := cos_sub tb Bb
  have h1' := sin_add tb Cb
  have h2' := cos_add tb Cb
  have qb := SC_bd (y := tq * β) (by grind)
  have qc := SC_bd (y := tq * γ) (by grind)
  have qd := SC_bd tb
  -- the exact angles' parts
  have eA1 : rabs (S (tq * a) - (S (tq * D) * C (tq * β) - C (tq * D) * S (tq * β))) ≤ 2 / 1000000000000 := by
    have u := rabs_le.1 a1'; have v := rabs_le.1 A.1; exact rabs_le.2 ⟨by grind, by grind⟩
  have eA2 : rabs (C (tq * a) - (C (tq * D) * C (tq * β) + S (tq * D) * S (tq * β))) ≤ 2 / 1000000000000 := by
    have u := rabs_le.1 a2'; have v := rabs_le.1 A.2; exact rabs_le.2 ⟨by grind, by grind⟩
  have eH1 : rabs (S (tq * h) - (S (tq * D) * C (tq * γ) + C (tq * D) * S (tq * γ))) ≤ 2 / 1000000000000 := by
    have u := rabs_le.1 h1'; have v := rabs_le.1 H.1; exact rabs_le.2 ⟨by grind, by grind⟩
  have eH2 : rabs (C (tq * h) - (C (tq * D) * C (tq * γ) - S (tq * D) * S (tq * γ))) ≤ 2 / 1000000000000 := by
    have u := rabs_le.1 h2'; have v := rabs_le.1 H.2; exact rabs_le.2 ⟨by grind, by grind⟩
  clear a1' a2' h1' h2' A H tb Bb Cb lim1 lim2 b1 c1 s1 β0 γ0 sβ hβ hγ j1 j2 eA eH hb hφ b R0 R1 G0 G1 W h1 h2
  have x0 := rabs_nonneg (x : Rat)
  have y0 := rabs_nonneg (y : Rat)
  have rx : rabs (x : Rat) ≤ rabs (x : Rat) := Rat.le_refl
  have ry : rabs (y : Rat) ≤ rabs (y : Rat) := Rat.le_refl
  have m1 := rabs_le.1 (mul_rabs rx eA1)
  have m2' := rabs_le.1 (mul_rabs ry eA2)
  have m3 := rabs_le.1 (mul_rabs rx eH1)
  have m4 := rabs_le.1 (mul_rabs ry eH2)
  have m5 := rabs_le.1 (mul_rabs rx eA2)
  have m6 := rabs_le.1 (mul_rabs ry eA1)
  have m7 := rabs_le.1 (mul_rabs rx eH2)
  have m8 := rabs_le.1 (mul_rabs ry eH1)
  generalize S (tq * β) = sb at *
  generalize C (tq * β) = cb at *
  generalize S (tq * γ) = sc at *
  generalize C (tq * γ) = cc at *
  generalize S (tq * D) = s at *
  generalize C (tq * D) = c at *
  generalize (x : Rat) = X at *
  generalize (y : Rat) = Y at *
  obtain ⟨N, hN⟩ : ∃ N, X * s - Y * c = N := ⟨_, rfl⟩
  obtain ⟨P, hP⟩ : ∃ P, X * c + Y * s = P := ⟨_, rfl⟩
  rw [hN] at n
  rw [hP] at p
  have N1 := rabs_le.1 (mul_rabs n qb.2)
  have N2 := rabs_le.1 (mul_rabs n qc.2)
  have N3 := rabs_le.1 (mul_rabs n qb.1)
  have N4 := rabs_le.1 (mul_rabs n qc.1)
  have PP : P ≤ 2 * (rabs X + rabs Y) := by
    have v1 := rabs_le.1 (mul_rabs rx qd.2)
    have v2 := rabs_le.1 (mul_rabs ry qd.1)
    rw [← hP]
    generalize X * c = z1 at *
    generalize Y * s = z2 at *
    grind
  have P1 := Rat.mul_nonneg (show 0 ≤ P by grind) (show 0 ≤ sb + 102 / 100000000000000 by grind)
  have P2 := Rat.mul_nonneg (show 0 ≤ P by grind) (show 0 ≤ sc + 102 / 100000000000000 by grind)
  have P3 := Rat.mul_nonneg (show 0 ≤ P by grind) (show 0 ≤ cb + cc - 1/20 by grind)
  have id1 : (c * cb + s * sb) * Y - (s * cb - c * sb) * X = sb * P - N * cb := by rw [← hN, ← hP]; grind
  have id2 : (s * cc + c * sc) * X - (c * cc - s * sc) * Y = sc * P + N * cc := by rw [← hN, ← hP]; grind
  have id3 : ((c * cb + s * sb) + (c * cc - s * sc)) * X + ((s * cb - c * sb) + (s * cc + c * sc)) * Y = (cb + cc) * P + (N * sb - N * sc) := by rw [← hN, ← hP]; grind
  refine ⟨?_, ?_, ?_⟩
  · have e : C (tq * a) * Y - S (tq * a) * X = (sb * P - N * cb) + Y * (C (tq * a) - (c * cb + s * sb)) - X * (S (tq * a) - (s * cb - c * sb)) := by rw [← id1]; grind
    rw [e]
    have e2 : 0 ≤ sb * P + P * (102 / 100000000000000) := by grind
    clear id1 id2 id3 e P1 P2 P3 hN hP
    generalize sb * P = u1 at *
    generalize N * cb = u2 at *
    generalize Y * (C (tq * a) - (c * cb + s * sb)) = u3 at *
    generalize X * (S (tq * a) - (s * cb - c * sb)) = u4 at *
    grind
  · have e : S (tq * h) * X - C (tq * h) * Y = (sc * P + N * cc) + X * (S (tq * h) - (s * cc + c * sc)) - Y * (C (tq * h) - (c * cc - s * sc)) := by rw [← id2]; grind
    rw [e]
    have e2 : 0 ≤ sc * P + P * (102 / 100000000000000) := by grind
    clear id1 id2 id3 e P1 P2 P3 hN hP
    generalize sc * P = u1 at *
    generalize N * cc = u2 at *
    generalize Y * (C (tq * h) - (c * cc - s * sc)) = u3 at *
    generalize X * (S (tq * h) - (s * cc + c * sc)) = u4 at *
    grind
  · have e : (C (tq * a) + C (tq * h)) * X + (S (tq * a) + S (tq * h)) * Y = ((cb + cc) * P + (N * sb - N * sc)) + X * (C (tq * a) - (c * cb + s * sb)) + X * (C (tq * h) - (c * cc - s * sc)) + Y * (S (tq * a) - (s * cb - c * sb)) + Y * (S (tq * h) - (s * cc + c * sc)) := by rw [← id3]; grind
    rw [e]
    have e2 : 0 ≤ (cb + cc) * P - P / 20 := by grind
    clear id1 id2 id3 e P1 P2 P3 hN hP
    generalize (cb + cc) * P = u0 at *
    generalize N * sb = u1 at *
    generalize N * sc = u2 at *
    generalize X * (C (tq * a) - (c * cb + s * sb)) = u3 at *
    generalize X * (C (tq * h) - (c * cc - s * sc)) = u4 at *
    generalize Y * (S (tq * a) - (s * cb - c * sb)) = u5 at *
    generalize Y * (S (tq * h) - (s * cc + c * sc)) = u6 at *
    grind
end
section
open Ieee
def wHT : Nat := 4737168216739020800
def wHN : Nat := 13960540253593796608
def fminW (x y : Nat) : Nat := match double.order x y with | some .lt => x | some .gt => y | some .eq => (if (double.read x).neg then x else y) | none => 0
def fmaxW (x y : Nat) : Nat := match double.order x y with | some .lt => y | some .gt => x | some .eq => (if (double.read x).neg then y else x) | none => 0
def adjA (d : Nat) : Nat := if gt0 d wHT then fsub d wTurn else d
def adjW (d : Nat) : Nat := if lt0 (adjA d) wHN then fadd (adjA d) wTurn else adjA d
/-- The corners of Arc's loop. -/
def arcC (yl yh xl xh : Int) : Nat → Int × Int
  | 0 => (yl, xh)
  | 1 => (yh, xl)
  | _ => (yh, xh)
def arcD (yl yh xl xh : Int) (k : Nat) : Nat := fsub (dirW (arcC yl yh xl xh k).1 (arcC yl yh xl xh k).2) (dirW yl xl)
def arcLow (yl yh xl xh : Int) : Nat → Nat
  | 0 => 0
  | k + 1 => fminW (arcLow yl yh xl xh k) (adjW (arcD yl yh xl xh k))
def arcHigh (yl yh xl xh : Int) : Nat → Nat
  | 0 => 0
  | k + 1 => fmaxW (arcHigh yl yh xl xh k) (adjW (arcD yl yh xl xh k))
def arcLo (yl yh xl xh : Int) : Int := arLo (fadd (dirW yl xl) (arcLow yl yh xl xh 3))
def arcHi (yl yh xl xh : Int) : Int := arHi (fadd (dirW yl xl) (arcHigh yl yh xl xh 3))
theorem fminW_num {x y : Nat} {X Y : Rat} (hx : Num x X) (hy : Num y Y) : Num (fminW x y) (if X ≤ Y then X else Y) ∧ (double.order x y).isSome = true := by
  obtain ⟨a, b, c⟩ := num_order hx hy
  by_cases h : X < Y
  · have e : (if X ≤ Y then X else Y) = X := if_pos (by grind)
    rw [e]; unfold fminW; rw [a h]; exact ⟨hx, rfl⟩
  · by_cases h2 : X = Y
    · subst h2
      have e : (if X ≤ X then X else X) = X := if_pos (Rat.le_refl)
      rw [e]; unfold fminW; rw [b rfl]
      refine ⟨?_, rfl⟩
      dsimp only
      split
      · exact hx
      · exact hy
    · have e : (if X ≤ Y then X else Y) = Y := if_neg (by grind)
      rw [e]; unfold fminW; rw [c (by grind)]; exact ⟨hy, rfl⟩
theorem fmaxW_num {x y : Nat} {X Y : Rat} (hx : Num x X) (hy : Num y Y) : Num (fmaxW x y) (if X ≤ Y then Y else X) ∧ (double.order x y).isSome = true := by
  obtain ⟨a, b, c⟩ := num_order hx hy
  by_cases h : X < Y
  · have e : (if X ≤ Y then Y else X) = Y := if_pos (by grind)
    rw [e]; unfold fmaxW; rw [a h]; exact ⟨hy, rfl⟩
  · by_cases h2 : X = Y
    · subst h2
      have e : (if X ≤ X then X else X) = X := if_pos (Rat.le_refl)
      rw [e]; unfold fmaxW; rw [b rfl]
      refine ⟨?_, rfl⟩
      dsimp only
      split
      · exact hy
      · exact hx
    · have e : (if X ≤ Y then Y else X) = X := if_neg (by grind)
      rw [e]; unfold fmaxW; rw [c (by grind)]; exact ⟨hx, rfl⟩
theorem ht_num : Num wHT 500000000 ∧ Num wHN (-500000000) ∧ Num wTurn 1000000000 := by
  have e1 : cv wHT = 500000000 := by decide +kernel
  have e2 : cv wHN = -500000000 := by decide +kernel
  have e3 : cv wTurn = 1000000000 := by decide +kernel
  have n1 := cv_num (show isNum wHT = true by decide +kernel)
  have n2 := cv_num (show isNum wHN = true by decide +kernel)
  have n3 := cv_num (show isNum wTurn = true by decide +kernel)
  rw [e1] at n1
  rw [e2] at n2
  rw [e3] at n3
  exact ⟨n1, n2, n3⟩
theorem min3 (a b c : Rat) : ∃ L, (if (if (if (0 : Rat) ≤ a then 0 else a) ≤ b then (if (0 : Rat) ≤ a then 0 else a) else b) ≤ c then (if (if (0 : Rat) ≤ a then 0 else a) ≤ b then (if (0 : Rat) ≤ a then 0 else a) else b) else c) = L ∧ L ≤ 0 ∧ L ≤ a ∧ L ≤ b ∧ L ≤ c ∧ (L = 0 ∨ L = a ∨ L = b ∨ L = c) := by
  refine ⟨_, rfl, ?_⟩
  grind
theorem max3 (a b c : Rat) : ∃ H, (if (if (if (0 : Rat) ≤ a then a else 0) ≤ b then b else (if (0 : Rat) ≤ a then a else 0)) ≤ c then c else (if (if (0 : Rat) ≤ a then a else 0) ≤ b then b else (if (0 : Rat) ≤ a then a else 0))) = H ∧ 0 ≤ H ∧ a ≤ H ∧ b ≤ H ∧ c ≤ H ∧ (H = 0 ∨ H = a ∨ H = b ∨ H = c) := by
  refine ⟨_, rfl, ?_⟩
  grind
theorem adjW_of (d d1 e : Nat) (h1 : (gt0 d wHT = true ∧ double.sub d wTurn = some d1) ∨ (gt0 d wHT = false ∧ d1 = d)) (h2 : (lt0 d1 wHN = true ∧ double.add d1 wTurn = some e) ∨ (lt0 d1 wHN = false ∧ e = d1)) : adjW d = e := by
  have eA : adjA d = d1 := by
    unfold adjA
    rcases h1 with ⟨a, b⟩ | ⟨a, rfl⟩
    · rw [if_pos a, fsub_of b]
    · rw [if_neg (by rw [a]; simp)]
  unfold adjW
  rw [eA]
  rcases h2 with ⟨a, b⟩ | ⟨a, rfl⟩
  · rw [if_pos a, fadd_of b]
  · rw [if_neg (by rw [a]; simp)]
/-- A round of Arc's loop: the difference brought within half a turn. -/
def AdjP (f f0 e : Nat) : Prop := ∃ d d1, double.sub f f0 = some d ∧ ((gt0 d wHT = true ∧ double.sub d wTurn = some d1) ∨ (gt0 d wHT = false ∧ d1 = d)) ∧ ((lt0 d1 wHN = true ∧ double.add d1 wTurn = some e) ∨ (lt0 d1 wHN = false ∧ e = d1))
theorem adj_run {f f0 : Nat} {D D0 : Rat} (hf : Num f D) (h0 : Num f0 D0) (hD : rabs D ≤ 500000000 + 1 / 100) (hD0 : rabs D0 ≤ 500000000 + 1 / 100) :
    AdjP f f0 (adjW (fsub f f0)) ∧ ∃ (E : Rat) (k : Int), Num (adjW (fsub f f0)) E ∧ rabs (D0 + E - (D + (k : Rat) * 1000000000)) ≤ 4 / 10000000 ∧ rabs E ≤ 500000001 := by
  obtain ⟨t1, t2, t3⟩ := ht_num
  have k30 : p2 ((30 : Nat) : Int) = 1073741824 := by decide +kernel
  have n30 : p2 (((30 : Nat) : Int) - 53) ≤ 12 / 100000000 := by decide +kernel
  have hD := rabs_le.1 hD
  have hD0 := rabs_le.1 hD0
  obtain ⟨d, d1, d2⟩ := sub_ap 30 (by omega) hf.ap h0.ap (by rw [k30]; grind) (by rw [k30]; grind)
  obtain ⟨E0, n1, n2, n3⟩ := d2.num
  rw [fsub_of d1]
  have g1 := gt0_num n1 t1
  have fin : ∀ (dd e : Nat) (E : Rat) (k : Int) (h1 : (gt0 d wHT = true ∧ double.sub d wTurn = some dd) ∨ (gt0 d wHT = false ∧ dd = d)) (h2 : (lt0 dd wHN = true ∧ double.add dd wTurn = some e) ∨ (lt0 dd wHN = false ∧ e = dd)), Num e E → rabs (D0 + E - (D + (k : Rat) * 1000000000)) ≤ 4 / 10000000 → rabs E ≤ 500000001 →
      AdjP f f0 (adjW d) ∧ ∃ (E : Rat) (k : Int), Num (adjW d) E ∧ rabs (D0 + E - (D + (k : Rat) * 1000000000)) ≤ 4 / 10000000 ∧ rabs E ≤ 500000001 := by
    intro dd e E k h1 h2 n a b
    rw [adjW_of d dd e h1 h2]
    exact ⟨⟨d, dd, d1, h1, h2⟩, E, k, n, a, b⟩
  by_cases h1 : 500000000 < E0
  · rw [decide_eq_true h1] at g1
    obtain ⟨e, e1, e2⟩ := sub_ap 30 (by omega) n1.ap t3.ap (by rw [k30]; grind) (by rw [k30]; grind)
    obtain ⟨E1, m1, m2, m3⟩ := e2.num
    have g2 := lt0_num m1 t2
    by_cases h2 : E1 < -500000000
    · rw [decide_eq_true h2] at g2
      obtain ⟨v, v1, v2⟩ := add_ap 30 (by omega) m1.ap t3.ap (by rw [k30]; grind) (by rw [k30]; grind)
      obtain ⟨E2, r1, r2, r3⟩ := v2.num
      exact fin e v E2 0 (.inl ⟨g1, e1⟩) (.inl ⟨g2, v1⟩) r1 (rabs_le.2 ⟨by push_cast; grind, by push_cast; grind⟩) (rabs_le.2 ⟨by grind, by grind⟩)
    · rw [decide_eq_false h2] at g2
      exact fin e e E1 (-1) (.inl ⟨g1, e1⟩) (.inr ⟨g2, rfl⟩) m1 (rabs_le.2 ⟨by push_cast; grind, by push_cast; grind⟩) (rabs_le.2 ⟨by grind, by grind⟩)
  · rw [decide_eq_false h1] at g1
    have g2 := lt0_num n1 t2
    by_cases h2 : E0 < -500000000
    · rw [decide_eq_true h2] at g2
      obtain ⟨e, e1, e2⟩ := add_ap 30 (by omega) n1.ap t3.ap (by rw [k30]; grind) (by rw [k30]; grind)
      obtain ⟨E1, m1, m2, m3⟩ := e2.num
      exact fin d e E1 1 (.inr ⟨g1, rfl⟩) (.inl ⟨g2, e1⟩) m1 (rabs_le.2 ⟨by push_cast; grind, by push_cast; grind⟩) (rabs_le.2 ⟨by grind, by grind⟩)
    · rw [decide_eq_false h2] at g2
      exact fin d d E0 0 (.inr ⟨g1, rfl⟩) (.inr ⟨g2, rfl⟩) n1 (rabs_le.2 ⟨by push_cast; grind, by push_cast; grind⟩) (rabs_le.2 ⟨by grind, by grind⟩)
/-- What Arc runs through, with the angles that it compares. -/
structure ArcR (yl yh xl xh : Int) : Prop where
  d0 : DirP yl xl (dirW yl xl)
  dk : ∀ k, k < 3 → DirP (arcC yl yh xl xh k).1 (arcC yl yh xl xh k).2 (dirW (arcC yl yh xl xh k).1 (arcC yl yh xl xh k).2)
  ad : ∀ k, k < 3 → AdjP (dirW (arcC yl yh xl xh k).1 (arcC yl yh xl xh k).2) (dirW yl xl) (adjW (arcD yl yh xl xh k))
  mn : ∀ k, k < 3 → (double.order (arcLow yl yh xl xh k) (adjW (arcD yl yh xl xh k))).isSome = true
  mx : ∀ k, k < 3 → (double.order (arcHigh yl yh xl xh k) (adjW (arcD yl yh xl xh k))).isSome = true
structure AroundP (v : Nat) : Prop where
  ex : ∃ s1 s2 X1 X2, double.sub v wSl = some s1 ∧ double.add v wSl = some s2 ∧ Num s1 X1 ∧ Num s2 X2 ∧ (double.read (fflr s1)).toInt .zero = some (arLo v) ∧ (double.read (fcei s2)).toInt .zero = some (arHi v) ∧ -4000000000000000 ≤ arLo v ∧ arLo v ≤ 4000000000000000 ∧ -4000000000000000 ≤ arHi v ∧ arHi v ≤ 4000000000000000
/-- The angles of Arc: that of the first corner, the differences of the others, the least and the greatest of them. -/
structure ArcV (yl yh xl xh : Int) (D0 : Rat) (E : Nat → Rat) (L H : Rat) : Prop where
  h0 : HeadI xl yl D0
  hk : ∀ k, k < 3 → ∃ D, ∃ j : Int, HeadI (arcC yl yh xl xh k).2 (arcC yl yh xl xh k).1 D ∧ rabs (D0 + E k - (D + (j : Rat) * 1000000000)) ≤ 4 / 10000000
  bE : ∀ k, k < 3 → rabs (E k) ≤ 500000001
  l0 : L ≤ 0
  lk : ∀ k, k < 3 → L ≤ E k
  le : L = 0 ∨ ∃ k, k < 3 ∧ L = E k
  g0 : 0 ≤ H
  gk : ∀ k, k < 3 → E k ≤ H
  ge : H = 0 ∨ ∃ k, k < 3 ∧ H = E k
  lo1 : (arcLo yl yh xl xh : Rat) ≤ D0 + L - 9 / 10000
  lo2 : D0 + L - 11 / 10000 < (arcLo yl yh xl xh : Rat) + 1
  hi1 : D0 + H + 9 / 10000 ≤ (arcHi yl yh xl xh : Rat)
  hi2 : (arcHi yl yh xl xh : Rat) < D0 + H + 11 / 10000 + 1
theorem arc_run (yl yh xl xh : Int) (b1 : -2000000000000000000 ≤ yl) (b2 : yl ≤ 2000000000000000000) (b3 : -2000000000000000000 ≤ yh) (b4 : yh ≤ 2000000000000000000) (b5 : -2000000000000000000 ≤ xl) (b6 : xl ≤ 2000000000000000000) (b7 : -2000000000000000000 ≤ xh) (b8 : xh ≤ 2000000000000000000)
    (hz : ∀ y x : Int, (y = yl ∨ y = yh) → (x = xl ∨ x = xh) → y ≠ 0 ∨ x ≠ 0) :
    ArcR yl yh xl xh ∧ AroundP (fadd (dirW yl xl) (arcLow yl yh xl xh 3)) ∧ AroundP (fadd (dirW yl xl) (arcHigh yl yh xl xh 3)) ∧ (∃ r, double.add (dirW yl xl) (arcLow yl yh xl xh 3) = some r) ∧ (∃ r, double.add (dirW yl xl) (arcHigh yl yh xl xh 3) = some r) ∧
      ∃ D0 E L H, ArcV yl yh xl xh D0 E L H := by
  obtain ⟨p0, D0, n0, hd0⟩ := dirI_run yl xl b1 b2 b5 b6 (hz yl xl (.inl rfl) (.inl rfl))
  have hc : ∀ k, k < 3 → DirP (arcC yl yh xl xh k).1 (arcC yl yh xl xh k).2 (dirW (arcC yl yh xl xh k).1 (arcC yl yh xl xh k).2) ∧ ∃ D, Num (dirW (arcC yl yh xl xh k).1 (arcC yl yh xl xh k).2) D ∧ HeadI (arcC yl yh xl xh k).2 (arcC yl yh xl xh k).1 D := by
    intro k hk
    rcases (show k = 0 ∨ k = 1 ∨ k = 2 by omega) with rfl | rfl | rfl
    · exact dirI_run yl xh b1 b2 b7 b8 (hz yl xh (.inl rfl) (.inr rfl))
    · exact dirI_run yh xl b3 b4 b5 b6 (hz yh xl (.inr rfl) (.inl rfl))
    · exact dirI_run yh xh b3 b4 b7 b8 (hz yh xh (.inr rfl) (.inr rfl))
  have ha : ∀ k, k < 3 → AdjP (dirW (arcC yl yh xl xh k).1 (arcC yl yh xl xh k).2) (dirW yl xl) (adjW (arcD yl yh xl xh k)) ∧ ∃ E : Rat, Num (adjW (arcD yl yh xl xh k)) E ∧ (∃ D, ∃ j : Int, HeadI (arcC yl yh xl xh k).2 (arcC yl yh xl xh k).1 D ∧ rabs (D0 + E - (D + (j : Rat) * 1000000000)) ≤ 4 / 10000000) ∧ rabs E ≤ 500000001 := by
    intro k hk
    obtain ⟨-, D, n, hd⟩ := hc k hk
    obtain ⟨a, E, j, e1, e2, e3⟩ := adj_run n n0 hd.b hd0.b
    exact ⟨a, E, e1, ⟨D, j, hd, e2⟩, e3⟩
  obtain ⟨-, E0, e01, e02, e03⟩ := ha 0 (by omega)
  obtain ⟨-, E1, e11, e12, e13⟩ := ha 1 (by omega)
  obtain ⟨-, E2, e21, e22, e23⟩ := ha 2 (by omega)
  have l1 := fminW_num num_zero e01
  have l2 := fminW_num l1.1 e11
  have l3 := fminW_num l2.1 e21
  have g1 := fmaxW_num num_zero e01
  have g2 := fmaxW_num g1.1 e11
  have g3 := fmaxW_num g2.1 e21
  have L3 : Num (arcLow yl yh xl xh 3) _ := l3.1
  have H3 : Num (arcHigh yl yh xl xh 3) _ := g3.1
  have m3 : ∀ (P : Nat → Prop), P 0 → P 1 → P 2 → ∀ k, k < 3 → P k := by
    intro P h0 h1 h2 k hk
    rcases (show k = 0 ∨ k = 1 ∨ k = 2 by omega) with rfl | rfl | rfl <;> assumption
  have bb0 := rabs_le.1 e03
  have bb1 := rabs_le.1 e13
  have bb2 := rabs_le.1 e23
  obtain ⟨L, hL, fL⟩ := min3 E0 E1 E2
  obtain ⟨H, hH, fH⟩ := max3 E0 E1 E2
  rw [hL] at L3
  rw [hH] at H3
  clear hL hH
  obtain ⟨f1, f2, f3, f4, f5⟩ := fL
  obtain ⟨k1, k2, k3, k4, k5⟩ := fH
  have z0 : rabs 0 ≤ 500000001 := by decide +kernel
  have lb : rabs L ≤ 500000001 := by rcases f5 with h | h | h | h <;> rw [h] <;> assumption
  have hb : rabs H ≤ 500000001 := by rcases k5 with h | h | h | h <;> rw [h] <;> assumption
  have D0b := rabs_le.1 hd0.b
  have lb1 := rabs_le.1 lb
  have hb1 := rabs_le.1 hb
  have q30 : p2 ((30 : Nat) : Int) = 1073741824 := by decide +kernel
  have n30 : p2 (((30 : Nat) : Int) - 53) ≤ 12 / 100000000 := by decide +kernel
  have t18 : (1 : Rat) / 10 ^ 18 ≤ 1 / 1000000000 := by decide +kernel
  have bD1 := D0b.1
  have bD2 := D0b.2
  have bL1 := lb1.1
  have bL2 := lb1.2
  have bH1 := hb1.1
  have bH2 := hb1.2
  have u1 : D0 + L ≤ 1000000002 := by clear hc ha hz; grind
  have u2 : -1000000002 ≤ D0 + L := by clear hc ha hz; grind
  have u3 : D0 + H ≤ 1000000002 := by clear hc ha hz; grind
  have u4 : -1000000002 ≤ D0 + H := by clear hc ha hz; grind
  obtain ⟨rl, a1, a2⟩ := add_ap 30 (by omega) n0.ap L3.ap (by rw [q30]; clear hc ha hz; grind) (by rw [q30]; clear hc ha hz; grind)
  obtain ⟨rh, c1, c2⟩ := add_ap 30 (by omega) n0.ap H3.ap (by rw [q30]; clear hc ha hz; grind) (by rw [q30]; clear hc ha hz; grind)
  obtain ⟨s1, s2, X1, X2, w1, w2, w3, w4, w5, w6, w7, w8, w9, w10, w11, w12, -, -⟩ := around_run 30 (by omega) a2 (by rw [q30]; clear hc ha hz; grind) (by rw [q30]; clear hc ha hz; grind)
  obtain ⟨s1', s2', X1', X2', v1, v2, v3, v4, v5, v6, v7, v8, v9, v10, -, -, v13, v14⟩ := around_run 30 (by omega) c2 (by rw [q30]; clear hc ha hz; grind) (by rw [q30]; clear hc ha hz; grind)
  have eL : arcLo yl yh xl xh = arLo rl := by unfold arcLo; rw [fadd_of a1]
  have eH : arcHi yl yh xl xh = arHi rh := by unfold arcHi; rw [fadd_of c1]
  refine ⟨⟨p0, fun k hk => (hc k hk).1, fun k hk => (ha k hk).1, ?_, ?_⟩, ?_, ?_, ⟨rl, a1⟩, ⟨rh, c1⟩, D0, (fun k => if k = 0 then E0 else if k = 1 then E1 else E2), L, H, ?_⟩
  · exact m3 _ l1.2 l2.2 l3.2
  · exact m3 _ g1.2 g2.2 g3.2
  · rw [fadd_of a1]; exact ⟨s1, s2, X1, X2, w1, w2, w3, w4, w5, w6, w7, w8, w9, w10⟩
  · rw [fadd_of c1]; exact ⟨s1', s2', X1', X2', v1, v2, v3, v4, v5, v6, v7, v8, v9, v10⟩
  · refine ⟨hd0, m3 _ e02 e12 e22, m3 _ e03 e13 e23, f1, m3 _ f2 f3 f4, ?_, k1, m3 _ k2 k3 k4, ?_, ?_, ?_, ?_, ?_⟩
    · rcases f5 with h | h | h | h
      · exact .inl h
      · exact .inr ⟨0, by omega, h⟩
      · exact .inr ⟨1, by omega, h⟩
      · exact .inr ⟨2, by omega, h⟩
    · rcases k5 with h | h | h | h
      · exact .inl h
      · exact .inr ⟨0, by omega, h⟩
      · exact .inr ⟨1, by omega, h⟩
      · exact .inr ⟨2, by omega, h⟩
    · rw [eL]; clear hc ha hz; grind
    · rw [eL]; clear hc ha hz; grind
    · rw [eH]; clear hc ha hz; grind
    · rw [eH]; clear hc ha hz; grind
end
section
open Ieee
theorem rootFrom_gt (n : Nat) : ∀ todo root, n < (root + 2 ^ todo) * (root + 2 ^ todo) → n < (Datum.rootFrom n todo root + 1) * (Datum.rootFrom n todo root + 1)
  | 0, root, h => by unfold Datum.rootFrom; simpa using h
  | todo + 1, root, h => by
    unfold Datum.rootFrom
    dsimp only
    rw [Nat.one_shiftLeft]
    refine rootFrom_gt n todo _ ?_
    by_cases q : (root + 2 ^ todo) * (root + 2 ^ todo) ≤ n
    · rw [if_pos q]
      have e : root + 2 ^ todo + 2 ^ todo = root + 2 ^ (todo + 1) := by rw [Nat.pow_succ]; omega
      rw [e]; exact h
    · rw [if_neg q]; omega
theorem root_bits (n : Nat) (hn : n ≠ 0) : Datum.rootFrom n (n.log2 / 2 + 1) 0 * Datum.rootFrom n (n.log2 / 2 + 1) 0 ≤ n ∧ n < (Datum.rootFrom n (n.log2 / 2 + 1) 0 + 1) * (Datum.rootFrom n (n.log2 / 2 + 1) 0 + 1) := by
  refine ⟨rootFrom_le n _ 0 (by simp), rootFrom_gt n _ 0 ?_⟩
  have h := lt_two_log2 n
  rw [Nat.zero_add, ← Nat.pow_add]
  exact Nat.lt_of_lt_of_le h (Nat.pow_le_pow_right (by omega) (by omega))
theorem root_lo {T V : Rat} (T0 : 0 ≤ T) (h : V - 1 / 1000000000000000 * V ≤ T * T) (h0 : 1 ≤ V) : 9/10 ≤ T := by
  by_cases q : 9/10 ≤ T
  · exact q
  · have m1 := Rat.mul_nonneg T0 (show 0 ≤ 9/10 - T by grind)
    grind
theorem root_hi {T V : Rat} (T0 : 0 ≤ T) (h : T * T ≤ V + 1 / 1000000000000000 * V) (h0 : 1 ≤ V) (h1 : V ≤ 4611686018427387904) : T ≤ 4611686018427387905 := by
  by_cases q : T ≤ 4611686018427387905
  · exact q
  · have m1 := Rat.mul_nonneg (show 0 ≤ T - 2 by grind) T0
    grind
theorem sqrt_near {x : Nat} {V : Rat} (hx : Num x V) (h0 : 1 ≤ V) (h1 : V ≤ p2 62) : ∃ r R, double.sqrt x = some r ∧ r < 9223372036854775808 ∧ Num r R ∧ 0 ≤ R ∧ rabs (R * R - V) ≤ 5 / 1000000000000000 * V := by
  obtain ⟨s, m, i, hr, hv⟩ := hx
  have hs : s = false := by
    cases s
    · rfl
    · have := mp_nonneg m i
      unfold rv at hv
      simp at hv
      grind
  subst hs
  have hm : m ≠ 0 := by
    rintro rfl
    unfold rv at hv
    simp at hv
    grind
  unfold Reads at hr
  have hfb : double.fractionBits + 2 = 54 := rfl
  unfold Format.sqrt
  rw [hr, hfb]
  unfold Datum.root
  dsimp only
  rw [if_neg hm]
  simp only [Bool.false_eq_true, if_false]
  generalize hm1 : 2 * 54 - m.log2 = more1
  generalize hmore : more1 + ((i - (more1 : Int)) % 2).toNat = more
  have hev : 2 * ((i - (more : Int)) / 2) = i - more := by omega
  generalize hE : (i - (more : Int)) / 2 = E at *
  have hn0 : m <<< more ≠ 0 := by rw [Nat.shiftLeft_eq]; exact Nat.mul_ne_zero hm (by have := Nat.two_pow_pos more; omega)
  obtain ⟨w1, w2⟩ := root_bits (m <<< more) hn0
  have hbig : 2 ^ 108 ≤ m <<< more := by
    rw [Nat.shiftLeft_eq]
    have l1 := two_log2_le hm
    refine Nat.le_trans ?_ (Nat.mul_le_mul_right _ l1)
    rw [← Nat.pow_add]
    exact Nat.pow_le_pow_right (by omega) (by omega)
  generalize Datum.rootFrom (m <<< more) ((m <<< more).log2 / 2 + 1) 0 = w at *
  have hw : 18014398509481983 ≤ w := by
    by_cases q : 18014398509481983 ≤ w
    · exact q
    · exfalso
      have : (w + 1) * (w + 1) ≤ 18014398509481984 * 18014398509481984 := Nat.mul_le_mul (by omega) (by omega)
      have e : (2 : Nat) ^ 108 = 18014398509481984 * 18014398509481984 := by decide
      omega
  obtain ⟨b, hb, hb1⟩ : ∃ b : Nat, (w * w != m <<< more).toNat = b ∧ b ≤ 1 := ⟨_, rfl, by cases (w * w != m <<< more) <;> simp⟩
  rw [hb]
  obtain ⟨n, hn⟩ : ∃ n, m <<< more = n := ⟨_, rfl⟩
  have hnv : V = (n : Rat) * (p2 E * p2 E) := by
    rw [← hv, ← hn, Nat.shiftLeft_eq]
    unfold rv
    simp only [Bool.false_eq_true, if_false]
    have hpi : p2 i = ((2 ^ more : Nat) : Rat) * (p2 E * p2 E) := by
      rw [← p2_nat, ← p2_add, ← p2_add]
      congr 1
      omega
    rw [hpi]
    push_cast
    grind
  rw [hn] at w1 w2
  clear hn hn0 hbig hb hm hr hv
  have W1 := cast_le w1
  have W2 := cast_le (show n + 1 ≤ (w + 1) * (w + 1) by omega)
  have W3 := cast_le hw
  have B1 : (b : Rat) ≤ 1 := by exact_mod_cast hb1
  have B0 : (0 : Rat) ≤ (b : Rat) := by exact_mod_cast Nat.zero_le b
  have pE := p2_pos E
  have half := p2_half E
  push_cast at W1 W2
  have c3 : ((18014398509481983 : Nat) : Rat) = 18014398509481983 := rfl
  rw [c3] at W3
  -- the written number
  obtain ⟨T, hT⟩ : ∃ T, ((2 * w + b : Nat) : Rat) * p2 (E - 1) = T := ⟨_, rfl⟩
  have hT2 : T = ((w : Rat) + (b : Rat) / 2) * p2 E := by
    rw [← hT]; push_cast; rw [← half]; grind
  have w0 : (0 : Rat) ≤ (w : Rat) := by grind
  have k1 : (w : Rat) * 18014398509481983 ≤ (w : Rat) * w := Rat.mul_le_mul_of_nonneg_left W3 w0
  have tt : rabs (((w : Rat) + (b : Rat) / 2) * ((w : Rat) + (b : Rat) / 2) - n) ≤ 1 / 1000000000000000 * (n : Rat) := by
    have bw := Rat.mul_le_mul_of_nonneg_left B1 w0
    have bw0 := Rat.mul_nonneg w0 B0
    have bb := Rat.mul_le_mul_of_nonneg_left B1 B0
    have bb0 := Rat.mul_nonneg B0 B0
    rw [rabs_le]
    constructor <;> grind
  have q0 : 0 ≤ p2 E * p2 E := Rat.le_of_lt (Rat.mul_pos pE pE)
  have TV : rabs (T * T - V) ≤ 1 / 1000000000000000 * V := by
    have e : T * T - V = (((w : Rat) + (b : Rat) / 2) * ((w : Rat) + (b : Rat) / 2) - n) * (p2 E * p2 E) := by rw [hT2, hnv]; grind
    rw [e, rabs_mul, rabs_pos q0, hnv]
    have := Rat.mul_le_mul_of_nonneg_right tt q0
    grind
  have T0 : 0 ≤ T := by
    rw [hT2]
    exact Rat.mul_nonneg (by grind) (Rat.le_of_lt pE)
  have tv := rabs_le.1 TV
  have p62 : p2 62 = 4611686018427387904 := by decide +kernel
  rw [p62] at h1
  have Tlo : 9/10 ≤ T := root_lo T0 (by clear hnv hT2 tt; grind) h0
  have Thi : T ≤ 4611686018427387905 := root_hi T0 (by clear hnv hT2 tt; grind) h0 h1
  have p65 : (2 : Rat) * 4611686018427387905 ≤ p2 ((65 : Nat) : Int) := by decide +kernel
  obtain ⟨K, kk1, kk2, kk3⟩ := pow_near T T0 65 (by grind)
  obtain ⟨e1, e2⟩ := p2_err K
  obtain ⟨m', p', n1, n2, n3⟩ := nearest_near false (2 * w + b) (E - 1) K (by omega) (by rw [hT]; grind)
  rw [hT] at n2 n3
  refine ⟨double.write (.number false (2 * w + b) (E - 1)), (m' : Rat) * p2 p', rfl, nearest_lt63 _ _, ⟨false, m', p', n1, by unfold rv; simp⟩, mp_nonneg m' p', ?_⟩
  generalize (m' : Rat) * p2 p' = R at *
  have d : rabs (R - T) ≤ 8 / 10000000000000000 * T := rabs_le.2 ⟨by grind, by grind⟩
  have dd := rabs_le.1 d
  have sR : rabs (R + T) ≤ 3 * T := rabs_le.2 ⟨by grind, by grind⟩
  have m2 := rabs_le.1 (mul_rabs d sR)
  have e : R * R - V = (R - T) * (R + T) + (T * T - V) := by grind
  rw [e, rabs_le]
  constructor <;> grind
end
end Go.Proofs.YtcgnhnmigmdalaaGreatDoor
