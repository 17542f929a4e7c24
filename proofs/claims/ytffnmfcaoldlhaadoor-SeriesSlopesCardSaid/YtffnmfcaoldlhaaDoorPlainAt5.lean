/- What math.atan2 answers at two words, and the angle of a direction. No program in sight. -/
import Derived.Test.YtffnmfcaoldlhaaDoorPlainAt4
import Derived.Test.YtffnmfcaoldlhaaDoorFltC
set_option linter.unusedVariables false
set_option linter.unusedSimpArgs false
namespace Go.Proofs.YtffnmfcaoldlhaaDoor
open Ieee
/-- A power of two that is near to a number. -/
theorem pow_near (v : Rat) (hv : 0 ≤ v) : ∀ n : Nat, 2 * v ≤ p2 (n : Int) → ∃ K, K ≤ n ∧ 2 * v ≤ p2 (K : Int) ∧ p2 (K : Int) ≤ 4 * v + 2
  | 0, h => ⟨0, Nat.le_refl _, h, by have e : p2 ((0 : Nat) : Int) = 1 := by decide +kernel
                                     rw [e]; grind⟩
  | n + 1, h => by
    by_cases q : 2 * v ≤ p2 (n : Int)
    · obtain ⟨K, k1, k2, k3⟩ := pow_near v hv n q
      exact ⟨K, by omega, k2, k3⟩
    · refine ⟨n + 1, Nat.le_refl _, h, ?_⟩
      have e : p2 ((n + 1 : Nat) : Int) = 2 * p2 (n : Int) := by
        have : ((n + 1 : Nat) : Int) = (n : Int) + 1 := by omega
        rw [this, p2_add]
        have : p2 1 = 2 := by decide +kernel
        rw [this]; grind
      rw [e]; grind
theorem p2_err (K : Nat) : p2 ((K : Int) - 53) ≤ p2 (K : Int) * (12 / 100000000000000000) ∧ p2 ((K : Int) - 54) ≤ p2 (K : Int) * (6 / 100000000000000000) := by
  have h := p2_pos (K : Int)
  have e1 : p2 (-53) ≤ 12 / 100000000000000000 := by decide +kernel
  have e2 : p2 (-54) ≤ 6 / 100000000000000000 := by decide +kernel
  have a1 : (K : Int) - 53 = (K : Int) + (-53) := by omega
  have a2 : (K : Int) - 54 = (K : Int) + (-54) := by omega
  rw [a1, a2, p2_add, p2_add]
  have m1 := Rat.mul_le_mul_of_nonneg_left e1 (Rat.le_of_lt h)
  have m2 := Rat.mul_le_mul_of_nonneg_left e2 (Rat.le_of_lt h)
  exact ⟨m1, m2⟩
theorem rabs_inv {x : Rat} (h : x ≠ 0) : rabs x⁻¹ * rabs x = 1 := by
  rw [← rabs_mul]
  have := Rat.mul_inv_cancel x h
  have e : x⁻¹ * x = 1 := by grind
  rw [e]; decide +kernel
theorem fneg_num {w : Nat} {X : Rat} (h : Num w X) : Num (fneg w) (-X) := (fneg_ap h.ap).num0
theorem rabs_zero {x : Rat} (h : rabs x ≤ 0) : x = 0 := by have := rabs_le.1 h; grind
theorem quo_run {y x : Nat} {Y X : Rat} (ny : Num y Y) (nx : Num x X) (x1 : 1/2 ≤ rabs X) (y2 : rabs Y ≤ 9000000000000000000) :
    ∃ q V, double.div y x = some q ∧ Num q V ∧ rabs (V * X - Y) ≤ 1 / 100000000000000 * (rabs X + rabs Y) ∧ rabs V ≤ 40000000000000000000 := by
  obtain ⟨s, m, i, h1, h2⟩ := ny
  obtain ⟨t, n, j, g1, g2⟩ := nx
  have hX0 : X ≠ 0 := by
    intro h
    rw [h] at x1
    have : rabs 0 = 0 := by decide +kernel
    rw [this] at x1
    grind
  have hn : n ≠ 0 := by
    rintro rfl
    unfold rv at g2
    simp at g2
    exact hX0 g2.symm
  have iv := rabs_inv hX0
  have i0 := rabs_nonneg X⁻¹
  have i2 : rabs X⁻¹ ≤ 2 := by
    have := Rat.mul_nonneg i0 (show 0 ≤ rabs X - 1/2 by grind)
    grind
  have hv : rabs (Y / X) = rabs Y * rabs X⁻¹ := by rw [Rat.div_def, rabs_mul]
  have v0 := rabs_nonneg (Y / X)
  have y0 := rabs_nonneg Y
  have v1 : rabs (Y / X) ≤ 18000000000000000000 := by
    rw [hv]
    have m1 := Rat.mul_le_mul_of_nonneg_left i2 y0
    grind
  have hXq : rabs X * rabs (Y / X) = rabs Y := by rw [hv]; grind
  have p66 : (2 : Rat) * 18000000000000000000 ≤ p2 ((66 : Nat) : Int) := by decide +kernel
  obtain ⟨K, k1, k2, k3⟩ := pow_near (rabs (Y / X)) v0 66 (by grind)
  obtain ⟨e1, e2⟩ := p2_err K
  have vv := rabs_le.1 (show rabs (Y / X) ≤ rabs (Y / X) from Rat.le_refl)
  have pk := p2_pos (K : Int)
  have p1 : 1 ≤ p2 (K : Int) := by
    have := p2_mono (a := 0) (b := (K : Int)) (by omega)
    rw [p2_zero] at this
    exact this
  obtain ⟨r, r1, r2⟩ := div_val (s := s) (t := t) (m := m) (n := n) (i := i) (j := j) K (by omega) h1 g1 hn (by rw [h2, g2]; grind) (by rw [h2, g2]; grind)
  rw [h2, g2] at r2
  obtain ⟨V, n1, n2, n3⟩ := r2.num
  have err : rabs (V - Y / X) ≤ 8 / 10000000000000000 * (1 + rabs (Y / X)) := rabs_le.2 ⟨by grind, by grind⟩
  refine ⟨r, V, r1, n1, ?_, ?_⟩
  · have m1 := mul_rabs (show rabs X ≤ rabs X from Rat.le_refl) err
    have e : X * (V - Y / X) = V * X - Y := by
      have : X * (Y / X) = Y := by rw [Rat.div_def]; have := Rat.mul_inv_cancel X hX0; grind
      grind
    rw [e] at m1
    have e3 : rabs X * (8 / 10000000000000000 * (1 + rabs (Y / X))) = 8 / 10000000000000000 * (rabs X + rabs X * rabs (Y / X)) := by grind
    rw [e3, hXq] at m1
    have x0 := rabs_nonneg X
    grind
  · have t := rabs_add (V - Y / X) (Y / X)
    have e : V - Y / X + Y / X = V := by grind
    rw [e] at t
    grind
/-- What math.atan runs through. -/
def AtanP (q : Nat) (V : Rat) (r : Nat) : Prop := (V = 0 ∧ r = q) ∨ (0 < V ∧ SatP q V r) ∨ (V < 0 ∧ ∃ s, SatP (fneg q) (-V) s ∧ r = fneg s)
theorem atan_run {q : Nat} {V : Rat} (hq : Num q V) : ∃ r θ, AtanP q V r ∧ Ap r θ (3 / 10000000000000) ∧ TanS V θ := by
  by_cases h0 : V = 0
  · refine ⟨q, 0, .inl ⟨h0, rfl⟩, ?_, ?_⟩
    · subst h0; exact hq.ap.mono (by grind)
    · subst h0
      have e1 : S 0 = 0 := by decide +kernel
      have e2 : C 0 = 1 := by decide +kernel
      have e3 : rabs 0 = 0 := by decide +kernel
      have hp := pi_num
      refine ⟨?_, ?_, by grind, by grind⟩
      · rw [e1, e2]; decide +kernel
      · rw [e1, e2, e3]; decide +kernel
  by_cases h1 : 0 < V
  · obtain ⟨r, a, s1, s2, s3⟩ := sat_run hq (Rat.le_of_lt h1)
    exact ⟨r, a, .inr (.inl ⟨h1, s1⟩), s2, s3.pos (Rat.le_of_lt h1)⟩
  · have h2 : V < 0 := by grind
    obtain ⟨r, a, s1, s2, s3⟩ := sat_run (fneg_num hq) (show 0 ≤ -V by grind)
    have t := s3.neg (show 0 ≤ -V by grind)
    have e : - -V = V := by grind
    rw [e] at t
    exact ⟨fneg r, -a, .inr (.inr ⟨h2, r, s1, rfl⟩), fneg_ap s2, t⟩
/-- What math.atan2 runs through. -/
def At2P (y : Nat) (Y : Rat) (x : Nat) (X : Rat) (r : Nat) : Prop :=
  (Y = 0 ∧ 0 < X ∧ r = 0) ∨ (Y = 0 ∧ X < 0 ∧ r = wPiA) ∨ (X = 0 ∧ 0 < Y ∧ r = wPi2) ∨ (X = 0 ∧ Y < 0 ∧ r = fneg wPi2) ∨
  (Y ≠ 0 ∧ X ≠ 0 ∧ ∃ q V a v, double.div y x = some q ∧ Num q V ∧ rabs V ≤ 40000000000000000000 ∧ AtanP q V a ∧ Num a v ∧ ((0 < X ∧ r = a) ∨ (X < 0 ∧ v ≤ 0 ∧ double.add a wPiA = some r) ∨ (X < 0 ∧ 0 < v ∧ double.sub a wPiA = some r)))
theorem S0C0 : S 0 = 0 ∧ C 0 = 1 := by decide +kernel
theorem at2_run {y x : Nat} {Y X : Rat} (ny : Num y Y) (nx : Num x X) (x1 : X = 0 ∨ 1/2 ≤ rabs X) (x2 : rabs X ≤ 9000000000000000000) (y2 : rabs Y ≤ 9000000000000000000) (h0 : Y ≠ 0 ∨ X ≠ 0) :
    ∃ r θ, At2P y Y x X r ∧ Ap r θ (1 / 1000000000000) ∧ Dir X Y θ := by
  have hp := pi_num
  obtain ⟨c1, c2⟩ := S0C0
  obtain ⟨p1, p2', p3, p4, -⟩ := at_pi
  obtain ⟨w1, w2, w3, w4, w5, w6⟩ := sat_ap
  have e0 : rabs 0 = 0 := by decide +kernel
  by_cases hX : X = 0
  · have hY : Y ≠ 0 := by rcases h0 with h | h; exact h; exact absurd hX h
    by_cases hy : 0 < Y
    · refine ⟨wPi2, piQ / 2, .inr (.inr (.inl ⟨hX, hy, rfl⟩)), w1.mono (by grind), ?_⟩
      have ry := rabs_pos (Rat.le_of_lt hy)
      subst hX
      have m1 := rabs_le.1 (mul_rabs (show rabs Y ≤ Y by grind) p4)
      have m2 := rabs_le.1 (mul_rabs (show rabs Y ≤ Y by grind) p3)
      refine ⟨?_, ?_, rabs_le.2 ⟨by grind, by grind⟩⟩
      · rw [e0, ry, rabs_le]; constructor <;> grind
      · rw [e0, ry]; grind
    · have hy : Y < 0 := by grind
      refine ⟨fneg wPi2, -(piQ / 2), .inr (.inr (.inr (.inl ⟨hX, hy, rfl⟩))), (fneg_ap w1).mono (by grind), ?_⟩
      have ry : rabs Y = -Y := by unfold rabs; rw [if_neg (by grind)]
      subst hX
      have m1 := rabs_le.1 (mul_rabs (show rabs Y ≤ -Y by grind) p4)
      have m2 := rabs_le.1 (mul_rabs (show rabs Y ≤ -Y by grind) p3)
      refine ⟨?_, ?_, rabs_le.2 ⟨by grind, by grind⟩⟩
      · rw [S_neg, C_neg, e0, ry, rabs_le]; constructor <;> grind
      · rw [S_neg, C_neg, e0, ry]; grind
  have x1 : 1/2 ≤ rabs X := by rcases x1 with h | h; exact absurd h hX; exact h
  by_cases hY : Y = 0
  · subst hY
    by_cases hx : 0 < X
    · refine ⟨0, 0, .inl ⟨rfl, hx, rfl⟩, num_zero.ap.mono (by grind), ?_⟩
      have rx := rabs_pos (Rat.le_of_lt hx)
      refine ⟨?_, ?_, by rw [e0]; grind⟩
      · rw [c1, c2, e0, rx, rabs_le]; constructor <;> grind
      · rw [c1, c2, e0, rx]; grind
    · have hx : X < 0 := by grind
      refine ⟨wPiA, piQ, .inr (.inl ⟨rfl, hx, rfl⟩), w5.mono (by grind), ?_⟩
      have rx : rabs X = -X := by unfold rabs; rw [if_neg (by grind)]
      have m1 := rabs_le.1 (mul_rabs (show rabs X ≤ -X by grind) p1)
      have m2 := rabs_le.1 (mul_rabs (show rabs X ≤ -X by grind) p2')
      refine ⟨?_, ?_, rabs_le.2 ⟨by grind, by grind⟩⟩
      · rw [e0, rx, rabs_le]; constructor <;> grind
      · rw [e0, rx]; grind
  · obtain ⟨q, V, q1, q2, q3, q4⟩ := quo_run ny nx x1 y2
    obtain ⟨a, θ, a1, a2, a3⟩ := atan_run q2
    obtain ⟨v, v1, v2, v3⟩ := a2.num
    have b0 := a3.a0
    have b1 := a3.a1
    by_cases hx : 0 < X
    · exact ⟨a, θ, .inr (.inr (.inr (.inr ⟨hY, hX, q, V, a, v, q1, q2, q4, a1, v1, .inl ⟨hx, rfl⟩⟩))), a2.mono (by grind), a3.dir1 hx q3⟩
    · have hx : X < 0 := by grind
      have q3' : rabs (V * -X - -Y) ≤ 1 / 100000000000000 * (rabs (-X) + rabs (-Y)) := by
        have e : V * -X - -Y = -(V * X - Y) := by grind
        rw [e, rabs_neg, rabs_neg, rabs_neg]; exact q3
      obtain ⟨d1, d2⟩ := a3.dir (X := -X) (Y := -Y) (by grind) q3'
      have k2 : p2 ((3 : Nat) : Int) = 8 := by decide +kernel
      have nm2 : p2 (((3 : Nat) : Int) - 53) ≤ 96 / 100000000000000000 := by decide +kernel
      rw [rabs_neg, rabs_neg] at d1
      by_cases hv : v ≤ 0
      · obtain ⟨r, f1, f2⟩ := add_ap 3 (by omega) a2 w5 (by rw [k2]; grind) (by rw [k2]; grind)
        have e : θ + piQ = θ + 1 * piQ := by grind
        refine ⟨r, θ + 1 * piQ, .inr (.inr (.inr (.inr ⟨hY, hX, q, V, a, v, q1, q2, q4, a1, v1, .inr (.inl ⟨hx, hv, f1⟩)⟩))), ?_, Dir.half d2 1 (.inl rfl) (rabs_le.2 ⟨by grind, by grind⟩) d1.1 d1.2⟩
        rw [e] at f2
        exact f2.mono (by grind)
      · obtain ⟨r, f1, f2⟩ := sub_ap 3 (by omega) a2 w5 (by rw [k2]; grind) (by rw [k2]; grind)
        have e : θ - piQ = θ + -1 * piQ := by grind
        refine ⟨r, θ + -1 * piQ, .inr (.inr (.inr (.inr ⟨hY, hX, q, V, a, v, q1, q2, q4, a1, v1, .inr (.inr ⟨hx, by grind, f1⟩)⟩))), ?_, Dir.half d2 (-1) (.inr rfl) (rabs_le.2 ⟨by grind, by grind⟩) d1.1 d1.2⟩
        rw [e] at f2
        exact f2.mono (by grind)
/-- The units of angles in radians. -/
def tq : Rat := 2 * piQ / 1000000000
/-- The direction of a pair of numbers, by an angle in units. -/
structure Head (X Y D : Rat) : Prop where
  n : rabs (X * S (tq * D) - Y * C (tq * D)) ≤ 4 / 100000000000 * (rabs X + rabs Y)
  p : (rabs X + rabs Y) / 5 ≤ X * C (tq * D) + Y * S (tq * D)
  b : rabs D ≤ 500000000 + 1 / 100
def w2Pi : Nat := 4618760256179416344
theorem tq_num : 628318 / 100000000000000 ≤ tq ∧ tq ≤ 628319 / 100000000000000 ∧ rabs (tq * 1000000000 - cv w2Pi) ≤ 1 / 1000000000000000 ∧ rabs (tq * (500000000 + 1 / 100)) ≤ 31416 / 10000 + 1/100000 ∧ 62831/10000 ≤ cv w2Pi ∧ cv w2Pi ≤ 62832/10000 ∧ cv wTurn = 1000000000 ∧ tq * 500000000 = piQ := by decide +kernel
theorem dir_run {y x : Nat} {Y X : Rat} (ny : Num y Y) (nx : Num x X) (x1 : X = 0 ∨ 1/2 ≤ rabs X) (x2 : rabs X ≤ 9000000000000000000) (y2 : rabs Y ≤ 9000000000000000000) (h0 : Y ≠ 0 ∨ X ≠ 0) :
    ∃ r d f D, At2P y Y x X r ∧ double.div r w2Pi = some d ∧ double.mul d wTurn = some f ∧ Num f D ∧ Head X Y D := by
  obtain ⟨r, θ, a1, a2, a3⟩ := at2_run ny nx x1 x2 y2 h0
  obtain ⟨t1, t2, t3, t4, t5, t6, t7, t8⟩ := tq_num
  have hp := pi_num
  have hb := rabs_le.1 a3.b
  have k0 : p2 ((0 : Nat) : Int) = 1 := by decide +kernel
  have nn : p2 (((0 : Nat) : Int) - 53) ≤ 12 / 100000000000000000 := by decide +kernel
  have nn1 : p2 (((0 : Nat) : Int) - 54) ≤ 12 / 100000000000000000 := by decide +kernel
  have k30 : p2 ((30 : Nat) : Int) = 1073741824 := by decide +kernel
  have n30 : p2 (((30 : Nat) : Int) - 53) ≤ 2 / 10000000 := by decide +kernel
  have cw := cv_ap (show isNum w2Pi = true by decide +kernel)
  have ct := cv_ap (show isNum wTurn = true by decide +kernel)
  rw [t7] at ct
  have hw0 : cv w2Pi ≠ 0 := by grind
  have iw := Rat.mul_inv_cancel (cv w2Pi) hw0
  have iw0 : 0 < (cv w2Pi)⁻¹ := Rat.inv_pos.2 (by grind)
  have hθ : θ / cv w2Pi * cv w2Pi = θ := Rat.div_mul_cancel hw0
  have hM : rabs (θ / cv w2Pi) ≤ 51/100 := by
    rw [Rat.div_def, rabs_le]
    have m1 := Rat.mul_nonneg (show 0 ≤ 51/100 * cv w2Pi - θ by grind) (Rat.le_of_lt iw0)
    have m2 := Rat.mul_nonneg (show 0 ≤ 51/100 * cv w2Pi + θ by grind) (Rat.le_of_lt iw0)
    constructor <;> grind
  obtain ⟨d, d1, d2⟩ := div_ap 6 (51/100) 0 (by omega) a2 cw (by grind) (by grind) hM (by rw [k0]; grind)
  have d2 := d2.mono (e' := 17 / 100000000000000) (by grind)
  have M1 := rabs_le.1 hM
  obtain ⟨f, f1, f2⟩ := mul_ap (51/100) 1000000000 30 (by omega) d2 ct M1.1 M1.2 (by grind) (by grind) (by rw [k30]; grind)
  have f2 := f2.mono (e' := 2 / 10000) (by grind)
  obtain ⟨D, n1, n2, n3⟩ := f2.num
  refine ⟨r, d, f, D, a1, d1, f1, n1, ?_⟩
  generalize hq : θ / cv w2Pi = Q at *
  have m3 := rabs_le.1 (mul_rabs hM t3)
  have e3 : Q * (tq * 1000000000 - cv w2Pi) = tq * (Q * 1000000000) - θ := by grind
  rw [e3] at m3
  have dd : rabs (D - Q * 1000000000) ≤ 2 / 10000 := rabs_le.2 ⟨by grind, by grind⟩
  have m4 := rabs_le.1 (mul_rabs (show rabs tq ≤ 628319 / 100000000000000 from rabs_le.2 ⟨by grind, by grind⟩) dd)
  have near : rabs (tq * D - θ) ≤ 2 / 1000000000000 := by
    rw [rabs_le]
    constructor <;> grind
  have near1 := rabs_le.1 near
  have db : rabs D ≤ 500000000 + 1 / 100 := by
    have g : ∀ {z : Rat}, tq * z ≤ piQ + 13 / 1000000000000 → z ≤ 500000000 + 1/100 := by
      intro z hz
      by_cases q : z ≤ 500000000 + 1/100
      · exact q
      · exfalso
        have m := Rat.mul_nonneg (show 0 ≤ tq by grind) (show 0 ≤ z - (500000000 + 1/100) by grind)
        clear near near1 m4 m3 hM hθ iw iw0 e3 dd n2 n3 d2 f2 a2
        grind
    exact rabs_le.2 ⟨g (by grind), by have := g (z := -D) (by grind); grind⟩
  have lip := sin_lipQ (x := tq * D) (y := θ) (rabs_le.2 ⟨by grind, by grind⟩) (rabs_le.2 ⟨by grind, by grind⟩)
  have l1 : rabs (S (tq * D) - S θ) ≤ 3 / 1000000000000 := by grind
  have l2 : rabs (C (tq * D) - C θ) ≤ 3 / 1000000000000 := by grind
  have g1 := rabs_le.1 (mul_rabs (show rabs X ≤ rabs X from Rat.le_refl) l1)
  have g2 := rabs_le.1 (mul_rabs (show rabs X ≤ rabs X from Rat.le_refl) l2)
  have g3 := rabs_le.1 (mul_rabs (show rabs Y ≤ rabs Y from Rat.le_refl) l1)
  have g4 := rabs_le.1 (mul_rabs (show rabs Y ≤ rabs Y from Rat.le_refl) l2)
  have b1 := rabs_le.1 a3.n
  have b2 := a3.p
  have x0 := rabs_nonneg X
  have y0 := rabs_nonneg Y
  clear lip l1 l2 m4 m3 e3 dd near near1 hM hθ iw iw0 t3 t4 x1 x2 y2 h0 n2 n3 d2 f2 a2 M1 hb
  refine ⟨?_, ?_, db⟩
  all_goals
    generalize S (tq * D) = s at *
    generalize C (tq * D) = c at *
    generalize rabs X = ax at *
    generalize rabs Y = ay at *
  · rw [rabs_le]
    constructor <;> grind
  · grind
/-- A whole number in floating point, up to a part of itself. -/
theorem int_num (n : Int) (h1 : -2000000000000000000 ≤ n) (h2 : n ≤ 2000000000000000000) : ∃ N, Num (fofI n) N ∧ rabs (N - (n : Rat)) ≤ 1 / 1000000000000000 * rabs (n : Rat) ∧ (n = 0 → N = 0 ∧ fofI n = 0) ∧ (n ≠ 0 → 1/2 ≤ rabs N) ∧ rabs N ≤ 3000000000000000000 := by
  have r1 : ((-2000000000000000000 : Int) : Rat) ≤ (n : Rat) := Rat.intCast_le_intCast.2 h1
  have r2 : (n : Rat) ≤ ((2000000000000000000 : Int) : Rat) := Rat.intCast_le_intCast.2 h2
  have c1 : ((-2000000000000000000 : Int) : Rat) = -2000000000000000000 := rfl
  have c2 : ((2000000000000000000 : Int) : Rat) = 2000000000000000000 := rfl
  rw [c1] at r1
  rw [c2] at r2
  by_cases h0 : n = 0
  · subst h0
    have e : fofI 0 = 0 := by decide +kernel
    have e2 : ((0 : Int) : Rat) = 0 := rfl
    have e3 : rabs 0 = 0 := by decide +kernel
    refine ⟨0, by rw [e]; exact num_zero, ?_, fun _ => ⟨rfl, e⟩, fun h => absurd rfl h, by rw [e3]; decide +kernel⟩
    rw [e2]; decide +kernel
  · have hb : rabs (n : Rat) ≤ 2000000000000000000 := rabs_le.2 ⟨r2, r1⟩
    have n1 : 1 ≤ rabs (n : Rat) := by
      unfold rabs
      split
      · rename_i h
        have : (0 : Int) ≤ n := by exact_mod_cast h
        have : (1 : Int) ≤ n := by omega
        have := Rat.intCast_le_intCast.2 this
        exact this
      · rename_i h
        have : ¬ (0 : Int) ≤ n := fun q => h (by exact_mod_cast q)
        have : n ≤ (-1 : Int) := by omega
        have := Rat.intCast_le_intCast.2 this
        have c : ((-1 : Int) : Rat) = -1 := rfl
        rw [c] at this
        grind
    have nn := rabs_le.1 (show rabs (n : Rat) ≤ rabs (n : Rat) from Rat.le_refl)
    have p63 : (2 : Rat) * 2000000000000000000 ≤ p2 ((63 : Nat) : Int) := by decide +kernel
    obtain ⟨K, k1, k2, k3⟩ := pow_near (rabs (n : Rat)) (rabs_nonneg _) 63 (by grind)
    obtain ⟨e1, e2⟩ := p2_err K
    obtain ⟨N, m1, m2, m3⟩ := (fofI_ap n K (by omega) (by grind) (by grind)).num
    have err : rabs (N - (n : Rat)) ≤ 1 / 1000000000000000 * rabs (n : Rat) := rabs_le.2 ⟨by grind, by grind⟩
    refine ⟨N, m1, err, fun h => absurd h h0, fun _ => ?_, ?_⟩
    · have t := rabs_add ((n : Rat) - N) N
      have e : (n : Rat) - N + N = n := by grind
      have e5 : rabs ((n : Rat) - N) = rabs (N - (n : Rat)) := by
        have : (n : Rat) - N = -(N - (n : Rat)) := by grind
        rw [this, rabs_neg]
      rw [e, e5] at t
      grind
    · have t := rabs_add (N - (n : Rat)) n
      have e : N - (n : Rat) + n = N := by grind
      rw [e] at t
      grind
end Go.Proofs.YtffnmfcaoldlhaaDoor
