/- math.Cos, and math.Sin at negative numbers, as functions of words. No program in sight. -/
import Derived.Test.YtjkhoepohiafeaaDoorTrA
import Derived.Test.YtjkhoepohiafeaaDoorTrB
import Derived.Test.YtjkhoepohiafeaaDoorFltC
set_option linter.unusedVariables false
set_option linter.unusedSimpArgs false
namespace Go.Proofs.YtjkhoepohiafeaaDoor
open Ieee
def cosW (x : Nat) : Nat :=
  (fun h => (fun z => pick4 h (cosPW z) (fneg (sinPW z)) (fneg (cosPW z)) (sinPW z)) (redW x (evW h))) (((fcut (fmul x wC4)).toNat + 1) / 2)
theorem cos_quart {Z : Rat} (hz : rabs Z ≤ 393/500) : rabs (C (Z + piQ / 2) + S Z) ≤ 2 / 10000000000000 ∧ rabs (C (Z + piQ) + C Z) ≤ 2 / 10000000000000 ∧ rabs (C (Z + 3 * piQ / 2) - S Z) ≤ 5 / 10000000000000 ∧ rabs (C (Z + 2 * piQ) - C Z) ≤ 5 / 10000000000000 := by
  have hp := pi_num
  obtain ⟨p1, p2, p3, p4, -⟩ := at_pi
  have hz' := rabs_le.1 hz
  have z32 : rabs Z ≤ 32/5 := by grind
  have h2 : rabs (piQ / 2) ≤ 16/5 := rabs_le.2 ⟨by grind, by grind⟩
  have h1 : rabs piQ ≤ 16/5 := rabs_le.2 ⟨by grind, by grind⟩
  have zp : rabs (Z + piQ) ≤ 32/5 := rabs_le.2 ⟨by grind, by grind⟩
  have b := SC_bd z32
  have bp := SC_bd zp
  have a1 := rabs_le.1 (cos_add z32 h2)
  have a2 := rabs_le.1 (cos_add z32 h1)
  have a3 := rabs_le.1 (sin_add z32 h1)
  have a4 := rabs_le.1 (cos_add zp h2)
  have a5 := rabs_le.1 (cos_add zp h1)
  rw [show Z + piQ + piQ / 2 = Z + 3 * piQ / 2 by grind] at a4
  rw [show Z + piQ + piQ = Z + 2 * piQ by grind] at a5
  have m1 := rabs_le.1 (mul_rabs b.2 p4)
  have m2 := rabs_le.1 (mul_rabs b.1 p3)
  have m3 := rabs_le.1 (mul_rabs b.2 p2)
  have m4 := rabs_le.1 (mul_rabs b.1 p1)
  have m5 := rabs_le.1 (mul_rabs b.1 p2)
  have m6 := rabs_le.1 (mul_rabs b.2 p1)
  have m7 := rabs_le.1 (mul_rabs bp.2 p4)
  have m8 := rabs_le.1 (mul_rabs bp.1 p3)
  have m9 := rabs_le.1 (mul_rabs bp.2 p2)
  have m10 := rabs_le.1 (mul_rabs bp.1 p1)
  clear p1 p2 p3 p4 hz z32 h2 h1 zp b bp hp hz'
  generalize S (piQ / 2) = s2 at *
  generalize C (piQ / 2) = c2 at *
  generalize S piQ = s1 at *
  generalize C piQ = c1 at *
  generalize S (Z + piQ) = sp at *
  generalize C (Z + piQ) = cp at *
  generalize S Z = sz at *
  generalize C Z = cz at *
  refine ⟨?_, ?_, ?_, ?_⟩
  · clear a2 a3 a4 a5 m3 m4 m5 m6 m7 m8 m9 m10
    rw [rabs_le]; constructor <;> grind
  · clear a1 a3 a4 a5 m1 m2 m5 m6 m7 m8 m9 m10
    rw [rabs_le]; constructor <;> grind
  · clear a1 a2 a5 m1 m2 m3 m4 m9 m10
    rw [rabs_le]; constructor <;> grind
  · clear a1 a3 a4 m1 m2 m5 m6 m7 m8
    rw [rabs_le]; constructor <;> grind
theorem cos_run {x : Nat} {X e : Rat} (hx : Ap x X e) (x0 : 0 ≤ X) (x7 : X ≤ 7) (he : e ≤ 7 / 1000000000000000) :
    ∃ t j h z ys yc, double.mul x wC4 = some t ∧ (double.read t).toInt .zero = some ((j : Nat) : Int) ∧ (h : Nat) = (j + 1) / 2 ∧ h ≤ 4 ∧ RedP x (evW h) z ∧ SinP z ys ∧ CosP z yc ∧
      cosW x = pick4 h yc (fneg ys) (fneg yc) ys ∧ Ap (cosW x) (C X) (6 / 10000000000000) := by
  have e0 := hx.pos
  have p4 : p2 ((4 : Nat) : Int) = 16 := by decide +kernel
  have n4 : p2 (((4 : Nat) : Int) - 53) ≤ 2 / 1000000000000000 := by decide +kernel
  have hc := cv_ap (show isNum wC4 = true by decide +kernel)
  have cb : cv wC4 ≤ 13/10 ∧ -(13/10) ≤ cv wC4 := by decide +kernel
  have cq : cv wC4 * (piQ / 4) ≤ 1 + 1 / 1000000000000000 ∧ 1 ≤ cv wC4 * (piQ / 4) + 1 / 1000000000000000 := by decide +kernel
  have c0 : (0 : Rat) < cv wC4 := by decide +kernel
  have c1 : 1 ≤ cv wC4 := by decide +kernel
  have pq : piQ / 4 ≤ 7854 / 10000 ∧ 7853 / 10000 ≤ piQ / 4 := by decide +kernel
  have tb : X * cv wC4 ≤ 91/10 ∧ 0 ≤ X * cv wC4 := by
    have m1 := Rat.mul_nonneg x0 (Rat.le_of_lt c0)
    have m2 := Rat.mul_le_mul_of_nonneg_right x7 (Rat.le_of_lt c0)
    constructor <;> grind
  obtain ⟨t, t1, t2⟩ := mul_ap 7 (13/10) 4 (by omega) hx hc x7 (by grind) cb.1 cb.2 (by rw [p4]; grind)
  have t3 := t2.mono (e' := 12 / 1000000000000000) (by grind)
  obtain ⟨T, n1, n2, n3⟩ := t3.num
  obtain ⟨j, j1, j2, j3⟩ := toInt_cut n1 (by grind)
  have hxk : cosW x = (fun h => (fun z => pick4 h (cosPW z) (fneg (sinPW z)) (fneg (cosPW z)) (sinPW z)) (redW x (evW h))) ((j + 1) / 2) := by
    unfold cosW
    rw [fmul_of t1, fcut_of j1]
    rfl
  have j9 : j ≤ 9 := by
    rcases j2 with q | q
    · have : (j : Rat) < ((10 : Nat) : Rat) := by
        have c : ((10 : Nat) : Rat) = 10 := rfl
        rw [c]; grind
      have : j < 10 := by exact_mod_cast this
      omega
    · omega
  have hj0 : (0 : Rat) ≤ (j : Rat) := by exact_mod_cast Nat.zero_le j
  have jlo : (j : Rat) * (piQ / 4) ≤ X + 2 / 100000000000000 := by
    have a1 : (j : Rat) ≤ X * cv wC4 + 12 / 1000000000000000 := by
      rcases j2 with q | q
      · grind
      · subst q
        have c : ((0 : Nat) : Rat) = 0 := rfl
        rw [c]; grind
    have a2 := Rat.mul_le_mul_of_nonneg_right a1 (show (0 : Rat) ≤ piQ / 4 by grind)
    have a3 := Rat.mul_le_mul_of_nonneg_left cq.1 x0
    grind
  have jhi : X ≤ ((j : Rat) + 1) * (piQ / 4) + 2 / 100000000000000 := by
    have a1 : X * cv wC4 ≤ (j : Rat) + 1 + 12 / 1000000000000000 := by grind
    have a2 := Rat.mul_le_mul_of_nonneg_right a1 (show (0 : Rat) ≤ piQ / 4 by grind)
    have a3 := Rat.mul_le_mul_of_nonneg_left cq.2 x0
    grind
  have j8 : j ≤ 8 := by
    rcases (show j = 9 ∨ j ≤ 8 by omega) with q | q
    · subst q
      have c : ((9 : Nat) : Rat) = 9 := rfl
      rw [c] at jlo
      grind
    · exact q
  obtain ⟨h, hh⟩ : ∃ h, h = (j + 1) / 2 := ⟨_, rfl⟩
  rw [← hh] at hxk
  have h4 : h ≤ 4 := by omega
  have hk := ev_at h h4
  have kb : ((2 * h : Nat) : Rat) ≤ 8 := by
    have : ((2 * h : Nat) : Rat) ≤ ((8 : Nat) : Rat) := cast_le (by omega)
    exact this
  have k0 : 0 ≤ ((2 * h : Nat) : Rat) := by exact_mod_cast Nat.zero_le _
  obtain ⟨a1, b1, a2, b2, a3, z, r1, r2, r3, r4, r5, r6, r7⟩ := reduce (k := ((2 * h : Nat) : Rat)) hx hk.ap k0 kb x0 x7 he
  have hrp : RedP x (evW h) z := ⟨a1, b1, a2, b2, a3, r1, r2, r3, r4, r5, r6⟩
  have zb : rabs (X - ((2 * h : Nat) : Rat) * (piQ / 4)) ≤ 393/500 := by
    rw [rabs_le]
    rcases (show 2 * h = j ∨ 2 * h = j + 1 by omega) with q | q
    · rw [q]; constructor <;> grind
    · rw [q]
      have c : ((j + 1 : Nat) : Rat) = (j : Rat) + 1 := by push_cast; rfl
      rw [c]; constructor <;> grind
  obtain ⟨zb1, zb2⟩ := rabs_le.1 zb
  obtain ⟨ys, s1, s2⟩ := sin_poly r7 zb1 zb2 (by grind)
  obtain ⟨yc, u1, u2⟩ := cos_poly r7 zb1 zb2 (by grind)
  have ws := ap_sin zb s2
  have wc := ap_cos zb u2
  have hsw : cosW x = pick4 h yc (fneg ys) (fneg yc) ys := by
    rw [hxk]
    simp only [redW_of hrp, sinPW_of s1, cosPW_of u1]
  refine ⟨t, j, h, z, ys, yc, t1, j1, hh, h4, hrp, s1, u1, hsw, ?_⟩
  rw [hsw]
  clear hsw hxk hrp s1 u1 s2 u2 r1 r2 r3 r4 r5 r6 r7
  obtain ⟨q1, q2, q3, q4⟩ := cos_quart zb
  have q1 := rabs_le.1 q1
  have q2 := rabs_le.1 q2
  have q3 := rabs_le.1 q3
  have q4 := rabs_le.1 q4
  generalize hZ : X - ((2 * h : Nat) : Rat) * (piQ / 4) = Z at *
  have hXZ : X = Z + ((2 * h : Nat) : Rat) * (piQ / 4) := by grind
  rcases (show h = 0 ∨ h = 1 ∨ h = 2 ∨ h = 3 ∨ h = 4 by omega) with rfl | rfl | rfl | rfl | rfl
  · have c : ((2 * 0 : Nat) : Rat) = 0 := rfl
    have : X = Z := by rw [hXZ, c]; grind
    rw [this]
    exact wc.mono (by grind)
  · have c : ((2 * 1 : Nat) : Rat) = 2 := rfl
    have : X = Z + piQ / 2 := by rw [hXZ, c]; grind
    rw [this]
    have g := fneg_ap ws
    exact (g.move (Y := C (Z + piQ / 2)) (d := 2 / 10000000000000) (by grind) (by grind)).mono (by grind)
  · have c : ((2 * 2 : Nat) : Rat) = 4 := rfl
    have : X = Z + piQ := by rw [hXZ, c]; grind
    rw [this]
    have g := fneg_ap wc
    exact (g.move (Y := C (Z + piQ)) (d := 2 / 10000000000000) (by grind) (by grind)).mono (by grind)
  · have c : ((2 * 3 : Nat) : Rat) = 6 := rfl
    have : X = Z + 3 * piQ / 2 := by rw [hXZ, c]; grind
    rw [this]
    exact (ws.move (Y := C (Z + 3 * piQ / 2)) (d := 5 / 10000000000000) (by grind) (by grind)).mono (by grind)
  · have c : ((2 * 4 : Nat) : Rat) = 8 := rfl
    have : X = Z + 2 * piQ := by rw [hXZ, c]; grind
    rw [this]
    exact (wc.move (Y := C (Z + 2 * piQ)) (d := 5 / 10000000000000) (by grind) (by grind)).mono (by grind)
/-- The radians of an angle of either sign. -/
theorem rad_runS {x : Nat} {A e : Rat} (hx : Ap x A e) (a0 : rabs A ≤ 1000000000) (he : e ≤ 3 / 10000000) :
    ∃ q, RadP x q ∧ Ap q (2 * piQ * A / 1000000000) (7 / 1000000000000000) := by
  have a0 := rabs_le.1 a0
  have e0 := hx.pos
  obtain ⟨s, m, i, h1, h2, h3⟩ := hx
  have ht : Reads wTurn false 8388608000000000 (-23) := by unfold Reads; decide +kernel
  have tv : rv false 8388608000000000 (-23) = 1000000000 := by decide +kernel
  have u54 : p2 (((1 : Nat) : Int) - 54) ≤ 12 / 100000000000000000 := by decide +kernel
  have u53 : p2 (((1 : Nat) : Int) - 53) ≤ 23 / 100000000000000000 := by decide +kernel
  have p1 : p2 ((1 : Nat) : Int) = 2 := by decide +kernel
  have p2' : p2 ((2 : Nat) : Int) = 4 := by decide +kernel
  have w53 : p2 (((2 : Nat) : Int) - 53) ≤ 45 / 100000000000000000 := by decide +kernel
  have p3 : p2 ((3 : Nat) : Int) = 8 := by decide +kernel
  have x53 : p2 (((3 : Nat) : Int) - 53) ≤ 89 / 100000000000000000 := by decide +kernel
  have n54 := Rat.le_of_lt (p2_pos (((1 : Nat) : Int) - 54))
  have n53 := Rat.le_of_lt (p2_pos (((1 : Nat) : Int) - 53))
  have m53 := Rat.le_of_lt (p2_pos (((2 : Nat) : Int) - 53))
  have o53 := Rat.le_of_lt (p2_pos (((3 : Nat) : Int) - 53))
  generalize hX : rv s m i = X at *
  have dv : X / 1000000000 = X * (1 / 1000000000) := by rw [Rat.div_def, Rat.div_def]; grind
  obtain ⟨q1, d1, d2⟩ := div_val 1 (by omega) h1 ht (by decide) (by rw [tv, hX, dv, p1]; grind) (by rw [tv, hX, dv, p1]; grind)
  rw [tv, hX, dv] at d2
  have d3 := d2.move (Y := A * (1 / 1000000000)) (d := 3 / 10000000000000000) (by grind) (by grind)
  have d4 := d3.mono (e' := 65 / 100000000000000000) (by grind)
  have hb : -1 ≤ A * (1 / 1000000000) ∧ A * (1 / 1000000000) ≤ 1 := by constructor <;> grind
  have hA : 2 * piQ * A / 1000000000 = A * (1 / 1000000000) * 2 * piQ := by rw [Rat.div_def]; grind
  rw [hA]
  generalize A * (1 / 1000000000) = B at *
  have h2w := cv_ap (show isNum wTwo = true by decide +kernel)
  have e2w : cv wTwo = 2 := by decide +kernel
  rw [e2w] at h2w
  obtain ⟨q2, g1, g2⟩ := mul_ap 1 2 2 (by omega) d4 h2w hb.2 (by grind) (by grind) (by grind) (by rw [p2']; grind)
  have hpw := cv_ap (show isNum wPi = true by decide +kernel)
  have epw : rabs (cv wPi - piQ) ≤ 13 / 100000000000000000 := by decide +kernel
  have pib : piQ ≤ 315/100 ∧ 0 ≤ piQ := by decide +kernel
  have epw' := rabs_le.1 epw
  generalize cv wPi = P at *
  have g3 := g2.mono (e' := 18 / 10000000000000000) (by grind)
  obtain ⟨q3, k1, k2⟩ := mul_ap 2 (316/100) 3 (by omega) g3 hpw (by grind) (by grind) (by grind) (by grind) (by rw [p3]; grind)
  refine ⟨q3, ⟨q1, q2, d1, g1, k1⟩, ?_⟩
  have l := rabs_le.1 (mul_rabs (show rabs (B * 2) ≤ 2 from rabs_le.2 ⟨by grind, by grind⟩) epw)
  exact (k2.move (Y := B * 2 * piQ) (d := 26 / 100000000000000000) (by grind) (by grind)).mono (by grind)
theorem mul_lt64 {x y r : Nat} {X Y : Rat} (nx : Num x X) (ny : Num y Y) (h : double.mul x y = some r) : r < 18446744073709551616 := by
  obtain ⟨s, m, i, h1, _⟩ := nx
  obtain ⟨t, n, j, g1, _⟩ := ny
  unfold Reads at h1 g1
  unfold Format.mul at h
  rw [h1, g1] at h
  have := Option.some.inj h
  rw [← this]
  exact nearest_lt64 _ _ _
/-- The word of an angle in radians. -/
def radA (a : Int) : Nat := radW (fofI a)
structure AngW (a : Int) (q : Nat) (Y : Rat) : Prop where
  r : RadP (fofI a) q
  n : Num q Y
  lt : q < 18446744073709551616
  ap : Ap q (angU a) (7 / 1000000000000000)
  e : radA a = q
theorem angW_ex (a : Int) (h0 : -1000000000 ≤ a) (h1 : a ≤ 1000000000) : ∃ q Y, AngW a q Y := by
  have hn := fofI_num a (by omega) (by omega)
  have r0 := Rat.intCast_le_intCast.2 h0
  have r1 := Rat.intCast_le_intCast.2 h1
  have e0 : ((-1000000000 : Int) : Rat) = -1000000000 := rfl
  have e1 : ((1000000000 : Int) : Rat) = 1000000000 := rfl
  rw [e0] at r0
  rw [e1] at r1
  obtain ⟨q, hr, ha⟩ := rad_runS hn.ap (rabs_le.2 ⟨by grind, by grind⟩) (by decide +kernel)
  obtain ⟨Y, n1, -, -⟩ := ha.num
  refine ⟨q, Y, hr, n1, ?_, ha, radW_of hr⟩
  obtain ⟨q1, q2, g1, g2, g3⟩ := hr
  have npi : Num wPi (cv wPi) := cv_num (by decide +kernel)
  have n2w : Num wTwo (cv wTwo) := cv_num (by decide +kernel)
  have ht : Reads wTurn false 8388608000000000 (-23) := by unfold Reads; decide +kernel
  have tv : rv false 8388608000000000 (-23) = 1000000000 := by decide +kernel
  have p1 : p2 ((1 : Nat) : Int) = 2 := by decide +kernel
  have u54 : p2 (((1 : Nat) : Int) - 54) ≤ 12 / 100000000000000000 := by decide +kernel
  obtain ⟨s, m, i, k1, k2⟩ := hn
  have dv : (a : Rat) / 1000000000 = (a : Rat) * (1 / 1000000000) := by rw [Rat.div_def, Rat.div_def]; grind
  obtain ⟨q1', d1, d2⟩ := div_val 1 (by omega) k1 ht (by decide) (by rw [tv, k2, dv, p1]; grind) (by rw [tv, k2, dv, p1]; grind)
  rw [g1] at d1
  obtain rfl := Option.some.inj d1
  rw [tv, k2, dv] at d2
  obtain ⟨Q1, c1, c2, c3⟩ := d2.num
  have u53 : p2 (((1 : Nat) : Int) - 53) ≤ 23 / 100000000000000000 := by decide +kernel
  have n54 := Rat.le_of_lt (p2_pos (((1 : Nat) : Int) - 54))
  have n53 := Rat.le_of_lt (p2_pos (((1 : Nat) : Int) - 53))
  have e2w : cv wTwo = 2 := by decide +kernel
  have p3 : p2 ((3 : Nat) : Int) = 8 := by decide +kernel
  obtain ⟨q2', b1, b2⟩ := mul_ap 2 2 3 (by omega) c1.ap n2w.ap (by grind) (by grind) (by rw [e2w]; grind) (by rw [e2w]; grind) (by rw [p3]; grind)
  rw [g2] at b1
  obtain rfl := Option.some.inj b1
  obtain ⟨Q2, c4, -, -⟩ := b2.num
  exact mul_lt64 c4 npi g3
end Go.Proofs.YtjkhoepohiafeaaDoor
