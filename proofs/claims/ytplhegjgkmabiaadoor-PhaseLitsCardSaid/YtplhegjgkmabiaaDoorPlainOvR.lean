/- The intervals of trig.SinOver and CosOver hold the sines and cosines of all angles between their bounds, whole or not. No program in sight. -/
import Derived.Test.YtplhegjgkmabiaaDoorTrC
set_option linter.unusedVariables false
set_option linter.unusedSimpArgs false
namespace Go.Proofs.YtplhegjgkmabiaaDoor
open Ieee
theorem sc_close {x y μ : Rat} (hx : rabs x ≤ 64/10) (hy : rabs y ≤ 63/10) (hd : rabs (x - y) ≤ tq * μ) (μ0 : 0 ≤ μ) (hμ : μ ≤ 1/100) : rabs (S x - S y) ≤ 628320 / 100000000000000 * μ + 1 / 1000000000000 ∧ rabs (C x - C y) ≤ 628320 / 100000000000000 * μ + 1 / 1000000000000 := by
  obtain ⟨t1, t2, -⟩ := tq_num
  have hx := rabs_le.1 hx
  have hy := rabs_le.1 hy
  have m := Rat.mul_le_mul_of_nonneg_right t2 μ0
  have m2 := Rat.mul_le_mul_of_nonneg_left hμ (show 0 ≤ tq by grind)
  have hd2 := rabs_le.1 hd
  obtain ⟨l1, l2⟩ := sin_lipQ (x := x) (y := y) (rabs_le.2 ⟨by grind, by grind⟩) (rabs_le.2 ⟨by grind, by grind⟩)
  have r : (1 + 1 / 100000000000) * rabs (x - y) ≤ 628320 / 100000000000000 * μ := by grind
  exact ⟨by grind, by grind⟩
theorem sc_close_turn {x y μ : Rat} (hx : rabs x ≤ 63/10) (hy : rabs y ≤ 63/10) (hy0 : -(1/100) ≤ y) (hd : rabs (x - y - 2 * piQ) ≤ tq * μ) (μ0 : 0 ≤ μ) (hμ : μ ≤ 1/100) : rabs (S x - S y) ≤ 628320 / 100000000000000 * μ + 3 / 1000000000000 ∧ rabs (C x - C y) ≤ 628320 / 100000000000000 * μ + 3 / 1000000000000 := by
  have hp := pi_num
  obtain ⟨t1, t2, -⟩ := tq_num
  have hx' := rabs_le.1 hx
  have hy' := rabs_le.1 hy
  have m2 := Rat.mul_le_mul_of_nonneg_left hμ (show 0 ≤ tq by grind)
  have hd2 := rabs_le.1 hd
  obtain ⟨n1, n2⟩ := sc_close (x := x - 2 * piQ) (y := y) (rabs_le.2 ⟨by grind, by grind⟩) hy (by rw [show x - 2 * piQ - y = x - y - 2 * piQ by grind]; exact hd) μ0 hμ
  obtain ⟨k1, k2⟩ := sin_turn (x := x - 2 * piQ) (rabs_le.2 ⟨by grind, by grind⟩)
  have e : x - 2 * piQ + 2 * piQ = x := by grind
  rw [e] at k1 k2
  clear hd hx hy hd2 m2 hx' hy' e
  have n1 := rabs_le.1 n1
  have n2 := rabs_le.1 n2
  have k1 := rabs_le.1 k1
  have k2 := rabs_le.1 k2
  constructor <;> rw [rabs_le] <;> constructor <;> grind
/-- Sines and cosines of angles that differ by whole turns and a little. -/
theorem sc_turns {z b : Rat} {j : Int} {μ : Rat} (z0 : -1 ≤ z) (z1 : z ≤ 1000000001) (b0 : -1 ≤ b) (b1 : b ≤ 1000000001) (h : rabs (z - b - (j : Rat) * 1000000000) ≤ μ) (hμ : μ ≤ 1/100) : rabs (S (tq * z) - S (tq * b)) ≤ 628320 / 100000000000000 * μ + 3 / 1000000000000 ∧ rabs (C (tq * z) - C (tq * b)) ≤ 628320 / 100000000000000 * μ + 3 / 1000000000000 := by
  have hp := pi_num
  obtain ⟨t1, t2, -⟩ := tq_num
  have h' := rabs_le.1 h
  have μ0 : 0 ≤ μ := by have := rabs_nonneg (z - b - (j : Rat) * 1000000000); grind
  have lim : tq * 1000000001 ≤ 62832/10000 := by decide +kernel
  have lim1 : tq * -1 ≥ -(1/100000) := by decide +kernel
  have az := tq_le z1
  have az0 := tq_le z0
  have ab := tq_le b1
  have ab0 := tq_le b0
  have bz : rabs (tq * z) ≤ 63/10 := rabs_le.2 ⟨by grind, by grind⟩
  have bb : rabs (tq * b) ≤ 63/10 := rabs_le.2 ⟨by grind, by grind⟩
  have sc : rabs (tq * z - tq * b - (j : Rat) * (2 * piQ)) ≤ tq * μ := by
    have e : tq * z - tq * b - (j : Rat) * (2 * piQ) = tq * (z - b - (j : Rat) * 1000000000) := by rw [← tq_turn]; grind
    rw [e, rabs_mul, rabs_pos (show 0 ≤ tq by grind)]
    exact Rat.mul_le_mul_of_nonneg_left h (by grind)
  have hj : j = 0 ∨ j = 1 ∨ j = -1 := by
    have c2 : ((2 : Int) : Rat) = 2 := rfl
    have cm : ((-2 : Int) : Rat) = -2 := rfl
    have a1 : j < 2 := by
      by_cases q : j < 2
      · exact q
      · exfalso
        have := icast (show 2 ≤ j by omega)
        rw [c2] at this; grind
    have a2 : -2 < j := by
      by_cases q : -2 < j
      · exact q
      · exfalso
        have := icast (show j ≤ -2 by omega)
        rw [cm] at this; grind
    omega
  rcases hj with rfl | rfl | rfl
  · have c0 : ((0 : Int) : Rat) = 0 := rfl
    obtain ⟨n1, n2⟩ := sc_close (x := tq * z) (y := tq * b) (by grind) bb (by rw [c0] at sc; rw [show tq * z - tq * b = tq * z - tq * b - 0 * (2 * piQ) by grind]; exact sc) μ0 hμ
    clear h h' sc bz bb
    exact ⟨by grind, by grind⟩
  · have c1 : ((1 : Int) : Rat) = 1 := rfl
    exact sc_close_turn bz bb (by grind) (by rw [c1] at sc; rw [show tq * z - tq * b - 2 * piQ = tq * z - tq * b - 1 * (2 * piQ) by grind]; exact sc) μ0 hμ
  · have c1 : ((-1 : Int) : Rat) = -1 := rfl
    have n := sc_close_turn bb bz (by grind) (by rw [c1] at sc; rw [show tq * b - tq * z - 2 * piQ = -(tq * z - tq * b - -1 * (2 * piQ)) by grind, rabs_neg]; exact sc) μ0 hμ
    constructor
    · rw [show S (tq * z) - S (tq * b) = -(S (tq * b) - S (tq * z)) by grind, rabs_neg]; exact n.1
    · rw [show C (tq * z) - C (tq * b) = -(C (tq * b) - C (tq * z)) by grind, rabs_neg]; exact n.2
theorem turn_split (n : Int) : (n : Rat) = ((n % 1000000000 : Int) : Rat) + ((n / 1000000000 : Int) : Rat) * 1000000000 := by
  have h : n = n % 1000000000 + n / 1000000000 * 1000000000 := by omega
  generalize n % 1000000000 = b at *
  generalize n / 1000000000 = q at *
  rw [h]; push_cast; rfl
/-- The sine of a whole angle and that of a number near it, up to whole turns. -/
theorem siU_near {n k : Int} {z μ : Rat} (z0 : 0 ≤ z) (z1 : z ≤ 1000000000) (h : rabs (z + (k : Rat) * 1000000000 - (n : Rat)) ≤ μ) (hμ : μ ≤ 1/100) : rabs (S (tq * z) - siU n) ≤ 628320 / 100000000000000 * μ + 3 / 1000000000000 ∧ rabs (C (tq * z) - siU (n + 250000000)) ≤ 628320 / 100000000000000 * μ + 4 / 1000000000000 := by
  obtain ⟨b0, b1⟩ := emod_bd n
  have B0 := icast b0
  have B1 := icast (show n % 1000000000 ≤ 1000000000 by omega)
  have c0 : ((0 : Int) : Rat) = 0 := rfl
  have c1 : ((1000000000 : Int) : Rat) = 1000000000 := rfl
  rw [c0] at B0
  rw [c1] at B1
  have e : (n : Rat) = ((n % 1000000000 : Int) : Rat) + ((n / 1000000000 : Int) : Rat) * 1000000000 := turn_split n
  obtain ⟨s1, s2⟩ := sc_turns (z := z) (b := ((n % 1000000000 : Int) : Rat)) (j := n / 1000000000 - k) (μ := μ) (by grind) (by grind) (by grind) (by grind) (by
    have q : z - ((n % 1000000000 : Int) : Rat) - ((n / 1000000000 - k : Int) : Rat) * 1000000000 = z + (k : Rat) * 1000000000 - (n : Rat) := by rw [e]; push_cast; grind
    rw [q]; exact h) hμ
  have es : siU n = S (tq * ((n % 1000000000 : Int) : Rat)) := by unfold siU; rw [angU_tq]
  refine ⟨by rw [es]; exact s1, ?_⟩
  have c := rabs_le.1 (cos_shift b0 b1)
  have ec : siU (n + 250000000) = S (angU ((n % 1000000000 + 250000000) % 1000000000)) := by
    unfold siU
    rw [show (n + 250000000) % 1000000000 = (n % 1000000000 + 250000000) % 1000000000 by omega]
  rw [ec]
  rw [angU_tq (n % 1000000000)] at c
  have s2 := rabs_le.1 s2
  rw [rabs_le]
  constructor <;> grind
theorem small_sc {x : Rat} (x0 : 0 ≤ x) (x1 : x ≤ 1 / 100000000) : rabs (S x - x) ≤ 1 / 1000000000000000 ∧ rabs (C x - 1) ≤ 1 / 1000000000000000 := by
  have kb := k_bd (x := x) (rabs_le.2 ⟨by grind, by grind⟩)
  have e1 := S_gT x
  have e2 := gT_kT x
  have q0 := Rat.mul_nonneg x0 x0
  have q1 := Rat.mul_le_mul_of_nonneg_left x1 x0
  have q2 : x * x ≤ 1 / 10000000000000000 := by grind
  have q3 := Rat.mul_nonneg q0 (show 0 ≤ pv kT x + 1/5 by grind)
  have q4 := Rat.mul_nonneg q0 (show 0 ≤ -(1/8) - pv kT x by grind)
  have g1 : pv gT x ≤ 1 := by grind
  have g2 : 1 - 1 / 10000000000000000 ≤ pv gT x := by grind
  have m1 := Rat.mul_le_mul_of_nonneg_left g1 x0
  have m2 := Rat.mul_le_mul_of_nonneg_left g2 x0
  have c1 := C_lin (z := x) (rabs_le.2 ⟨by grind, by grind⟩)
  have c2 := (sin_cos_le (y := x) (rabs_le.2 ⟨by grind, by grind⟩)).2.1
  have t18 : (1 : Rat) / 10 ^ 18 ≤ 1 / 1000000000000000000 := by decide +kernel
  constructor <;> rw [rabs_le] <;> constructor <;> grind
/-- Between two whole angles the sine is nearly on the line between theirs. -/
theorem sc_line {a lam : Rat} (a0 : 0 ≤ a) (a1 : a ≤ 1000000000) (l0 : 0 ≤ lam) (l1 : lam ≤ 1) : rabs (S (tq * (a + lam)) - ((1 - lam) * S (tq * a) + lam * S (tq * (a + 1)))) ≤ 1 / 1000000000000 ∧ rabs (C (tq * (a + lam)) - ((1 - lam) * C (tq * a) + lam * C (tq * (a + 1)))) ≤ 1 / 1000000000000 := by
  obtain ⟨t1, t2, -⟩ := tq_num
  have lim : tq * 1000000000 ≤ 62832/10000 := by decide +kernel
  have A0 := tq_le a0
  have A1 := tq_le a1
  have hA : rabs (tq * a) ≤ 32/5 := rabs_le.2 ⟨by grind, by grind⟩
  have L0 := tq_le l0
  have L1 := tq_le l1
  obtain ⟨p1, p2⟩ := small_sc (x := tq * lam) (by grind) (by grind)
  obtain ⟨p3, p4⟩ := small_sc (x := tq * 1) (by grind) (by grind)
  have bd := SC_bd hA
  have e1 : tq * (a + lam) = tq * a + tq * lam := by grind
  have e2 : tq * (a + 1) = tq * a + tq * 1 := by grind
  rw [e1, e2]
  have s1 := rabs_le.1 (sin_add (x := tq * a) (y := tq * lam) hA (rabs_le.2 ⟨by grind, by grind⟩))
  have s2 := rabs_le.1 (cos_add (x := tq * a) (y := tq * lam) hA (rabs_le.2 ⟨by grind, by grind⟩))
  have s3 := rabs_le.1 (sin_add (x := tq * a) (y := tq * 1) hA (rabs_le.2 ⟨by grind, by grind⟩))
  have s4 := rabs_le.1 (cos_add (x := tq * a) (y := tq * 1) hA (rabs_le.2 ⟨by grind, by grind⟩))
  -- the parts that are left
  have m1 := rabs_le.1 (mul_rabs bd.1 p2)
  have m2 := rabs_le.1 (mul_rabs bd.2 p1)
  have m3 := rabs_le.1 (mul_rabs bd.1 p4)
  have m4 := rabs_le.1 (mul_rabs bd.2 p3)
  have m5 := rabs_le.1 (mul_rabs bd.1 p1)
  have m6 := rabs_le.1 (mul_rabs bd.2 p2)
  have m7 := rabs_le.1 (mul_rabs bd.1 p3)
  have m8 := rabs_le.1 (mul_rabs bd.2 p4)
  have lb : rabs lam ≤ 1 := rabs_le.2 ⟨l1, by grind⟩
  have q1 := rabs_le.1 (mul_rabs lb ((rabs_le (x := S (tq * a + tq * 1) - (S (tq * a) + tq * 1 * C (tq * a))) (b := 2 / 10000000000000)).2 ⟨by grind, by grind⟩))
  have q2 := rabs_le.1 (mul_rabs lb ((rabs_le (x := C (tq * a + tq * 1) - (C (tq * a) - tq * 1 * S (tq * a))) (b := 2 / 10000000000000)).2 ⟨by grind, by grind⟩))
  clear m3 m4 m7 m8 s3 s4 p1 p2 p3 p4 bd hA lb
  generalize S (tq * a + tq * lam) = X1 at *
  generalize C (tq * a + tq * lam) = X2 at *
  generalize S (tq * a + tq * 1) = X3 at *
  generalize C (tq * a + tq * 1) = X4 at *
  generalize S (tq * lam) = sl at *
  generalize C (tq * lam) = cl at *
  generalize S (tq * a) = sa at *
  generalize C (tq * a) = ca at *
  constructor <;> rw [rabs_le] <;> constructor <;> grind
/-- The whole part of a number. -/
theorem floor_ex (w : Rat) : ∃ n : Int, (n : Rat) ≤ w ∧ w < (n : Rat) + 1 := ⟨w.floor, Rat.floor_le w, by have h := Rat.lt_floor_add_one w; push_cast at h; exact h⟩
/-- What an interval of sines is worth at a number, up to the errors told. -/
def InU (L H : Int) (x ε : Rat) : Prop := (L : Rat) - ε ≤ 1000000000 * x ∧ 1000000000 * x ≤ (H : Rat) + ε
theorem rabs_tri {x y z a b : Rat} (h1 : rabs (x - y) ≤ a) (h2 : rabs (y - z) ≤ b) : rabs (x - z) ≤ a + b := by
  have h1 := rabs_le.1 h1
  have h2 := rabs_le.1 h2
  exact rabs_le.2 ⟨by grind, by grind⟩
theorem line_fin {lam L H x xa xb sa sb : Rat} (l0 : 0 ≤ lam) (l0' : 0 ≤ 1 - lam) (hx : rabs (x - ((1 - lam) * xa + lam * xb)) ≤ 4 / 1000000000000) (ha : rabs (xa - sa) ≤ 4 / 1000000000000) (hb : rabs (xb - sb) ≤ 4 / 1000000000000) (g1 : L ≤ 1000000000 * sa + 4/1000) (g2 : 1000000000 * sa ≤ H + 4/1000) (g3 : L ≤ 1000000000 * sb + 4/1000) (g4 : 1000000000 * sb ≤ H + 4/1000) : L - 25/1000 ≤ 1000000000 * x ∧ 1000000000 * x ≤ H + 25/1000 := by
  have ha := rabs_le.1 ha
  have hb := rabs_le.1 hb
  have hx := rabs_le.1 hx
  have m1 := Rat.mul_le_mul_of_nonneg_left (show L - 1/100 ≤ 1000000000 * xa by grind) l0'
  have m2 := Rat.mul_le_mul_of_nonneg_left (show L - 1/100 ≤ 1000000000 * xb by grind) l0
  have m3 := Rat.mul_le_mul_of_nonneg_left (show 1000000000 * xa ≤ H + 1/100 by grind) l0'
  have m4 := Rat.mul_le_mul_of_nonneg_left (show 1000000000 * xb ≤ H + 1/100 by grind) l0
  clear g1 g2 g3 g4
  constructor <;> grind
theorem over_any {lo hi k : Int} {z : Rat} (hlh : lo ≤ hi) (z0 : 0 ≤ z) (z1 : z ≤ 1000000000) (h1 : (lo : Rat) - 1/500 ≤ z + (k : Rat) * 1000000000) (h2 : z + (k : Rat) * 1000000000 ≤ (hi : Rat) + 1/500) :
    InU (sovLo lo hi) (sovHi lo hi) (S (tq * z)) (25/1000) ∧ InU (sovLo (lo + 250000000) (hi + 250000000)) (sovHi (lo + 250000000) (hi + 250000000)) (C (tq * z)) (25/1000) := by
  have ok := over_ok lo hi hlh
  have ok2 := over_ok (lo + 250000000) (hi + 250000000) (by omega)
  -- at a whole angle
  have whole : ∀ n : Int, lo ≤ n → n ≤ hi → rabs (z + (k : Rat) * 1000000000 - (n : Rat)) ≤ 1/500 → InU (sovLo lo hi) (sovHi lo hi) (S (tq * z)) (25/1000) ∧ InU (sovLo (lo + 250000000) (hi + 250000000)) (sovHi (lo + 250000000) (hi + 250000000)) (C (tq * z)) (25/1000) := by
    intro n n1 n2 hn
    have a := siU_near z0 z1 hn (by grind)
    have a1 := rabs_le.1 a.1
    have a2 := rabs_le.1 a.2
    have b1 := ok.c1 n n1 n2
    have b2 := ok.c2 n n1 n2
    have b3 := ok2.c1 (n + 250000000) (by omega) (by omega)
    have b4 := ok2.c2 (n + 250000000) (by omega) (by omega)
    unfold InU
    clear ok ok2 a hn
    refine ⟨⟨?_, ?_⟩, ⟨?_, ?_⟩⟩ <;> grind
  obtain ⟨w, hw⟩ : ∃ w, z + (k : Rat) * 1000000000 = w := ⟨_, rfl⟩
  rw [hw] at h1 h2
  by_cases c1 : w ≤ (lo : Rat)
  · exact whole lo (by omega) hlh (by rw [hw]; exact rabs_le.2 ⟨by grind, by grind⟩)
  by_cases c2 : (hi : Rat) ≤ w
  · exact whole hi hlh (by omega) (by rw [hw]; exact rabs_le.2 ⟨by grind, by grind⟩)
  obtain ⟨n, f1, f2⟩ := floor_ex w
  have n1 : lo ≤ n := by
    by_cases q : lo ≤ n
    · exact q
    · exfalso
      have := icast (show n + 1 ≤ lo by omega)
      push_cast at this; grind
  have n2 : n + 1 ≤ hi := by
    by_cases q : n + 1 ≤ hi
    · exact q
    · exfalso
      have := icast (show hi ≤ n by omega)
      grind
  obtain ⟨lam, hl⟩ : ∃ lam, w - (n : Rat) = lam := ⟨_, rfl⟩
  obtain ⟨b0, b1⟩ := emod_bd n
  have B0 := icast b0
  have B1 := icast (show n % 1000000000 ≤ 999999999 by omega)
  have c0 : ((0 : Int) : Rat) = 0 := rfl
  have cc : ((999999999 : Int) : Rat) = 999999999 := rfl
  have cb : ((1000000000 : Int) : Rat) = 1000000000 := rfl
  rw [c0] at B0
  rw [cc] at B1
  have e : (n : Rat) = ((n % 1000000000 : Int) : Rat) + ((n / 1000000000 : Int) : Rat) * 1000000000 := turn_split n
  generalize hb : ((n % 1000000000 : Int) : Rat) = b at *
  obtain ⟨t1, t2⟩ := sc_turns (z := z) (b := b + lam) (j := n / 1000000000 - k) (μ := 0) (by grind) (by grind) (by grind) (by grind) (by
    have q : z - (b + lam) - ((n / 1000000000 - k : Int) : Rat) * 1000000000 = 0 := by push_cast; grind
    rw [q]; decide +kernel) (by grind)
  obtain ⟨l1, l2⟩ := sc_line (a := b) (lam := lam) (by grind) (by grind) (by grind) (by grind)
  -- the whole angles' sines
  obtain ⟨u1, u2⟩ := siU_near (n := n) (k := n / 1000000000) (z := b) (μ := 0) (by grind) (by grind) (by rw [show b + ((n / 1000000000 : Int) : Rat) * 1000000000 - (n : Rat) = 0 by grind]; decide +kernel) (by grind)
  obtain ⟨v1, v2⟩ := siU_near (n := n + 1) (k := n / 1000000000) (z := b + 1) (μ := 0) (by grind) (by grind) (by rw [show b + 1 + ((n / 1000000000 : Int) : Rat) * 1000000000 - ((n + 1 : Int) : Rat) = 0 by push_cast; grind]; decide +kernel) (by grind)
  have o1 := ok.c1 n n1 (by omega)
  have o2 := ok.c2 n n1 (by omega)
  have o3 := ok.c1 (n + 1) (by omega) n2
  have o4 := ok.c2 (n + 1) (by omega) n2
  have r1 := ok2.c1 (n + 250000000) (by omega) (by omega)
  have r2 := ok2.c2 (n + 250000000) (by omega) (by omega)
  have r3 := ok2.c1 (n + 1 + 250000000) (by omega) (by omega)
  have r4 := ok2.c2 (n + 1 + 250000000) (by omega) (by omega)
  have lb : rabs lam ≤ 1 := rabs_le.2 ⟨by grind, by grind⟩
  have lb1 : rabs (1 - lam) ≤ 1 := rabs_le.2 ⟨by grind, by grind⟩
  have zz : 628320 / 100000000000000 * (0 : Rat) + 3 / 1000000000000 ≤ 4 / 1000000000000 := by decide +kernel
  have zz2 : 628320 / 100000000000000 * (0 : Rat) + 4 / 1000000000000 ≤ 4 / 1000000000000 := by decide +kernel
  have z3 : 628320 / 100000000000000 * (0 : Rat) + 3 / 1000000000000 + 1 / 1000000000000 ≤ 4 / 1000000000000 := by decide +kernel
  have l0 : 0 ≤ lam := by clear ok ok2 whole o1 o2 o3 o4 r1 r2 r3 r4 t1 t2 l1 l2 u1 u2 v1 v2; grind
  have l0' : 0 ≤ 1 - lam := by clear ok ok2 whole o1 o2 o3 o4 r1 r2 r3 r4 t1 t2 l1 l2 u1 u2 v1 v2; grind
  have eN : n + 250000000 + 1 = n + 1 + 250000000 := by omega
  exact ⟨line_fin l0 l0' (Rat.le_trans (rabs_tri t1 l1) z3) (Rat.le_trans u1 zz) (Rat.le_trans v1 zz) o1 o2 o3 o4, line_fin l0 l0' (Rat.le_trans (rabs_tri t2 l2) z3) (Rat.le_trans u2 zz2) (Rat.le_trans v2 zz2) r1 r2 r3 r4⟩
end Go.Proofs.YtplhegjgkmabiaaDoor
