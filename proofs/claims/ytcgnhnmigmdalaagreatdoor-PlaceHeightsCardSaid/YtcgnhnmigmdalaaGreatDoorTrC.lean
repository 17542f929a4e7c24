/- The intervals of trig.sine hold the reference's sines and cosines and are narrow. No program in sight. The intervals of trig.SinOver and CosOver hold the sines of all angles of an interval, and are narrow. No program in sight. TrigOvers' statement. No program in sight. The reference's test of a direction; TrigArcs' statement. No program in sight. -/
import Derived.Test.YtcgnhnmigmdalaaGreatDoorTrB
import Derived.Test.YtcgnhnmigmdalaaGreatDoorFltE
set_option linter.unusedVariables false
set_option linter.unusedSimpArgs false
namespace Go.Proofs.YtcgnhnmigmdalaaGreatDoor
section
open Ieee
theorem angU_tq (a : Int) : angU a = tq * (a : Rat) := by unfold angU tq; grind
theorem icast {a b : Int} (h : a ≤ b) : (a : Rat) ≤ (b : Rat) := Rat.intCast_le_intCast.2 h
theorem ang_range {b : Int} (b0 : 0 ≤ b) (b1 : b < 1000000000) : 0 ≤ angU b ∧ angU b ≤ 2 * piQ ∧ rabs (angU b) ≤ 32/5 := by
  have r0 : (0 : Rat) ≤ (b : Rat) := by exact_mod_cast b0
  have r1 : (b : Rat) ≤ 1000000000 := by
    have := icast (show b ≤ 1000000000 by omega)
    have e : ((1000000000 : Int) : Rat) = 1000000000 := rfl
    rw [e] at this; exact this
  have h0 := tq_le r0
  have h1 := tq_le r1
  rw [tq_turn] at h1
  have hp := pi_num
  rw [angU_tq]
  have z : tq * 0 = 0 := by grind
  rw [z] at h0
  exact ⟨h0, h1, rabs_le.2 ⟨by grind, by grind⟩⟩
theorem ang_quarters : rabs (1000000000 * S (angU 0)) ≤ 1 / 10000 ∧ rabs (1000000000 * S (angU 500000000)) ≤ 1 / 10000 ∧ rabs (1000000000 * S (angU 250000000) - 1000000000) ≤ 1 / 10000 ∧ rabs (1000000000 * S (angU 750000000) + 1000000000) ≤ 1 / 10000 := by decide +kernel
theorem int_of_rat {a b : Int} {x : Rat} (h1 : (a : Rat) ≤ x) (h2 : x < (b : Rat) + 1) : a ≤ b := by
  have h : (a : Rat) < ((b + 1 : Int) : Rat) := by push_cast; grind
  have : a < b + 1 := by exact_mod_cast h
  omega
/-- What the interval of a sine is worth. -/
structure SineOk (lo hi : Int) (x : Rat) : Prop where
  l1 : (lo : Rat) ≤ 1000000000 * x + 1 / 10000
  l2 : 1000000000 * x - 11 / 10 ≤ (lo : Rat)
  h1 : 1000000000 * x ≤ (hi : Rat) + 1 / 10000
  h2 : (hi : Rat) ≤ 1000000000 * x + 11 / 10
  w : hi - lo ≤ 2
  o : lo ≤ hi
  b0 : -1000000000 ≤ lo
  b1 : hi ≤ 1000000000
theorem sine_bd (a : Int) : SineOk (sineLo a) (sineHi a) (S (angU (a % 1000000000))) := by
  have m0 := Int.emod_nonneg a (show (1000000000 : Int) ≠ 0 by omega)
  have m1 := Int.emod_lt_of_pos a (show (0 : Int) < 1000000000 by omega)
  obtain ⟨q0, q2, q1, q3⟩ := ang_quarters
  have c0 : ((0 : Int) : Rat) = 0 := rfl
  have c1 : ((1000000000 : Int) : Rat) = 1000000000 := rfl
  have c3 : ((-1000000000 : Int) : Rat) = -1000000000 := rfl
  have fin : ∀ (lo hi : Int) (x : Rat), (lo : Rat) ≤ 1000000000 * x + 1 / 10000 → 1000000000 * x - 11 / 10 ≤ (lo : Rat) → 1000000000 * x ≤ (hi : Rat) + 1 / 10000 → (hi : Rat) ≤ 1000000000 * x + 11 / 10 → -1000000000 ≤ lo → hi ≤ 1000000000 → lo ≤ hi → SineOk lo hi x := by
    intro lo hi x a1 a2 a3 a4 a5 a6 a7
    refine ⟨a1, a2, a3, a4, ?_, a7, a5, a6⟩
    have h : ((hi - lo : Int) : Rat) < ((3 : Int) : Rat) := by
      have e : ((3 : Int) : Rat) = 3 := rfl
      rw [e]; push_cast; grind
    have : hi - lo < 3 := by exact_mod_cast h
    omega
  by_cases h0 : a % 1000000000 = 0
  · have e : sineLo a = 0 ∧ sineHi a = 0 := by unfold sineLo sineHi; rw [if_pos (.inl h0), if_pos (.inl h0)]; exact ⟨rfl, rfl⟩
    rw [e.1, e.2, h0]
    have := rabs_le.1 q0
    exact fin _ _ _ (by rw [c0]; grind) (by rw [c0]; grind) (by rw [c0]; grind) (by rw [c0]; grind) (by omega) (by omega) (by omega)
  by_cases h2 : a % 1000000000 = 500000000
  · have e : sineLo a = 0 ∧ sineHi a = 0 := by unfold sineLo sineHi; rw [if_pos (.inr h2), if_pos (.inr h2)]; exact ⟨rfl, rfl⟩
    rw [e.1, e.2, h2]
    have := rabs_le.1 q2
    exact fin _ _ _ (by rw [c0]; grind) (by rw [c0]; grind) (by rw [c0]; grind) (by rw [c0]; grind) (by omega) (by omega) (by omega)
  by_cases h1 : a % 1000000000 = 250000000
  · have e : sineLo a = 1000000000 ∧ sineHi a = 1000000000 := by unfold sineLo sineHi; rw [if_neg (by omega), if_pos h1, if_neg (by omega), if_pos h1]; exact ⟨rfl, rfl⟩
    rw [e.1, e.2, h1]
    have := rabs_le.1 q1
    exact fin _ _ _ (by rw [c1]; grind) (by rw [c1]; grind) (by rw [c1]; grind) (by rw [c1]; grind) (by omega) (by omega) (by omega)
  by_cases h3 : a % 1000000000 = 750000000
  · have e : sineLo a = -1000000000 ∧ sineHi a = -1000000000 := by unfold sineLo sineHi; rw [if_neg (by omega), if_neg h1, if_pos h3, if_neg (by omega), if_neg h1, if_pos h3]; exact ⟨rfl, rfl⟩
    rw [e.1, e.2, h3]
    have := rabs_le.1 q3
    exact fin _ _ _ (by rw [c3]; grind) (by rw [c3]; grind) (by rw [c3]; grind) (by rw [c3]; grind) (by omega) (by omega) (by omega)
  have e : sineLo a = clipL (arLo (sineV (a % 1000000000))) ∧ sineHi a = clipH (arHi (sineV (a % 1000000000))) := by
    unfold sineLo sineHi; rw [if_neg (by omega), if_neg h1, if_neg h3, if_neg (by omega), if_neg h1, if_neg h3]; exact ⟨rfl, rfl⟩
  rw [e.1, e.2]
  clear e h0 h1 h2 h3 q0 q1 q2 q3
  generalize a % 1000000000 = b at *
  obtain ⟨q, Y, v, s1, s2, X1, X2, -, -, -, -, -, -, -, -, p9, -, -, -, -, -, -, -, -, -, -, f1, f2, f3, f4⟩ := sine_run b m0 (by omega)
  rw [← p9]
  obtain ⟨r0, r1, r2⟩ := ang_range m0 m1
  have hp := pi_num
  have sb := sin_bd r0 (by grind)
  have t17 : (1 : Rat) / 10 ^ 17 ≤ 1 / 10000000000000000 := by decide +kernel
  generalize arLo v = lo at *
  generalize arHi v = hi at *
  generalize S (angU b) = x at *
  have lh : lo ≤ hi := int_of_rat (x := 1000000000 * x) (by grind) (by grind)
  have d1 : ((-1000000001 : Int) : Rat) = -1000000001 := rfl
  have d2 : ((1000000001 : Int) : Rat) = 1000000001 := rfl
  have d3 : ((999999999 : Int) : Rat) = 999999999 := rfl
  have d4 : ((-999999999 : Int) : Rat) = -999999999 := rfl
  have u1 : lo ≤ 999999999 := int_of_rat (x := 1000000000 * x - 9 / 10000) (by grind) (by rw [d3]; grind)
  have u2 : -1000000001 ≤ lo := int_of_rat (x := 1000000000 * x - 11/10000) (by rw [d1]; grind) (by grind)
  have u3 : hi ≤ 1000000001 := int_of_rat (x := 1000000000 * x + 11/10000 + 1) (by grind) (by rw [d2]; grind)
  have u4 : -999999999 ≤ hi := int_of_rat (x := 1000000000 * x + 9/10000 + 9995/10000) (by rw [d4]; grind) (by grind)
  have g1 : clipL lo = lo ∨ (clipL lo = -1000000000 ∧ lo = -1000000001) := by unfold clipL; omega
  have g2 : clipH hi = hi ∨ (clipH hi = 1000000000 ∧ hi = 1000000001) := by unfold clipH; omega
  have k1 : (clipL lo : Rat) ≤ 1000000000 * x + 1 / 10000 ∧ 1000000000 * x - 11 / 10 ≤ (clipL lo : Rat) := by
    rcases g1 with g | ⟨g, g'⟩
    · rw [g]; constructor <;> grind
    · rw [g, c3]; rw [g', d1] at f1 f2; constructor <;> grind
  have k2 : 1000000000 * x ≤ (clipH hi : Rat) + 1 / 10000 ∧ (clipH hi : Rat) ≤ 1000000000 * x + 11 / 10 := by
    rcases g2 with g | ⟨g, g'⟩
    · rw [g]; constructor <;> grind
    · rw [g, c1]; rw [g', d2] at f3 f4; constructor <;> grind
  exact fin _ _ _ k1.1 k1.2 k2.1 k2.2 (by unfold clipL; omega) (by unfold clipH; omega) (by unfold clipL clipH; omega)
/-- A quarter of a turn more makes a cosine of a sine. -/
theorem cos_shift {b : Int} (b0 : 0 ≤ b) (b1 : b < 1000000000) : rabs (S (angU ((b + 250000000) % 1000000000)) - C (angU b)) ≤ 3 / 10000000000000 := by
  obtain ⟨r0, r1, r2⟩ := ang_range b0 b1
  have hp := pi_num
  obtain ⟨p1, p2, p3, p4, -⟩ := at_pi
  have hb := SC_bd r2
  have q4 : tq * 250000000 = piQ / 2 := by decide +kernel
  have q34 : tq * 750000000 = piQ + piQ / 2 := by decide +kernel
  have hq : rabs (piQ / 2) ≤ 16/5 := rabs_le.2 ⟨by grind, by grind⟩
  have hpp : rabs piQ ≤ 16/5 := rabs_le.2 ⟨by grind, by grind⟩
  by_cases h : b < 750000000
  · have e : (b + 250000000) % 1000000000 = b + 250000000 := by omega
    have e2 : angU (b + 250000000) = angU b + piQ / 2 := by
      rw [angU_tq, angU_tq]
      push_cast
      grind
    rw [e, e2]
    have a := rabs_le.1 (sin_add r2 hq)
    have m1 := rabs_le.1 (mul_rabs hb.1 p4)
    have m2 := rabs_le.1 (mul_rabs hb.2 p3)
    rw [rabs_le]
    constructor <;> grind
  · have e : (b + 250000000) % 1000000000 = b - 750000000 := by omega
    have e2 : angU (b - 750000000) = (angU b - piQ) - piQ / 2 := by
      rw [angU_tq, angU_tq]
      push_cast
      grind
    rw [e, e2]
    have r3 : rabs (angU b - piQ) ≤ 32/5 := rabs_le.2 ⟨by grind, by grind⟩
    have a := rabs_le.1 (sin_sub r3 hq)
    have c := rabs_le.1 (cos_sub r2 hpp)
    have hb3 := SC_bd r3
    have m1 := rabs_le.1 (mul_rabs hb3.1 p4)
    have m2 := rabs_le.1 (mul_rabs hb3.2 p3)
    have m3 := rabs_le.1 (mul_rabs hb.1 p1)
    have m4 := rabs_le.1 (mul_rabs hb.2 p2)
    rw [rabs_le]
    constructor <;> grind
/-- The reference's number lies in an interval of units. -/
def UnitOk (lo hi v : Int) : Prop := lo * 1048576 ≤ prt 1000000000 v + 8192 ∧ prt 1000000000 v ≤ hi * 1048576 + 8192
theorem unit_ok {lo hi v : Int} {x : Rat} (hv : rabs ((v : Rat) - uQ * x) ≤ 1000000) (h1 : (lo : Rat) ≤ 1000000000 * x + 6 / 1000) (h2 : 1000000000 * x ≤ (hi : Rat) + 6 / 1000) : UnitOk lo hi v := by
  obtain ⟨p1, p2⟩ := prt_near 1000000000 v
  have c1 : ((1000000000 : Int) : Rat) = 1000000000 := rfl
  rw [c1] at p1 p2
  have hv := rabs_le.1 hv
  have hu : uQ = 1152921504606846976 := rfl
  rw [hu] at hv
  have r : ∀ {a b : Int}, (a : Rat) ≤ (b : Rat) → a ≤ b := fun h => Rat.intCast_le_intCast.1 h
  constructor
  · apply r
    push_cast
    grind
  · apply r
    push_cast
    grind
theorem sc_ang {b : Int} (b0 : 0 ≤ b) (b1 : b < 1000000000) : rabs (((sc (b * 1000000)).1 : Rat) - uQ * S (angU b)) ≤ 180000 ∧ rabs (((sc (b * 1000000)).2 : Rat) - uQ * C (angU b)) ≤ 180000 := by
  have h := sc_near3 (arg := b * 1000000) (by omega) (by omega)
  have e : ang (b * 1000000) = angU b := by
    unfold ang angU
    push_cast
    have t : (10 : Rat) ^ 15 = 1000000000000000 := by decide +kernel
    rw [t]
    grind
  rw [e] at h
  exact ⟨h.1.abs, h.2.abs⟩
/-- TrigSins' statement. -/
theorem sins_ok (a : Int) : UnitOk (sineLo a) (sineHi a) (sc (a % 1000000000 * 1000000)).1 ∧ UnitOk (sineLo (a % 1000000000 + 250000000)) (sineHi (a % 1000000000 + 250000000)) (sc (a % 1000000000 * 1000000)).2 := by
  have m0 := Int.emod_nonneg a (show (1000000000 : Int) ≠ 0 by omega)
  have m1 := Int.emod_lt_of_pos a (show (0 : Int) < 1000000000 by omega)
  have s1 := sine_bd a
  have s2 := sine_bd (a % 1000000000 + 250000000)
  obtain ⟨g1, g2⟩ := sc_ang m0 m1
  have cs := rabs_le.1 (cos_shift m0 m1)
  have hu : (0 : Rat) ≤ uQ := by decide +kernel
  constructor
  · have l := s1.l1
    have h := s1.h1
    exact unit_ok (x := S (angU (a % 1000000000))) (by grind) (by grind) (by grind)
  · have l := s2.l1
    have h := s2.h1
    exact unit_ok (x := C (angU (a % 1000000000))) (by grind) (by grind) (by grind)
end
section
open Ieee
/-- The sine of an angle of whole units. -/
def siU (n : Int) : Rat := S (angU (n % 1000000000))
def cT' (n : Int) : Rat := C (angU (n % 1000000000))
theorem siU_turn (n k : Int) : siU (n + 1000000000 * k) = siU n := by unfold siU; rw [Int.add_mul_emod_self_left]
theorem emod_bd (n : Int) : 0 ≤ n % 1000000000 ∧ n % 1000000000 < 1000000000 := ⟨Int.emod_nonneg n (by omega), Int.emod_lt_of_pos n (by omega)⟩
theorem siU_bd (n : Int) : siU n ≤ 1 + 1 / 1000000000000000 ∧ -(1 + 1 / 1000000000000000) ≤ siU n := by
  obtain ⟨m0, m1⟩ := emod_bd n
  obtain ⟨r0, r1, -⟩ := ang_range m0 m1
  have hp := pi_num
  have h := sin_bd r0 (by grind)
  have t17 : (1 : Rat) / 10 ^ 17 ≤ 1 / 10000000000000000 := by decide +kernel
  unfold siU
  constructor <;> grind
/-- Half a turn more changes the sign. -/
theorem siU_half (n : Int) : rabs (siU (n + 500000000) + siU n) ≤ 2 / 10000000000000 := by
  obtain ⟨b0, b1⟩ := emod_bd n
  unfold siU
  have e0 : (n + 500000000) % 1000000000 = (n % 1000000000 + 500000000) % 1000000000 := by omega
  rw [e0]
  generalize n % 1000000000 = b at *
  obtain ⟨r0, r1, r2⟩ := ang_range b0 b1
  have hp := pi_num
  obtain ⟨p1, p2, -⟩ := at_pi
  have hb := SC_bd r2
  have hpp : rabs piQ ≤ 16/5 := rabs_le.2 ⟨by grind, by grind⟩
  have q2 : tq * 500000000 = piQ := by decide +kernel
  have m1 := rabs_le.1 (mul_rabs hb.2 p1)
  have m2 := rabs_le.1 (mul_rabs hb.1 p2)
  by_cases h : b < 500000000
  · have e : (b + 500000000) % 1000000000 = b + 500000000 := by omega
    have e2 : angU (b + 500000000) = angU b + piQ := by
      rw [angU_tq, angU_tq]; push_cast; grind
    rw [e, e2]
    have a := rabs_le.1 (sin_add r2 hpp)
    rw [rabs_le]
    constructor <;> grind
  · have e : (b + 500000000) % 1000000000 = b - 500000000 := by omega
    have e2 : angU (b - 500000000) = angU b - piQ := by
      rw [angU_tq, angU_tq]; push_cast; grind
    rw [e, e2]
    have a := rabs_le.1 (sin_sub r2 hpp)
    rw [rabs_le]
    constructor <;> grind
theorem siU_cos {b : Int} (b0 : 0 ≤ b) (b1 : b < 1000000000) : rabs (siU (b + 250000000) - C (angU b)) ≤ 3 / 10000000000000 := cos_shift b0 b1
theorem S_up2 {x : Rat} (x0 : 0 ≤ x) (x1 : x ≤ piQ) : -(2 / 10000000000000) ≤ S x := by
  have hp := pi_num
  by_cases h : x ≤ 8/5
  · have := (S_lin x0 h).1
    grind
  · obtain ⟨a1, a2, -⟩ := at_pi
    have hx : rabs x ≤ 16/5 := rabs_le.2 ⟨by grind, by grind⟩
    have h1 := rabs_le.1 (sin_sub (x := piQ) (y := x) (rabs_le.2 ⟨by grind, by grind⟩) hx)
    have hb := SC_bd (y := x) (by grind)
    have m1 := rabs_le.1 (mul_rabs a1 hb.2)
    have m2 := rabs_le.1 (mul_rabs a2 hb.1)
    have hS := (S_lin (x := piQ - x) (by grind) (by grind)).1
    generalize S piQ = sp at *
    generalize C piQ = cp at *
    grind
/-- The cosine goes down, then up. -/
theorem cos_valley {x y z : Rat} (x0 : 0 ≤ x) (xy : x ≤ y) (yz : y ≤ z) (z1 : z ≤ 2 * piQ) : C y ≤ C x + 12 / 10000000000000 ∨ C y ≤ C z + 12 / 10000000000000 := by
  have hp := pi_num
  have small : ∀ {a b : Rat}, -(4 / 10000000000000) ≤ a → 0 ≤ b → b ≤ 101/100 → -(41 / 100000000000000 : Rat) ≤ a * b := by
    intro a b a0 b0 b1
    have m1 := Rat.mul_nonneg (show 0 ≤ a + 4 / 10000000000000 by grind) b0
    grind
  by_cases h : y ≤ piQ
  · left
    have hm : rabs ((y + x) / 2) ≤ 32/5 := rabs_le.2 ⟨by grind, by grind⟩
    have hd : rabs ((y - x) / 2) ≤ 16/5 := rabs_le.2 ⟨by grind, by grind⟩
    have d := (sin_diff hm hd).2
    have e1 : (y + x) / 2 + (y - x) / 2 = y := by grind
    have e2 : (y + x) / 2 - (y - x) / 2 = x := by grind
    rw [e1, e2] at d
    have d := rabs_le.1 d
    have s1 := S_up2 (x := (y + x) / 2) (by grind) (by grind)
    have s2 := (S_lin (x := (y - x) / 2) (by grind) (by grind)).1
    have b2 := rabs_le.1 (SC_bd (y := (y - x) / 2) (by grind)).1
    have k := small (a := S ((y + x) / 2)) (b := S ((y - x) / 2)) (by grind) (by grind) (by grind)
    generalize S ((y + x) / 2) * S ((y - x) / 2) = u at *
    grind
  · right
    have hm : rabs ((z + y) / 2) ≤ 32/5 := rabs_le.2 ⟨by grind, by grind⟩
    have hd : rabs ((z - y) / 2) ≤ 16/5 := rabs_le.2 ⟨by grind, by grind⟩
    have d := (sin_diff hm hd).2
    have e1 : (z + y) / 2 + (z - y) / 2 = z := by grind
    have e2 : (z + y) / 2 - (z - y) / 2 = y := by grind
    rw [e1, e2] at d
    have d := rabs_le.1 d
    have hpp : rabs piQ ≤ 16/5 := rabs_le.2 ⟨by grind, by grind⟩
    have t := rabs_le.1 (sin_sub hm hpp)
    obtain ⟨p1, p2, -⟩ := at_pi
    have hb := SC_bd hm
    have m1 := rabs_le.1 (mul_rabs hb.2 p1)
    have m2 := rabs_le.1 (mul_rabs hb.1 p2)
    have s1 := S_up2 (x := (z + y) / 2 - piQ) (by grind) (by grind)
    have s2 := (S_lin (x := (z - y) / 2) (by grind) (by grind)).1
    have b2 := rabs_le.1 (SC_bd (y := (z - y) / 2) (by grind)).1
    have k := small (a := -S ((z + y) / 2)) (b := S ((z - y) / 2)) (by grind) (by grind) (by grind)
    have e3 : (-S ((z + y) / 2)) * S ((z - y) / 2) = -(S ((z + y) / 2) * S ((z - y) / 2)) := by grind
    rw [e3] at k
    generalize S ((z + y) / 2) * S ((z - y) / 2) = u at *
    grind
/-- Between two angles that do not have the lowest one between them no sine is below both. -/
theorem siU_low {lo hi n : Int} (h1 : lo ≤ n) (h2 : n ≤ hi) (hg : hi - lo < (750000000 - lo) % 1000000000) : siU lo ≤ siU n + 24 / 10000000000000 ∨ siU hi ≤ siU n + 24 / 10000000000000 := by
  obtain ⟨g0, g1⟩ := emod_bd (750000000 - lo)
  generalize hG : (750000000 - lo) % 1000000000 = g at *
  -- from the lowest angle on
  have key : ∀ m : Int, lo ≤ m → m ≤ hi → ∃ b : Int, b = 1000000000 - g + (m - lo) ∧ 0 ≤ b ∧ b < 1000000000 ∧ rabs (siU m + C (angU b)) ≤ 6 / 10000000000000 := by
    intro m m1 m2
    refine ⟨_, rfl, by omega, by omega, ?_⟩
    generalize hb : 1000000000 - g + (m - lo) = b at *
    have c := rabs_le.1 (siU_cos (b := b) (by omega) (by omega))
    have h := rabs_le.1 (siU_half (b + 250000000))
    have e : siU (b + 250000000 + 500000000) = siU m := by
      unfold siU
      have : (b + 250000000 + 500000000) % 1000000000 = m % 1000000000 := by omega
      rw [this]
    rw [e] at h
    exact rabs_le.2 ⟨by grind, by grind⟩
  obtain ⟨b1, e1, p1, q1, r1⟩ := key lo (by omega) (by omega)
  obtain ⟨b2, e2, p2, q2, r2⟩ := key n h1 h2
  obtain ⟨b3, e3, p3, q3, r3⟩ := key hi (by omega) (by omega)
  have r1 := rabs_le.1 r1
  have r2 := rabs_le.1 r2
  have r3 := rabs_le.1 r3
  have l1 : angU b1 ≤ angU b2 := by rw [angU_tq, angU_tq]; exact tq_le (icast (by omega))
  have l2 : angU b2 ≤ angU b3 := by rw [angU_tq, angU_tq]; exact tq_le (icast (by omega))
  rcases cos_valley (ang_range p1 q1).1 l1 l2 (ang_range p3 q3).2.1 with h | h
  · left; grind
  · right; grind
theorem siU_high {lo hi n : Int} (h1 : lo ≤ n) (h2 : n ≤ hi) (hg : hi - lo < (250000000 - lo) % 1000000000) : siU n ≤ siU lo + 3 / 1000000000000 ∨ siU n ≤ siU hi + 3 / 1000000000000 := by
  have e : (750000000 - (lo + 500000000)) % 1000000000 = (250000000 - lo) % 1000000000 := by omega
  have h := siU_low (lo := lo + 500000000) (hi := hi + 500000000) (n := n + 500000000) (by omega) (by omega) (by rw [e]; omega)
  have a := rabs_le.1 (siU_half lo)
  have b := rabs_le.1 (siU_half hi)
  have c := rabs_le.1 (siU_half n)
  rcases h with h | h
  · left; grind
  · right; grind
/-- Sines of angles near each other. -/
theorem siU_lip0 {m n : Int} (h : m ≤ n) (hd : n - m ≤ 400000000) : rabs (siU n - siU m) ≤ (628320 / 100000000000000) * ((n - m : Int) : Rat) + 1 / 100000000000 := by
  obtain ⟨m0, m1⟩ := emod_bd m
  obtain ⟨n0, n1⟩ := emod_bd n
  obtain ⟨t1, t2, -⟩ := tq_num
  have hp := pi_num
  have d0 : (0 : Rat) ≤ ((n - m : Int) : Rat) := by exact_mod_cast (show 0 ≤ n - m by omega)
  have d1 : ((n - m : Int) : Rat) ≤ 400000000 := by
    have := icast hd
    have e : ((400000000 : Int) : Rat) = 400000000 := rfl
    rw [e] at this; exact this
  have rm := ang_range m0 m1
  have rn := ang_range n0 n1
  have td := Rat.mul_le_mul_of_nonneg_right t2 d0
  have td0 := Rat.mul_nonneg (show 0 ≤ tq by grind) d0
  have tt := tq_le d1
  have lim : tq * 400000000 ≤ 2514/1000 := by decide +kernel
  have fin : ∀ x : Rat, rabs (x - angU (m % 1000000000)) ≤ tq * ((n - m : Int) : Rat) → rabs x ≤ 32/5 → rabs (S x - S (angU (m % 1000000000))) ≤ (628320 / 100000000000000) * ((n - m : Int) : Rat) + 5 / 1000000000000 := by
    intro x hx hx2
    have hx' := rabs_le.1 hx
    have hx2' := rabs_le.1 hx2
    have rm2 := rabs_le.1 rm.2.2
    have l := (sin_lipQ (x := x) (y := angU (m % 1000000000)) (rabs_le.2 ⟨by grind, by grind⟩) (rabs_le.2 ⟨by grind, by grind⟩)).1
    grind
  unfold siU
  rcases (show n % 1000000000 - m % 1000000000 = n - m ∨ n % 1000000000 - m % 1000000000 = n - m - 1000000000 by omega) with e | e
  · have e2 : angU (n % 1000000000) = angU (m % 1000000000) + tq * ((n - m : Int) : Rat) := by
      rw [angU_tq, angU_tq, ← e]; push_cast; grind
    have := fin (angU (n % 1000000000)) (by rw [e2]; have q : angU (m % 1000000000) + tq * ((n - m : Int) : Rat) - angU (m % 1000000000) = tq * ((n - m : Int) : Rat) := by grind
                                            rw [q, rabs_pos td0]; exact Rat.le_refl) rn.2.2
    grind
  · have e2 : angU (n % 1000000000) = angU (m % 1000000000) + tq * ((n - m : Int) : Rat) - 2 * piQ := by
      have : ((n - m : Int) : Rat) = (((n % 1000000000) - (m % 1000000000) + 1000000000 : Int) : Rat) := by rw [e]; congr 1; omega
      rw [this, angU_tq, angU_tq, ← tq_turn]; push_cast; grind
    -- one turn back
    have tb := sc_shift (a := m % 1000000000) m0 m1 (θ := angU (m % 1000000000) - 2 * piQ) (.inr (by rw [angU_tq]))
    have sm : S (tq * ((m % 1000000000 : Int) : Rat)) = S (angU (m % 1000000000)) := by rw [angU_tq]
    rw [sm] at tb
    have hx' := rabs_le.1 rn.2.2
    have l := (sin_lipQ (x := angU (n % 1000000000)) (y := angU (m % 1000000000) - 2 * piQ) (rabs_le.2 ⟨by grind, by grind⟩) (rabs_le.2 ⟨by grind, by grind⟩)).1
    have q : angU (n % 1000000000) - (angU (m % 1000000000) - 2 * piQ) = tq * ((n - m : Int) : Rat) := by grind
    rw [q, rabs_pos td0] at l
    have tb1 := rabs_le.1 tb.1
    have l1 := rabs_le.1 l
    rw [rabs_le]
    constructor <;> grind
theorem siU_lip {m n : Int} (h : m ≤ n) : rabs (siU n - siU m) ≤ (628320 / 100000000000000) * ((n - m : Int) : Rat) + 1 / 100000000000 := by
  by_cases hd : n - m ≤ 400000000
  · exact siU_lip0 h hd
  · have b1 := siU_bd n
    have b2 := siU_bd m
    have d1 : (400000000 : Rat) ≤ ((n - m : Int) : Rat) := by
      have := icast (show 400000000 ≤ n - m by omega)
      have e : ((400000000 : Int) : Rat) = 400000000 := rfl
      rw [e] at this; exact this
    rw [rabs_le]
    constructor <;> grind
def ctB (lo hi g : Int) : Bool := decide (1000000000 ≤ hi - lo) || decide ((g - lo) % 1000000000 ≤ hi - lo)
def sovLo (lo hi : Int) : Int := if ctB lo hi 750000000 then -1000000000 else min (sineLo lo) (sineLo hi)
def sovHi (lo hi : Int) : Int := if ctB lo hi 250000000 then 1000000000 else max (sineHi lo) (sineHi hi)
/-- What an interval of sines is worth. -/
structure OverOk (lo hi L H : Int) : Prop where
  c1 : ∀ n, lo ≤ n → n ≤ hi → (L : Rat) ≤ 1000000000 * siU n + 4 / 1000
  c2 : ∀ n, lo ≤ n → n ≤ hi → 1000000000 * siU n ≤ (H : Rat) + 4 / 1000
  b0 : -1000000000 ≤ L
  b1 : H ≤ 1000000000
  o : L ≤ H
  w : ((H - L : Int) : Rat) ≤ 62832 / 10000 * ((hi - lo : Int) : Rat) + 225 / 100
theorem siU_q : rabs (siU 750000000 + 1) ≤ 1 / 10000000000000 ∧ rabs (siU 250000000 - 1) ≤ 1 / 10000000000000 := by decide +kernel
theorem siU_eq {m n k : Int} (h : m = n + 1000000000 * k) : siU m = siU n := by rw [h]; exact siU_turn n k
theorem over_ok (lo hi : Int) (h : lo ≤ hi) : OverOk lo hi (sovLo lo hi) (sovHi lo hi) := by
  have s1 := sine_bd lo
  have s2 := sine_bd hi
  obtain ⟨q3, q1⟩ := siU_q
  have q3 := rabs_le.1 q3
  have q1 := rabs_le.1 q1
  have eL : S (angU (lo % 1000000000)) = siU lo := rfl
  have eH : S (angU (hi % 1000000000)) = siU hi := rfl
  rw [eL] at s1
  rw [eH] at s2
  have c3 : ((-1000000000 : Int) : Rat) = -1000000000 := rfl
  have c1 : ((1000000000 : Int) : Rat) = 1000000000 := rfl
  -- the least one
  have low : (∀ n, lo ≤ n → n ≤ hi → (sovLo lo hi : Rat) ≤ 1000000000 * siU n + 4 / 1000) ∧ -1000000000 ≤ sovLo lo hi ∧ sovLo lo hi ≤ sineLo lo ∧ ∃ x, lo ≤ x ∧ x ≤ hi ∧ 1000000000 * siU x - 11 / 10 ≤ (sovLo lo hi : Rat) := by
    unfold sovLo
    cases hc : ctB lo hi 750000000 with
    | true =>
      rw [if_pos rfl]
      refine ⟨fun n _ _ => ?_, by omega, s1.b0, ?_⟩
      · have := siU_bd n; rw [c3]; grind
      · have hx : (750000000 - lo) % 1000000000 ≤ hi - lo := by
          unfold ctB at hc
          simp at hc
          have := emod_bd (750000000 - lo)
          omega
        refine ⟨lo + (750000000 - lo) % 1000000000, by have := emod_bd (750000000 - lo); omega, by omega, ?_⟩
        have e : siU (lo + (750000000 - lo) % 1000000000) = siU 750000000 := siU_eq (k := -((750000000 - lo) / 1000000000)) (by omega)
        rw [e, c3]; grind
    | false =>
      rw [if_neg (by simp)]
      have hg : hi - lo < (750000000 - lo) % 1000000000 := by
        unfold ctB at hc
        simp at hc
        omega
      refine ⟨fun n n1 n2 => ?_, by have := s1.b0; have := s2.b0; omega, by omega, ?_⟩
      · have m1 := icast (show min (sineLo lo) (sineLo hi) ≤ sineLo lo by omega)
        have m2 := icast (show min (sineLo lo) (sineLo hi) ≤ sineLo hi by omega)
        have a1 := s1.l1
        have a2 := s2.l1
        rcases siU_low n1 n2 hg with k | k <;> grind
      · rcases (show min (sineLo lo) (sineLo hi) = sineLo lo ∨ min (sineLo lo) (sineLo hi) = sineLo hi by omega) with k | k
        · exact ⟨lo, by omega, h, by rw [k]; exact s1.l2⟩
        · exact ⟨hi, h, by omega, by rw [k]; exact s2.l2⟩
  have high : (∀ n, lo ≤ n → n ≤ hi → 1000000000 * siU n ≤ (sovHi lo hi : Rat) + 4 / 1000) ∧ sovHi lo hi ≤ 1000000000 ∧ sineHi lo ≤ sovHi lo hi ∧ ∃ x, lo ≤ x ∧ x ≤ hi ∧ (sovHi lo hi : Rat) ≤ 1000000000 * siU x + 11 / 10 := by
    unfold sovHi
    cases hc : ctB lo hi 250000000 with
    | true =>
      rw [if_pos rfl]
      refine ⟨fun n _ _ => ?_, by omega, s1.b1, ?_⟩
      · have := siU_bd n; rw [c1]; grind
      · have hx : (250000000 - lo) % 1000000000 ≤ hi - lo := by
          unfold ctB at hc
          simp at hc
          have := emod_bd (250000000 - lo)
          omega
        refine ⟨lo + (250000000 - lo) % 1000000000, by have := emod_bd (250000000 - lo); omega, by omega, ?_⟩
        have e : siU (lo + (250000000 - lo) % 1000000000) = siU 250000000 := siU_eq (k := -((250000000 - lo) / 1000000000)) (by omega)
        rw [e, c1]; grind
    | false =>
      rw [if_neg (by simp)]
      have hg : hi - lo < (250000000 - lo) % 1000000000 := by
        unfold ctB at hc
        simp at hc
        omega
      refine ⟨fun n n1 n2 => ?_, by have := s1.b1; have := s2.b1; omega, by omega, ?_⟩
      · have m1 := icast (show sineHi lo ≤ max (sineHi lo) (sineHi hi) by omega)
        have m2 := icast (show sineHi hi ≤ max (sineHi lo) (sineHi hi) by omega)
        have a1 := s1.h1
        have a2 := s2.h1
        rcases siU_high n1 n2 hg with k | k <;> grind
      · rcases (show max (sineHi lo) (sineHi hi) = sineHi lo ∨ max (sineHi lo) (sineHi hi) = sineHi hi by omega) with k | k
        · exact ⟨lo, by omega, h, by rw [k]; exact s1.h2⟩
        · exact ⟨hi, h, by omega, by rw [k]; exact s2.h2⟩
  obtain ⟨l1, l2, l3, x, x1, x2, x3⟩ := low
  obtain ⟨h1, h2, h3, y, y1, y2, y3⟩ := high
  refine ⟨l1, h1, l2, h2, by have := s1.o; omega, ?_⟩
  have lip : rabs (siU y - siU x) ≤ (628320 / 100000000000000) * ((hi - lo : Int) : Rat) + 1 / 100000000000 := by
    rcases (show x ≤ y ∨ y ≤ x by omega) with k | k
    · have a := siU_lip k
      have b := icast (show y - x ≤ hi - lo by omega)
      grind
    · have a := siU_lip k
      have b := icast (show x - y ≤ hi - lo by omega)
      have e : rabs (siU y - siU x) = rabs (siU x - siU y) := by
        have : siU y - siU x = -(siU x - siU y) := by grind
        rw [this, rabs_neg]
      rw [e]
      grind
  have lip := rabs_le.1 lip
  push_cast at lip ⊢
  grind
end
section
def covB (lo : Int) : Int := lo % 1000000000 + 250000000
def covE (lo hi : Int) : Int := lo % 1000000000 + 250000000 + min (hi - lo) 2000000000
theorem over_units (lo hi n : Int) (h : lo ≤ hi) (n1 : lo ≤ n) (n2 : n ≤ hi) : UnitOk (sovLo lo hi) (sovHi lo hi) (sc (n % 1000000000 * 1000000)).1 ∧ UnitOk (sovLo (covB lo) (covE lo hi)) (sovHi (covB lo) (covE lo hi)) (sc (n % 1000000000 * 1000000)).2 := by
  obtain ⟨m0, m1⟩ := emod_bd n
  obtain ⟨g1, g2⟩ := sc_ang m0 m1
  have o1 := over_ok lo hi h
  have o2 := over_ok (covB lo) (covE lo hi) (by unfold covB covE; omega)
  constructor
  · have a := o1.c1 n n1 n2
    have b := o1.c2 n n1 n2
    exact unit_ok (x := S (angU (n % 1000000000))) (by grind) (by unfold siU at a; grind) (by unfold siU at b; grind)
  · -- the same angle, a quarter of a turn on
    obtain ⟨x, x1, x2, x3⟩ : ∃ x, covB lo ≤ x ∧ x ≤ covE lo hi ∧ x % 1000000000 = (n % 1000000000 + 250000000) % 1000000000 := by
      by_cases hd : hi - lo ≤ 2000000000
      · exact ⟨covB lo + (n - lo), by omega, by unfold covB covE; omega, by unfold covB; omega⟩
      · have := emod_bd (n - lo)
        exact ⟨covB lo + (n - lo) % 1000000000, by omega, by unfold covB covE; omega, by unfold covB; omega⟩
    have a := o2.c1 x x1 x2
    have b := o2.c2 x x1 x2
    have e : siU x = siU (n % 1000000000 + 250000000) := by unfold siU; rw [x3]
    have c := rabs_le.1 (siU_cos m0 m1)
    rw [e] at a b
    exact unit_ok (x := C (angU (n % 1000000000))) (by grind) (by grind) (by grind)
theorem over_wide (lo hi : Int) (h : lo ≤ hi) (hw : hi - lo ≤ 1000000000) : sovHi lo hi - sovLo lo hi ≤ 3 + 7 * (hi - lo) ∧ sovHi (covB lo) (covE lo hi) - sovLo (covB lo) (covE lo hi) ≤ 3 + 7 * (hi - lo) := by
  have key : ∀ {a b L H : Int}, OverOk a b L H → a ≤ b → H - L ≤ 3 + 7 * (b - a) := by
    intro a b L H o h
    have w := o.w
    have d0 : (0 : Rat) ≤ ((b - a : Int) : Rat) := by exact_mod_cast (show 0 ≤ b - a by omega)
    have : ((H - L : Int) : Rat) ≤ ((3 + 7 * (b - a) : Int) : Rat) := by push_cast at w d0 ⊢; grind
    exact Rat.intCast_le_intCast.1 this
  have k1 := key (over_ok lo hi h) h
  have k2 := key (over_ok (covB lo) (covE lo hi) (by unfold covB covE; omega)) (by unfold covB covE; omega)
  have e : covE lo hi - covB lo = hi - lo := by unfold covB covE; omega
  rw [e] at k2
  exact ⟨k1, k2⟩
theorem tmod_twice {k n : Int} (h : 0 < n) : (k.tmod n + n).tmod n = k % n := by
  have h1 := Int.tmod_add_tdiv_mul k n
  have h2 := Int.tmod_lt_of_pos k h
  have h3 : -n < k.tmod n := by
    have := Int.neg_tmod k n
    have h4 := Int.tmod_lt_of_pos (-k) h
    omega
  rw [Int.tmod_eq_emod_of_nonneg (by omega)]
  have : k.tmod n + n = k + n * (1 - k.tdiv n) := by grind
  rw [this, Int.add_mul_emod_self_left]
end
section
open Ieee
/-- What InArc asks of an interval from a to h (both from 0 on, below a turn) and a direction. -/
structure InArcOk (a h y x : Int) : Prop where
  c1 : -2147483648 ≤ fm (sc (a * 1000000)).2 y - fm (sc (a * 1000000)).1 x
  c2 : -2147483648 ≤ fm (sc (h * 1000000)).1 x - fm (sc (h * 1000000)).2 y
  c3 : -2147483648 < fm (sc (a * 1000000)).2 x + fm (sc (a * 1000000)).1 y + fm (sc (h * 1000000)).2 x + fm (sc (h * 1000000)).1 y
/-- A product with a number that is near to a sine or a cosine. -/
theorem fm_sc {s u : Int} {σ B : Rat} (hs : rabs ((s : Rat) - uQ * σ) ≤ 180000) (hu : rabs (u : Rat) ≤ B) (hB : B ≤ 1160000000000000000) : rabs ((fm s u : Rat) - σ * u) ≤ 182000 := by
  obtain ⟨f1, f2⟩ := fm_near s u
  have u0 : (0 : Rat) < uQ := by decide +kernel
  have hU : uQ = 1152921504606846976 := rfl
  have m := rabs_le.1 (mul_rabs hs hu)
  have B0 : 0 ≤ B := by have := rabs_nonneg (u : Rat); grind
  have e : (s : Rat) * u = uQ * (σ * u) + ((s : Rat) - uQ * σ) * u := by grind
  rw [e] at f1 f2
  generalize ((s : Rat) - uQ * σ) * u = d at *
  generalize σ * (u : Rat) = z at *
  generalize (fm s u : Rat) = F at *
  have k1 : (F - z) * uQ ≤ 182000 * uQ := by rw [hU] at *; grind
  have k2 : -182000 * uQ ≤ (F - z) * uQ := by rw [hU] at *; grind
  exact rabs_le.2 ⟨Rat.le_of_mul_le_mul_right k1 u0, Rat.le_of_mul_le_mul_right k2 u0⟩
theorem inArc_of {a h u v : Int} (a0 : 0 ≤ a) (a1 : a < 1000000000) (h0 : 0 ≤ h) (h1 : h < 1000000000) (hb : Between a h (v : Rat) (u : Rat)) (u1 : -1160000000000000000 ≤ u) (u2 : u ≤ 1160000000000000000) (v1 : -1160000000000000000 ≤ v) (v2 : v ≤ 1160000000000000000) : InArcOk a h u v := by
  obtain ⟨s1, s2⟩ := sc_ang a0 a1
  obtain ⟨s3, s4⟩ := sc_ang h0 h1
  rw [angU_tq] at s1 s2 s3 s4
  have c1 : ((1160000000000000000 : Int) : Rat) = 1160000000000000000 := rfl
  have c2 : ((-1160000000000000000 : Int) : Rat) = -1160000000000000000 := rfl
  have U1 := icast u1
  have U2 := icast u2
  have V1 := icast v1
  have V2 := icast v2
  rw [c2] at U1 V1
  rw [c1] at U2 V2
  have hu : rabs (u : Rat) ≤ 1160000000000000000 := rabs_le.2 ⟨U2, U1⟩
  have hv : rabs (v : Rat) ≤ 1160000000000000000 := rabs_le.2 ⟨V2, V1⟩
  obtain ⟨b1, b2, b3⟩ := hb
  have g1 := rabs_le.1 (fm_sc s2 hu Rat.le_refl)
  have g2 := rabs_le.1 (fm_sc s1 hv Rat.le_refl)
  have g3 := rabs_le.1 (fm_sc s3 hv Rat.le_refl)
  have g4 := rabs_le.1 (fm_sc s4 hu Rat.le_refl)
  have g5 := rabs_le.1 (fm_sc s2 hv Rat.le_refl)
  have g6 := rabs_le.1 (fm_sc s1 hu Rat.le_refl)
  have g7 := rabs_le.1 (fm_sc s4 hv Rat.le_refl)
  have g8 := rabs_le.1 (fm_sc s3 hu Rat.le_refl)
  clear s1 s2 s3 s4
  generalize S (tq * a) = sa at *
  generalize C (tq * a) = ca at *
  generalize S (tq * h) = sh at *
  generalize C (tq * h) = ch at *
  have r : ∀ {p q : Int}, (p : Rat) ≤ (q : Rat) → p ≤ q := fun h => Rat.intCast_le_intCast.1 h
  have r' : ∀ {p q : Int}, (p : Rat) < (q : Rat) → p < q := fun h => by exact_mod_cast h
  have d1 : ((-2147483648 : Int) : Rat) = -2147483648 := rfl
  refine ⟨r ?_, r ?_, r' ?_⟩
  · rw [d1]; push_cast; grind
  · rw [d1]; push_cast; grind
  · rw [d1]; push_cast; grind
/-- Greater directions of the same kind. -/
theorem Between.scale {a h : Int} {x y : Rat} (hb : Between a h x y) {k : Rat} (hk : 0 ≤ k) : Between a h (k * x) (k * y) := by
  obtain ⟨b1, b2, b3⟩ := hb
  have e1 : rabs (k * x) + rabs (k * y) = k * (rabs x + rabs y) := by rw [rabs_mul, rabs_mul, rabs_pos hk]; grind
  have m1 := Rat.mul_le_mul_of_nonneg_left b1 hk
  have m2 := Rat.mul_le_mul_of_nonneg_left b2 hk
  have m3 := Rat.mul_nonneg hk b3
  refine ⟨?_, ?_, ?_⟩
  · rw [e1]; grind
  · rw [e1]; grind
  · grind
/-- Each corner lies between the bounds of Arc's interval. -/
theorem arc_corners {yl yh xl xh : Int} {D0 L H : Rat} {E : Nat → Rat} (hv : ArcV yl yh xl xh D0 E L H) (hw : arcHi yl yh xl xh - arcLo yl yh xl xh ≤ 400000000) {y x : Int} (hy : y = yl ∨ y = yh) (hx : x = xl ∨ x = xh) :
    Between (arcLo yl yh xl xh % 1000000000) (arcHi yl yh xl xh % 1000000000) (x : Rat) (y : Rat) := by
  obtain ⟨h0, hk, -, l0, lk, -, g0, gk, -, lo1, lo2, hi1, hi2⟩ := hv
  have key : ∀ {y x : Int} {D φ : Rat} {k : Int}, HeadI x y D → rabs (φ - (D + (k : Rat) * 1000000000)) ≤ 1 / 1000000 → (arcLo yl yh xl xh : Rat) ≤ φ → φ ≤ (arcHi yl yh xl xh : Rat) → Between (arcLo yl yh xl xh % 1000000000) (arcHi yl yh xl xh % 1000000000) (x : Rat) (y : Rat) := by
    intro y x D φ k hd hφ f1 f2
    have m0 := Int.emod_nonneg (arcLo yl yh xl xh) (show (1000000000 : Int) ≠ 0 by omega)
    have m1 := Int.emod_lt_of_pos (arcLo yl yh xl xh) (show (0 : Int) < 1000000000 by omega)
    have m2 := Int.emod_nonneg (arcHi yl yh xl xh) (show (1000000000 : Int) ≠ 0 by omega)
    have m3 := Int.emod_lt_of_pos (arcHi yl yh xl xh) (show (0 : Int) < 1000000000 by omega)
    exact between (m := arcLo yl yh xl xh / 1000000000) (m2 := arcHi yl yh xl xh / 1000000000) hd hφ f1 f2 hw (by omega) m0 m1 (by omega) m2 m3
  have ck : ∀ k, k < 3 → Between (arcLo yl yh xl xh % 1000000000) (arcHi yl yh xl xh % 1000000000) ((arcC yl yh xl xh k).2 : Rat) ((arcC yl yh xl xh k).1 : Rat) := by
    intro k hk3
    obtain ⟨D, j, d1, d2⟩ := hk k hk3
    have a1 := lk k hk3
    have a2 := gk k hk3
    exact key d1 (φ := D0 + E k) (k := j) (by grind) (by grind) (by grind)
  rcases hy with rfl | rfl <;> rcases hx with rfl | rfl
  · have z : rabs (D0 - (D0 + ((0 : Int) : Rat) * 1000000000)) ≤ 1 / 1000000 := by
      have e : D0 - (D0 + ((0 : Int) : Rat) * 1000000000) = 0 := by have : ((0 : Int) : Rat) = 0 := rfl
                                                                    rw [this]; grind
      rw [e]; decide +kernel
    exact key h0 (φ := D0) (k := 0) z (by grind) (by grind)
  · exact ck 0 (by omega)
  · exact ck 1 (by omega)
  · exact ck 2 (by omega)
/-- The interval of one direction is narrow. -/
theorem arc_narrow (y x : Int) (b1 : -2000000000000000000 ≤ y) (b2 : y ≤ 2000000000000000000) (b5 : -2000000000000000000 ≤ x) (b6 : x ≤ 2000000000000000000) (h0 : y ≠ 0 ∨ x ≠ 0) : arcHi y y x x - arcLo y y x x ≤ 3 := by
  obtain ⟨-, D0, n0, hd0⟩ := dirI_run y x b1 b2 b5 b6 h0
  obtain ⟨-, E, j, e1, e2, e3⟩ := adj_run n0 n0 hd0.b hd0.b
  have hj : j = 0 := by
    have a := rabs_le.1 e2
    have b := rabs_le.1 e3
    have u1 : (j : Rat) < ((1 : Int) : Rat) := by have e : ((1 : Int) : Rat) = 1 := rfl
                                                  rw [e]; grind
    have u2 : ((-1 : Int) : Rat) < (j : Rat) := by have e : ((-1 : Int) : Rat) = -1 := rfl
                                                   rw [e]; grind
    have v1 : j < 1 := by exact_mod_cast u1
    have v2 : -1 < j := by exact_mod_cast u2
    omega
  have hE : rabs E ≤ 4 / 10000000 := by
    have e : D0 + E - (D0 + (j : Rat) * 1000000000) = E := by rw [hj]; have : ((0 : Int) : Rat) = 0 := rfl
                                                              rw [this]; grind
    rw [e] at e2; exact e2
  have hE := rabs_le.1 hE
  have eD : ∀ k, arcD y y x x k = fsub (dirW y x) (dirW y x) := by
    intro k
    unfold arcD
    have : arcC y y x x k = (y, x) := by unfold arcC; split <;> rfl
    rw [this]
  have low : ∀ k, ∃ L, Num (arcLow y y x x k) L ∧ -(4 / 10000000) ≤ L ∧ L ≤ 0 := by
    intro k
    induction k with
    | zero => exact ⟨0, num_zero, by grind, by grind⟩
    | succ k ih =>
      obtain ⟨L, l1, l2, l3⟩ := ih
      have h := (fminW_num l1 e1).1
      refine ⟨if L ≤ E then L else E, ?_, ?_, ?_⟩
      · have ee : arcLow y y x x (k + 1) = fminW (arcLow y y x x k) (adjW (arcD y y x x k)) := rfl
        rw [ee, eD]; exact h
      · split <;> grind
      · split <;> grind
  have high : ∀ k, ∃ H, Num (arcHigh y y x x k) H ∧ 0 ≤ H ∧ H ≤ 4 / 10000000 := by
    intro k
    induction k with
    | zero => exact ⟨0, num_zero, by grind, by grind⟩
    | succ k ih =>
      obtain ⟨L, l1, l2, l3⟩ := ih
      have h := (fmaxW_num l1 e1).1
      refine ⟨if L ≤ E then E else L, ?_, ?_, ?_⟩
      · have ee : arcHigh y y x x (k + 1) = fmaxW (arcHigh y y x x k) (adjW (arcD y y x x k)) := rfl
        rw [ee, eD]; exact h
      · split <;> grind
      · split <;> grind
  obtain ⟨L, l1, l2, l3⟩ := low 3
  obtain ⟨H, g1, g2, g3⟩ := high 3
  clear low high e1 e2 e3
  have D0b := rabs_le.1 hd0.b
  have q30 : p2 ((30 : Nat) : Int) = 1073741824 := by decide +kernel
  have n30 : p2 (((30 : Nat) : Int) - 53) ≤ 12 / 100000000 := by decide +kernel
  have t18 : (1 : Rat) / 10 ^ 18 ≤ 1 / 1000000000 := by decide +kernel
  obtain ⟨rl, a1, a2⟩ := add_ap 30 (by omega) n0.ap l1.ap (by rw [q30]; grind) (by rw [q30]; grind)
  obtain ⟨rh, c1, c2⟩ := add_ap 30 (by omega) n0.ap g1.ap (by rw [q30]; grind) (by rw [q30]; grind)
  obtain ⟨s1, s2, X1, X2, -, -, -, -, -, -, -, -, -, -, -, w12, -, -⟩ := around_run 30 (by omega) a2 (by rw [q30]; grind) (by rw [q30]; grind)
  obtain ⟨s1', s2', X1', X2', -, -, -, -, -, -, -, -, -, -, -, -, -, v14⟩ := around_run 30 (by omega) c2 (by rw [q30]; grind) (by rw [q30]; grind)
  have eL : arcLo y y x x = arLo rl := by unfold arcLo; rw [fadd_of a1]
  have eH : arcHi y y x x = arHi rh := by unfold arcHi; rw [fadd_of c1]
  rw [eL, eH]
  have : ((arHi rh - arLo rl : Int) : Rat) ≤ ((3 : Int) : Rat) := by
    have e : ((3 : Int) : Rat) = 3 := rfl
    rw [e]; push_cast; grind
  exact Rat.intCast_le_intCast.1 this
end
end Go.Proofs.YtcgnhnmigmdalaaGreatDoor
