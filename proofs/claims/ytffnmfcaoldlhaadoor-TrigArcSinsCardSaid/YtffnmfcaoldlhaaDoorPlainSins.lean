/- The intervals of trig.sine hold the reference's sines and cosines and are narrow. No program in sight. -/
import Derived.Test.YtffnmfcaoldlhaaDoorPlainArc
import Derived.Test.YtffnmfcaoldlhaaDoorFltE
set_option linter.unusedVariables false
set_option linter.unusedSimpArgs false
namespace Go.Proofs.YtffnmfcaoldlhaaDoor
open Ieee
theorem angU_tq (a : Int) : angU a = tq * (a : Rat) := by unfold angU tq; grind
theorem icast {a b : Int} (h : a ≤ b) : (a : Rat) ≤ (b : Rat) := Rat.intCast_le_intCast.2 h
theorem ang_range {b : Int} (b0 : 0 ≤ b) (b1 : b < 1000000000) : 0 ≤ angU b ∧ angU b ≤ 2 * piQ ∧ rabs (angU b) ≤ 32/5 := by
  have r0 : (0 : Rat) ≤ (b : Rat) := by exact_mod_cast b0
  have r1 : (b : Rat) ≤ 1000000000 := by
    have := icast (show b ≤ 1000000000 by omega)
    have e : ((1000000000 : Int) : Rat) = 1000000000 := rfl
    rw [e] at this; exact this
  have h0 := tq_le r0
  have h1 := tq_le r1
  rw [tq_turn] at h1
  have hp := pi_num
  rw [angU_tq]
  have z : tq * 0 = 0 := by grind
  rw [z] at h0
  exact ⟨h0, h1, rabs_le.2 ⟨by grind, by grind⟩⟩
theorem ang_quarters : rabs (1000000000 * S (angU 0)) ≤ 1 / 10000 ∧ rabs (1000000000 * S (angU 500000000)) ≤ 1 / 10000 ∧ rabs (1000000000 * S (angU 250000000) - 1000000000) ≤ 1 / 10000 ∧ rabs (1000000000 * S (angU 750000000) + 1000000000) ≤ 1 / 10000 := by decide +kernel
theorem int_of_rat {a b : Int} {x : Rat} (h1 : (a : Rat) ≤ x) (h2 : x < (b : Rat) + 1) : a ≤ b := by
  have h : (a : Rat) < ((b + 1 : Int) : Rat) := by push_cast; grind
  have : a < b + 1 := by exact_mod_cast h
  omega
/-- What the interval of a sine is worth. -/
structure SineOk (lo hi : Int) (x : Rat) : Prop where
  l1 : (lo : Rat) ≤ 1000000000 * x + 1 / 10000
  l2 : 1000000000 * x - 11 / 10 ≤ (lo : Rat)
  h1 : 1000000000 * x ≤ (hi : Rat) + 1 / 10000
  h2 : (hi : Rat) ≤ 1000000000 * x + 11 / 10
  w : hi - lo ≤ 2
  o : lo ≤ hi
  b0 : -1000000000 ≤ lo
  b1 : hi ≤ 1000000000
theorem sine_bd (a : Int) : SineOk (sineLo a) (sineHi a) (S (angU (a % 1000000000))) := by
  have m0 := Int.emod_nonneg a (show (1000000000 : Int) ≠ 0 by omega)
  have m1 := Int.emod_lt_of_pos a (show (0 : Int) < 1000000000 by omega)
  obtain ⟨q0, q2, q1, q3⟩ := ang_quarters
  have c0 : ((0 : Int) : Rat) = 0 := rfl
  have c1 : ((1000000000 : Int) : Rat) = 1000000000 := rfl
  have c3 : ((-1000000000 : Int) : Rat) = -1000000000 := rfl
  have fin : ∀ (lo hi : Int) (x : Rat), (lo : Rat) ≤ 1000000000 * x + 1 / 10000 → 1000000000 * x - 11 / 10 ≤ (lo : Rat) → 1000000000 * x ≤ (hi : Rat) + 1 / 10000 → (hi : Rat) ≤ 1000000000 * x + 11 / 10 → -1000000000 ≤ lo → hi ≤ 1000000000 → lo ≤ hi → SineOk lo hi x := by
    intro lo hi x a1 a2 a3 a4 a5 a6 a7
    refine ⟨a1, a2, a3, a4, ?_, a7, a5, a6⟩
    have h : ((hi - lo : Int) : Rat) < ((3 : Int) : Rat) := by
      have e : ((3 : Int) : Rat) = 3 := rfl
      rw [e]; push_cast; grind
    have : hi - lo < 3 := by exact_mod_cast h
    omega
  by_cases h0 : a % 1000000000 = 0
  · have e : sineLo a = 0 ∧ sineHi a = 0 := by unfold sineLo sineHi; rw [if_pos (.inl h0), if_pos (.inl h0)]; exact ⟨rfl, rfl⟩
    rw [e.1, e.2, h0]
    have := rabs_le.1 q0
    exact fin _ _ _ (by rw [c0]; grind) (by rw [c0]; grind) (by rw [c0]; grind) (by rw [c0]; grind) (by omega) (by omega) (by omega)
  by_cases h2 : a % 1000000000 = 500000000
  · have e : sineLo a = 0 ∧ sineHi a = 0 := by unfold sineLo sineHi; rw [if_pos (.inr h2), if_pos (.inr h2)]; exact ⟨rfl, rfl⟩
    rw [e.1, e.2, h2]
    have := rabs_le.1 q2
    exact fin _ _ _ (by rw [c0]; grind) (by rw [c0]; grind) (by rw [c0]; grind) (by rw [c0]; grind) (by omega) (by omega) (by omega)
  by_cases h1 : a % 1000000000 = 250000000
  · have e : sineLo a = 1000000000 ∧ sineHi a = 1000000000 := by unfold sineLo sineHi; rw [if_neg (by omega), if_pos h1, if_neg (by omega), if_pos h1]; exact ⟨rfl, rfl⟩
    rw [e.1, e.2, h1]
    have := rabs_le.1 q1
    exact fin _ _ _ (by rw [c1]; grind) (by rw [c1]; grind) (by rw [c1]; grind) (by rw [c1]; grind) (by omega) (by omega) (by omega)
  by_cases h3 : a % 1000000000 = 750000000
  · have e : sineLo a = -1000000000 ∧ sineHi a = -1000000000 := by unfold sineLo sineHi; rw [if_neg (by omega), if_neg h1, if_pos h3, if_neg (by omega), if_neg h1, if_pos h3]; exact ⟨rfl, rfl⟩
    rw [e.1, e.2, h3]
    have := rabs_le.1 q3
    exact fin _ _ _ (by rw [c3]; grind) (by rw [c3]; grind) (by rw [c3]; grind) (by rw [c3]; grind) (by omega) (by omega) (by omega)
  have e : sineLo a = clipL (arLo (sineV (a % 1000000000))) ∧ sineHi a = clipH (arHi (sineV (a % 1000000000))) := by
    unfold sineLo sineHi; rw [if_neg (by omega), if_neg h1, if_neg h3, if_neg (by omega), if_neg h1, if_neg h3]; exact ⟨rfl, rfl⟩
  rw [e.1, e.2]
  clear e h0 h1 h2 h3 q0 q1 q2 q3
  generalize a % 1000000000 = b at *
  obtain ⟨q, Y, v, s1, s2, X1, X2, -, -, -, -, -, -, -, -, p9, -, -, -, -, -, -, -, -, -, -, f1, f2, f3, f4⟩ := sine_run b m0 (by omega)
  rw [← p9]
  obtain ⟨r0, r1, r2⟩ := ang_range m0 m1
  have hp := pi_num
  have sb := sin_bd r0 (by grind)
  have t17 : (1 : Rat) / 10 ^ 17 ≤ 1 / 10000000000000000 := by decide +kernel
  generalize arLo v = lo at *
  generalize arHi v = hi at *
  generalize S (angU b) = x at *
  have lh : lo ≤ hi := int_of_rat (x := 1000000000 * x) (by grind) (by grind)
  have d1 : ((-1000000001 : Int) : Rat) = -1000000001 := rfl
  have d2 : ((1000000001 : Int) : Rat) = 1000000001 := rfl
  have d3 : ((999999999 : Int) : Rat) = 999999999 := rfl
  have d4 : ((-999999999 : Int) : Rat) = -999999999 := rfl
  have u1 : lo ≤ 999999999 := int_of_rat (x := 1000000000 * x - 9 / 10000) (by grind) (by rw [d3]; grind)
  have u2 : -1000000001 ≤ lo := int_of_rat (x := 1000000000 * x - 11/10000) (by rw [d1]; grind) (by grind)
  have u3 : hi ≤ 1000000001 := int_of_rat (x := 1000000000 * x + 11/10000 + 1) (by grind) (by rw [d2]; grind)
  have u4 : -999999999 ≤ hi := int_of_rat (x := 1000000000 * x + 9/10000 + 9995/10000) (by rw [d4]; grind) (by grind)
  have g1 : clipL lo = lo ∨ (clipL lo = -1000000000 ∧ lo = -1000000001) := by unfold clipL; omega
  have g2 : clipH hi = hi ∨ (clipH hi = 1000000000 ∧ hi = 1000000001) := by unfold clipH; omega
  have k1 : (clipL lo : Rat) ≤ 1000000000 * x + 1 / 10000 ∧ 1000000000 * x - 11 / 10 ≤ (clipL lo : Rat) := by
    rcases g1 with g | ⟨g, g'⟩
    · rw [g]; constructor <;> grind
    · rw [g, c3]; rw [g', d1] at f1 f2; constructor <;> grind
  have k2 : 1000000000 * x ≤ (clipH hi : Rat) + 1 / 10000 ∧ (clipH hi : Rat) ≤ 1000000000 * x + 11 / 10 := by
    rcases g2 with g | ⟨g, g'⟩
    · rw [g]; constructor <;> grind
    · rw [g, c1]; rw [g', d2] at f3 f4; constructor <;> grind
  exact fin _ _ _ k1.1 k1.2 k2.1 k2.2 (by unfold clipL; omega) (by unfold clipH; omega) (by unfold clipL clipH; omega)
/-- A quarter of a turn more makes a cosine of a sine. -/
theorem cos_shift {b : Int} (b0 : 0 ≤ b) (b1 : b < 1000000000) : rabs (S (angU ((b + 250000000) % 1000000000)) - C (angU b)) ≤ 3 / 10000000000000 := by
  obtain ⟨r0, r1, r2⟩ := ang_range b0 b1
  have hp := pi_num
  obtain ⟨p1, p2, p3, p4, -⟩ := at_pi
  have hb := SC_bd r2
  have q4 : tq * 250000000 = piQ / 2 := by decide +kernel
  have q34 : tq * 750000000 = piQ + piQ / 2 := by decide +kernel
  have hq : rabs (piQ / 2) ≤ 16/5 := rabs_le.2 ⟨by grind, by grind⟩
  have hpp : rabs piQ ≤ 16/5 := rabs_le.2 ⟨by grind, by grind⟩
  by_cases h : b < 750000000
  · have e : (b + 250000000) % 1000000000 = b + 250000000 := by omega
    have e2 : angU (b + 250000000) = angU b + piQ / 2 := by
      rw [angU_tq, angU_tq]
      push_cast
      grind
    rw [e, e2]
    have a := rabs_le.1 (sin_add r2 hq)
    have m1 := rabs_le.1 (mul_rabs hb.1 p4)
    have m2 := rabs_le.1 (mul_rabs hb.2 p3)
    rw [rabs_le]
    constructor <;> grind
  · have e : (b + 250000000) % 1000000000 = b - 750000000 := by omega
    have e2 : angU (b - 750000000) = (angU b - piQ) - piQ / 2 := by
      rw [angU_tq, angU_tq]
      push_cast
      grind
    rw [e, e2]
    have r3 : rabs (angU b - piQ) ≤ 32/5 := rabs_le.2 ⟨by grind, by grind⟩
    have a := rabs_le.1 (sin_sub r3 hq)
    have c := rabs_le.1 (cos_sub r2 hpp)
    have hb3 := SC_bd r3
    have m1 := rabs_le.1 (mul_rabs hb3.1 p4)
    have m2 := rabs_le.1 (mul_rabs hb3.2 p3)
    have m3 := rabs_le.1 (mul_rabs hb.1 p1)
    have m4 := rabs_le.1 (mul_rabs hb.2 p2)
    rw [rabs_le]
    constructor <;> grind
/-- The reference's number lies in an interval of units. -/
def UnitOk (lo hi v : Int) : Prop := lo * 1048576 ≤ prt 1000000000 v + 8192 ∧ prt 1000000000 v ≤ hi * 1048576 + 8192
theorem unit_ok {lo hi v : Int} {x : Rat} (hv : rabs ((v : Rat) - uQ * x) ≤ 1000000) (h1 : (lo : Rat) ≤ 1000000000 * x + 6 / 1000) (h2 : 1000000000 * x ≤ (hi : Rat) + 6 / 1000) : UnitOk lo hi v := by
  obtain ⟨p1, p2⟩ := prt_near 1000000000 v
  have c1 : ((1000000000 : Int) : Rat) = 1000000000 := rfl
  rw [c1] at p1 p2
  have hv := rabs_le.1 hv
  have hu : uQ = 1152921504606846976 := rfl
  rw [hu] at hv
  have r : ∀ {a b : Int}, (a : Rat) ≤ (b : Rat) → a ≤ b := fun h => Rat.intCast_le_intCast.1 h
  constructor
  · apply r
    push_cast
    grind
  · apply r
    push_cast
    grind
theorem sc_ang {b : Int} (b0 : 0 ≤ b) (b1 : b < 1000000000) : rabs (((sc (b * 1000000)).1 : Rat) - uQ * S (angU b)) ≤ 180000 ∧ rabs (((sc (b * 1000000)).2 : Rat) - uQ * C (angU b)) ≤ 180000 := by
  have h := sc_near3 (arg := b * 1000000) (by omega) (by omega)
  have e : ang (b * 1000000) = angU b := by
    unfold ang angU
    push_cast
    have t : (10 : Rat) ^ 15 = 1000000000000000 := by decide +kernel
    rw [t]
    grind
  rw [e] at h
  exact ⟨h.1.abs, h.2.abs⟩
/-- TrigSins' statement. -/
theorem sins_ok (a : Int) : UnitOk (sineLo a) (sineHi a) (sc (a % 1000000000 * 1000000)).1 ∧ UnitOk (sineLo (a % 1000000000 + 250000000)) (sineHi (a % 1000000000 + 250000000)) (sc (a % 1000000000 * 1000000)).2 := by
  have m0 := Int.emod_nonneg a (show (1000000000 : Int) ≠ 0 by omega)
  have m1 := Int.emod_lt_of_pos a (show (0 : Int) < 1000000000 by omega)
  have s1 := sine_bd a
  have s2 := sine_bd (a % 1000000000 + 250000000)
  obtain ⟨g1, g2⟩ := sc_ang m0 m1
  have cs := rabs_le.1 (cos_shift m0 m1)
  have hu : (0 : Rat) ≤ uQ := by decide +kernel
  constructor
  · have l := s1.l1
    have h := s1.h1
    exact unit_ok (x := S (angU (a % 1000000000))) (by grind) (by grind) (by grind)
  · have l := s2.l1
    have h := s2.h1
    exact unit_ok (x := C (angU (a % 1000000000))) (by grind) (by grind) (by grind)
end Go.Proofs.YtffnmfcaoldlhaaDoor
