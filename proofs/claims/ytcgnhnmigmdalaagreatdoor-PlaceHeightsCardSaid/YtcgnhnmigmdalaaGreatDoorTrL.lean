/- The walks through the laws TrigRoots and TrigSins. The walk through the law TrigSins; both laws as a whole. The contracts of the reference's TwoErr and InArc. -/
import Derived.Test.YtcgnhnmigmdalaaGreatDoorArA
import Derived.Test.YtcgnhnmigmdalaaGreatDoorWalkSva
import Derived.Test.YtcgnhnmigmdalaaGreatDoorTrC
set_option linter.unusedVariables false
set_option linter.unusedSimpArgs false
namespace Go.Proofs.YtcgnhnmigmdalaaGreatDoor
section
open Go.RowKit
theorem c_beyond1 (n m : Int) (w : World) (h : n < -m ∨ m < n) (m1 : 0 ≤ m) (m2 : m ≤ 9223372036854775807) : Calls Tryz.prog 29 #[.int .i64 n, .int .i64 m] w fun e w' => e = .returned (.bool true) ∧ w = w' := by
  rcases (show n < -m ∨ (-m ≤ n ∧ m < n) by omega) with h1 | ⟨h1, h2⟩
  · have d1 : decide (n < -m) = true := decide_eq_true h1
    have hgen := sgen; have hgen2 := sgen2; have hgen3 := sgen3; go_enter Tryz.func29, Tryz.ntmps29
    go_wp2
    go_ret
    exact ⟨rfl, rfl⟩
  · have d1 : decide (n < -m) = false := decide_eq_false (by omega)
    have d2 : decide (m < n) = true := decide_eq_true h2
    have hgen := sgen; have hgen2 := sgen2; have hgen3 := sgen3; go_enter Tryz.func29, Tryz.ntmps29
    go_wp2
    go_ret
    exact ⟨rfl, rfl⟩
theorem c_beyond0 (n m : Int) (w : World) (h1 : -m ≤ n) (h2 : n ≤ m) (m1 : 0 ≤ m) (m2 : m ≤ 9223372036854775807) : Calls Tryz.prog 29 #[.int .i64 n, .int .i64 m] w fun e w' => e = .returned (.bool false) ∧ w = w' := by
  have d1 : decide (n < -m) = false := decide_eq_false (by omega)
  have d2 : decide (m < n) = false := decide_eq_false (by omega)
  have hgen := sgen; have hgen2 := sgen2; have hgen3 := sgen3; go_enter Tryz.func29, Tryz.ntmps29
  go_wp2
  go_ret
  exact ⟨rfl, rfl⟩
theorem prt9_bd {v : Int} (v1 : -1200000000000000000 ≤ v) (v2 : v ≤ 1200000000000000000) : -1200000000000000 ≤ prt 1000000000 v ∧ prt 1000000000 v ≤ 1200000000000000 := by
  unfold prt
  split <;> omega
theorem c_ContainsUnit1 (lo hi v : Int) (w : World) (h : UnitOk lo hi v) (l1 : -1000000000000 ≤ lo) (l2 : lo ≤ 1000000000000) (l3 : -1000000000000 ≤ hi) (l4 : hi ≤ 1000000000000) (v1 : -1200000000000000000 ≤ v) (v2 : v ≤ 1200000000000000000) :
    Calls Tryz.prog 20 #[.agg #[.int .i64 lo, .int .i64 hi], .int .i64 v] w fun e w' => e = .returned (.bool true) ∧ Below w.heap.size w w' := by
  obtain ⟨p1, p2⟩ := prt9_bd v1 v2
  have HP := Lib.hid (fun w1 => c_Part 1000000000 v w1 (by omega) (by omega) v1 v2)
  obtain ⟨h1, h2⟩ := h
  generalize prt 1000000000 v = p at *
  have d1 : decide (lo * 1048576 ≤ p + 8192) = true := decide_eq_true h1
  have d2 : decide (p ≤ hi * 1048576 + 8192) = true := decide_eq_true h2
  have z1 : IntKind.i64.wrap (lo * 1048576) = lo * 1048576 := by rw [IntKind.wrap_i64]; omega
  have z2 : IntKind.i64.wrap (hi * 1048576) = hi * 1048576 := by rw [IntKind.wrap_i64]; omega
  have hgen := sgen; have hgen2 := sgen2; have hgen3 := sgen3; go_enter Tryz.func20, Tryz.ntmps20
  go_wp2_with (go_at_call 53; refine (HP.out _).mono ?_; rintro e w' ⟨rfl, rfl⟩)
  go_ret
  refine ⟨rfl, ?_⟩
  exact belz
theorem root_facts {lo hi p q : Int} (hr : RootOk lo hi p q) (hh : lo ≤ hi) (h1 : hi ≤ 1000000000000000000) : p ≤ q ∧ q ≤ 1000000000 ∧ 0 ≤ p * p ∧ p * p ≤ 1000000000000000000 ∧ 0 ≤ q * q ∧ q * q ≤ 1000000000000000000 ∧ 0 ≤ (p + 1) * (p + 1) ∧ (p + 1) * (p + 1) ≤ 1100000000000000000 ∧ (q ≠ 0 → 0 ≤ (q - 1) * (q - 1) ∧ (q - 1) * (q - 1) ≤ 1000000000000000000) := by
  obtain ⟨p0, p1, p2, q0, q1, q2⟩ := hr
  have hq : q ≤ 1000000000 := by
    by_cases k : q ≤ 1000000000
    · exact k
    · have := sq_mono (a := 1000000000) (b := q - 1) (by omega) (by omega); omega
  have hpq : p ≤ q := by
    by_cases k : p ≤ q
    · exact k
    · have := sq_mono (a := q + 1) (b := p) (by omega) (by omega)
      have e : (q + 1) * (q + 1) = q * q + 2 * q + 1 := by grind
      omega
  have a1 := sq_mono (a := p + 1) (b := 1000000001) (by omega) (by omega)
  have a2 := sq_mono (a := q) (b := 1000000000) (by omega) (by omega)
  have a3 := sq_mono (a := p) (b := 1000000000) (by omega) (by omega)
  refine ⟨hpq, hq, Int.mul_nonneg p0 p0, by omega, Int.mul_nonneg q0 q0, by omega, Int.mul_nonneg (by omega) (by omega), by omega, fun k => ⟨Int.mul_nonneg (by omega) (by omega), ?_⟩⟩
  have := sq_mono (a := q - 1) (b := 1000000000) (by omega) (by omega)
  omega
end
section
open Go.RowKit
theorem sc_rng {b : Int} (b0 : 0 ≤ b) (b1 : b < 1000000000) : -1160000000000000000 ≤ (sc (b * 1000000)).1 ∧ (sc (b * 1000000)).1 ≤ 1160000000000000000 ∧ -1160000000000000000 ≤ (sc (b * 1000000)).2 ∧ (sc (b * 1000000)).2 ≤ 1160000000000000000 := by
  obtain ⟨g1, g2⟩ := sc_ang b0 b1
  have hb := SC_bd (ang_range b0 b1).2.2
  have g1 := rabs_le.1 g1
  have g2 := rabs_le.1 g2
  have h1 := rabs_le.1 hb.1
  have h2 := rabs_le.1 hb.2
  have hu : uQ = 1152921504606846976 := rfl
  rw [hu] at g1 g2
  have c1 : ((1160000000000000000 : Int) : Rat) = 1160000000000000000 := rfl
  have c2 : ((-1160000000000000000 : Int) : Rat) = -1160000000000000000 := rfl
  refine ⟨Rat.intCast_le_intCast.1 (by rw [c2]; grind), Rat.intCast_le_intCast.1 (by rw [c1]; grind), Rat.intCast_le_intCast.1 (by rw [c2]; grind), Rat.intCast_le_intCast.1 (by rw [c1]; grind)⟩
end
section
open Go.RowKit
def twoE (yl yh xl xh : Int) : Int := if spanErr yl yh = 0 then spanErr xl xh else spanErr yl yh
theorem fm_rng {a b : Int} (a1 : -1160000000000000000 ≤ a) (a2 : a ≤ 1160000000000000000) (b1 : -1160000000000000000 ≤ b) (b2 : b ≤ 1160000000000000000) : -1168000000000000000 ≤ fm a b ∧ fm a b ≤ 1168000000000000000 :=
  fm_le a1 a2 b1 b2 1168000000000000000 (by decide +kernel)
set_option maxRecDepth 100000 in
set_option maxHeartbeats 4000000 in
theorem c_InArc1 (lo hi u v : Int) (w : World) (l0 : 0 ≤ lo) (l1 : lo < 1000000000) (hl : lo ≤ hi) (hw : hi - lo ≤ 400000000) (h : InArcOk lo (hi % 1000000000) u v) (u1 : -1160000000000000000 ≤ u) (u2 : u ≤ 1160000000000000000) (v1 : -1160000000000000000 ≤ v) (v2 : v ≤ 1160000000000000000) :
    Calls Tryz.prog 22 #[.agg #[.int .i64 lo, .int .i64 hi], .int .i64 u, .int .i64 v] w fun e w' => e = .returned (.bool true) ∧ Below w.heap.size w w' := by
  have m0 := Int.emod_nonneg hi (show (1000000000 : Int) ≠ 0 by omega)
  have m1 := Int.emod_lt_of_pos hi (show (0 : Int) < 1000000000 by omega)
  obtain ⟨p1, p2, p3, p4⟩ := sc_rng l0 l1
  obtain ⟨q1, q2, q3, q4⟩ := sc_rng m0 m1
  have t1 : lo.tmod 1000000000 = lo := by rw [Int.tmod_eq_emod_of_nonneg l0]; omega
  have t2 : hi.tmod 1000000000 = hi % 1000000000 := Int.tmod_eq_emod_of_nonneg (by omega)
  have HS1 := Lib.hid (fun w1 => c_SinCos (lo * 1000000) w1 (by omega) (by omega))
  have HS2 := Lib.hid (fun w1 => c_SinCos (hi % 1000000000 * 1000000) w1 (by omega) (by omega))
  rw [show lo * 1000000 % 1000000000000000 = lo * 1000000 by omega] at HS1
  rw [show hi % 1000000000 * 1000000 % 1000000000000000 = hi % 1000000000 * 1000000 by omega] at HS2
  obtain ⟨c1, c2, c3⟩ := h
  generalize (sc (lo * 1000000)).1 = sl at *
  generalize (sc (lo * 1000000)).2 = cl at *
  generalize (sc (hi % 1000000000 * 1000000)).1 = sh at *
  generalize (sc (hi % 1000000000 * 1000000)).2 = ch at *
  generalize hi % 1000000000 = r at *
  have f1 := fm_rng p3 p4 u1 u2
  have f2 := fm_rng p1 p2 v1 v2
  have f3 := fm_rng q1 q2 v1 v2
  have f4 := fm_rng q3 q4 u1 u2
  have f5 := fm_rng p3 p4 v1 v2
  have f6 := fm_rng p1 p2 u1 u2
  have f7 := fm_rng q3 q4 v1 v2
  have f8 := fm_rng q1 q2 u1 u2
  have M1 := Lib.hid (fun w1 => c_fMul cl u w1 (by omega) (by omega) (by omega) (by omega))
  have M2 := Lib.hid (fun w1 => c_fMul sl v w1 (by omega) (by omega) (by omega) (by omega))
  have M3 := Lib.hid (fun w1 => c_fMul sh v w1 (by omega) (by omega) (by omega) (by omega))
  have M4 := Lib.hid (fun w1 => c_fMul ch u w1 (by omega) (by omega) (by omega) (by omega))
  have M5 := Lib.hid (fun w1 => c_fMul cl v w1 (by omega) (by omega) (by omega) (by omega))
  have M6 := Lib.hid (fun w1 => c_fMul sl u w1 (by omega) (by omega) (by omega) (by omega))
  have M7 := Lib.hid (fun w1 => c_fMul ch v w1 (by omega) (by omega) (by omega) (by omega))
  have M8 := Lib.hid (fun w1 => c_fMul sh u w1 (by omega) (by omega) (by omega) (by omega))
  generalize fm cl u = g1 at *
  generalize fm sl v = g2 at *
  generalize fm sh v = g3 at *
  generalize fm ch u = g4 at *
  generalize fm cl v = g5 at *
  generalize fm sl u = g6 at *
  generalize fm ch v = g7 at *
  generalize fm sh u = g8 at *
  have d1 : decide (-2147483648 ≤ g1 - g2) = true := decide_eq_true c1
  have d2 : decide (-2147483648 ≤ g3 - g4) = true := decide_eq_true c2
  have d3 : decide (-2147483648 < g5 + g6 + g7 + g8) = true := decide_eq_true c3
  have e1 : decide (lo < 0) = false := decide_eq_false (by omega)
  have e2 : decide (1000000000 ≤ lo) = false := decide_eq_false (by omega)
  have e3 : decide (400000000 < hi - lo) = false := decide_eq_false (by omega)
  have z1 : IntKind.i64.wrap (g1 - g2) = g1 - g2 := by rw [IntKind.wrap_i64]; omega
  have z2 : IntKind.i64.wrap (g3 - g4) = g3 - g4 := by rw [IntKind.wrap_i64]; omega
  have z3 : IntKind.i64.wrap (g5 + g6) = g5 + g6 := by rw [IntKind.wrap_i64]; omega
  have z4 : IntKind.i64.wrap (g5 + g6 + g7) = g5 + g6 + g7 := by rw [IntKind.wrap_i64]; omega
  have z5 : IntKind.i64.wrap (g5 + g6 + g7 + g8) = g5 + g6 + g7 + g8 := by rw [IntKind.wrap_i64]; omega
  have hgen := sgen; have hgen2 := sgen2; have hgen3 := sgen3; go_enter Tryz.func22, Tryz.ntmps22
  go_wp2_with (first | (go_at_call 34; (first | (with_reducible refine (HS1.out _).mono ?_) | (with_reducible refine (HS2.out _).mono ?_)); rintro e w' ⟨rfl, rfl⟩) | (go_at_call 31; (first | (with_reducible refine (M1.out _).mono ?_) | (with_reducible refine (M2.out _).mono ?_) | (with_reducible refine (M3.out _).mono ?_) | (with_reducible refine (M4.out _).mono ?_) | (with_reducible refine (M5.out _).mono ?_) | (with_reducible refine (M6.out _).mono ?_) | (with_reducible refine (M7.out _).mono ?_) | (with_reducible refine (M8.out _).mono ?_)); rintro e w' ⟨rfl, rfl⟩))
  go_ret
  refine ⟨rfl, ?_⟩
  exact belz
end
end Go.Proofs.YtcgnhnmigmdalaaGreatDoor
