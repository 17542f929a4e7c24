/- The walks through the laws TrigRoots and TrigSins. The walk through the law TrigSins; both laws as a whole. The contracts of the reference's TwoErr and InArc. -/
import Derived.Test.YtcgnhnmigmdalaaDoorArA
import Derived.Test.YtcgnhnmigmdalaaDoorWalkSva
import Derived.Test.YtcgnhnmigmdalaaDoorTrC
set_option linter.unusedVariables false
set_option linter.unusedSimpArgs false
namespace Go.Proofs.YtcgnhnmigmdalaaDoor
section
open Go.RowKit
theorem c_beyond1 (n m : Int) (w : World) (h : n < -m ∨ m < n) (m1 : 0 ≤ m) (m2 : m ≤ 9223372036854775807) : Calls Tryd.prog 25 #[.int .i64 n, .int .i64 m] w fun e w' => e = .returned (.bool true) ∧ w = w' := by
  rcases (show n < -m ∨ (-m ≤ n ∧ m < n) by omega) with h1 | ⟨h1, h2⟩
  · have d1 : decide (n < -m) = true := decide_eq_true h1
    have hgen := sgen; have hgen2 := sgen2; have hgen3 := sgen3; go_enter Tryd.func25, Tryd.ntmps25
    go_wp2
    go_ret
    exact ⟨rfl, rfl⟩
  · have d1 : decide (n < -m) = false := decide_eq_false (by omega)
    have d2 : decide (m < n) = true := decide_eq_true h2
    have hgen := sgen; have hgen2 := sgen2; have hgen3 := sgen3; go_enter Tryd.func25, Tryd.ntmps25
    go_wp2
    go_ret
    exact ⟨rfl, rfl⟩
theorem c_beyond0 (n m : Int) (w : World) (h1 : -m ≤ n) (h2 : n ≤ m) (m1 : 0 ≤ m) (m2 : m ≤ 9223372036854775807) : Calls Tryd.prog 25 #[.int .i64 n, .int .i64 m] w fun e w' => e = .returned (.bool false) ∧ w = w' := by
  have d1 : decide (n < -m) = false := decide_eq_false (by omega)
  have d2 : decide (m < n) = false := decide_eq_false (by omega)
  have hgen := sgen; have hgen2 := sgen2; have hgen3 := sgen3; go_enter Tryd.func25, Tryd.ntmps25
  go_wp2
  go_ret
  exact ⟨rfl, rfl⟩
theorem prt9_bd {v : Int} (v1 : -1200000000000000000 ≤ v) (v2 : v ≤ 1200000000000000000) : -1200000000000000 ≤ prt 1000000000 v ∧ prt 1000000000 v ≤ 1200000000000000 := by
  unfold prt
  split <;> omega
theorem c_ContainsUnit1 (lo hi v : Int) (w : World) (h : UnitOk lo hi v) (l1 : -1000000000000 ≤ lo) (l2 : lo ≤ 1000000000000) (l3 : -1000000000000 ≤ hi) (l4 : hi ≤ 1000000000000) (v1 : -1200000000000000000 ≤ v) (v2 : v ≤ 1200000000000000000) :
    Calls Tryd.prog 22 #[.agg #[.int .i64 lo, .int .i64 hi], .int .i64 v] w fun e w' => e = .returned (.bool true) ∧ Below w.heap.size w w' := by
  obtain ⟨p1, p2⟩ := prt9_bd v1 v2
  have HP := Lib.hid (fun w1 => c_Part 1000000000 v w1 (by omega) (by omega) v1 v2)
  obtain ⟨h1, h2⟩ := h
  generalize prt 1000000000 v = p at *
  have d1 : decide (lo * 1048576 ≤ p + 8192) = true := decide_eq_true h1
  have d2 : decide (p ≤ hi * 1048576 + 8192) = true := decide_eq_true h2
  have z1 : IntKind.i64.wrap (lo * 1048576) = lo * 1048576 := by rw [IntKind.wrap_i64]; omega
  have z2 : IntKind.i64.wrap (hi * 1048576) = hi * 1048576 := by rw [IntKind.wrap_i64]; omega
  have hgen := sgen; have hgen2 := sgen2; have hgen3 := sgen3; go_enter Tryd.func22, Tryd.ntmps22
  go_wp2_with (go_at_call 50; refine (HP.out _).mono ?_; rintro e w' ⟨rfl, rfl⟩)
  go_ret
  refine ⟨rfl, ?_⟩
  exact belz
theorem root_facts {lo hi p q : Int} (hr : RootOk lo hi p q) (hh : lo ≤ hi) (h1 : hi ≤ 1000000000000000000) : p ≤ q ∧ q ≤ 1000000000 ∧ 0 ≤ p * p ∧ p * p ≤ 1000000000000000000 ∧ 0 ≤ q * q ∧ q * q ≤ 1000000000000000000 ∧ 0 ≤ (p + 1) * (p + 1) ∧ (p + 1) * (p + 1) ≤ 1100000000000000000 ∧ (q ≠ 0 → 0 ≤ (q - 1) * (q - 1) ∧ (q - 1) * (q - 1) ≤ 1000000000000000000) := by
  obtain ⟨p0, p1, p2, q0, q1, q2⟩ := hr
  have hq : q ≤ 1000000000 := by
    by_cases k : q ≤ 1000000000
    · exact k
    · have := sq_mono (a := 1000000000) (b := q - 1) (by omega) (by omega); omega
  have hpq : p ≤ q := by
    by_cases k : p ≤ q
    · exact k
    · have := sq_mono (a := q + 1) (b := p) (by omega) (by omega)
      have e : (q + 1) * (q + 1) = q * q + 2 * q + 1 := by grind
      omega
  have a1 := sq_mono (a := p + 1) (b := 1000000001) (by omega) (by omega)
  have a2 := sq_mono (a := q) (b := 1000000000) (by omega) (by omega)
  have a3 := sq_mono (a := p) (b := 1000000000) (by omega) (by omega)
  refine ⟨hpq, hq, Int.mul_nonneg p0 p0, by omega, Int.mul_nonneg q0 q0, by omega, Int.mul_nonneg (by omega) (by omega), by omega, fun k => ⟨Int.mul_nonneg (by omega) (by omega), ?_⟩⟩
  have := sq_mono (a := q - 1) (b := 1000000000) (by omega) (by omega)
  omega
end
section
open Go.RowKit
theorem sc_rng {b : Int} (b0 : 0 ≤ b) (b1 : b < 1000000000) : -1160000000000000000 ≤ (sc (b * 1000000)).1 ∧ (sc (b * 1000000)).1 ≤ 1160000000000000000 ∧ -1160000000000000000 ≤ (sc (b * 1000000)).2 ∧ (sc (b * 1000000)).2 ≤ 1160000000000000000 := by
  obtain ⟨g1, g2⟩ := sc_ang b0 b1
  have hb := SC_bd (ang_range b0 b1).2.2
  have g1 := rabs_le.1 g1
  have g2 := rabs_le.1 g2
  have h1 := rabs_le.1 hb.1
  have h2 := rabs_le.1 hb.2
  have hu : uQ = 1152921504606846976 := rfl
  rw [hu] at g1 g2
  have c1 : ((1160000000000000000 : Int) : Rat) = 1160000000000000000 := rfl
  have c2 : ((-1160000000000000000 : Int) : Rat) = -1160000000000000000 := rfl
  refine ⟨Rat.intCast_le_intCast.1 (by rw [c2]; grind), Rat.intCast_le_intCast.1 (by rw [c1]; grind), Rat.intCast_le_intCast.1 (by rw [c2]; grind), Rat.intCast_le_intCast.1 (by rw [c1]; grind)⟩
end
section
open Go.RowKit
def twoE (yl yh xl xh : Int) : Int := if spanErr yl yh = 0 then spanErr xl xh else spanErr yl yh
theorem fm_rng {a b : Int} (a1 : -1160000000000000000 ≤ a) (a2 : a ≤ 1160000000000000000) (b1 : -1160000000000000000 ≤ b) (b2 : b ≤ 1160000000000000000) : -1168000000000000000 ≤ fm a b ∧ fm a b ≤ 1168000000000000000 :=
  fm_le a1 a2 b1 b2 1168000000000000000 (by decide +kernel)
end
end Go.Proofs.YtcgnhnmigmdalaaDoor
