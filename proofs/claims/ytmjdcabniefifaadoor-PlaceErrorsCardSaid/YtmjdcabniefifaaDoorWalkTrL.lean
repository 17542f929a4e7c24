/- The walks through the laws TrigRoots and TrigSins. -/
import Derived.Test.YtmjdcabniefifaaDoorWalkTr
import Derived.Test.YtmjdcabniefifaaDoorWalkSva
import Derived.Test.YtmjdcabniefifaaDoorTrC
set_option linter.unusedVariables false
set_option linter.unusedSimpArgs false
namespace Go.Proofs.YtmjdcabniefifaaDoor
open Go.RowKit
theorem c_beyond1 (n m : Int) (w : World) (h : n < -m ∨ m < n) (m1 : 0 ≤ m) (m2 : m ≤ 9223372036854775807) : Calls Tryd.prog 16 #[.int .i64 n, .int .i64 m] w fun e w' => e = .returned (.bool true) ∧ w = w' := by
  rcases (show n < -m ∨ (-m ≤ n ∧ m < n) by omega) with h1 | ⟨h1, h2⟩
  · have d1 : decide (n < -m) = true := decide_eq_true h1
    have hgen := sgen; have hgen2 := sgen2; have hgen3 := sgen3; go_enter Tryd.func16, Tryd.ntmps16
    go_wp2
    go_ret
    exact ⟨rfl, rfl⟩
  · have d1 : decide (n < -m) = false := decide_eq_false (by omega)
    have d2 : decide (m < n) = true := decide_eq_true h2
    have hgen := sgen; have hgen2 := sgen2; have hgen3 := sgen3; go_enter Tryd.func16, Tryd.ntmps16
    go_wp2
    go_ret
    exact ⟨rfl, rfl⟩
theorem c_beyond0 (n m : Int) (w : World) (h1 : -m ≤ n) (h2 : n ≤ m) (m1 : 0 ≤ m) (m2 : m ≤ 9223372036854775807) : Calls Tryd.prog 16 #[.int .i64 n, .int .i64 m] w fun e w' => e = .returned (.bool false) ∧ w = w' := by
  have d1 : decide (n < -m) = false := decide_eq_false (by omega)
  have d2 : decide (m < n) = false := decide_eq_false (by omega)
  have hgen := sgen; have hgen2 := sgen2; have hgen3 := sgen3; go_enter Tryd.func16, Tryd.ntmps16
  go_wp2
  go_ret
  exact ⟨rfl, rfl⟩
theorem prt9_bd {v : Int} (v1 : -1200000000000000000 ≤ v) (v2 : v ≤ 1200000000000000000) : -1200000000000000 ≤ prt 1000000000 v ∧ prt 1000000000 v ≤ 1200000000000000 := by
  unfold prt
  split <;> omega
theorem root_facts {lo hi p q : Int} (hr : RootOk lo hi p q) (hh : lo ≤ hi) (h1 : hi ≤ 1000000000000000000) : p ≤ q ∧ q ≤ 1000000000 ∧ 0 ≤ p * p ∧ p * p ≤ 1000000000000000000 ∧ 0 ≤ q * q ∧ q * q ≤ 1000000000000000000 ∧ 0 ≤ (p + 1) * (p + 1) ∧ (p + 1) * (p + 1) ≤ 1100000000000000000 ∧ (q ≠ 0 → 0 ≤ (q - 1) * (q - 1) ∧ (q - 1) * (q - 1) ≤ 1000000000000000000) := by
  obtain ⟨p0, p1, p2, q0, q1, q2⟩ := hr
  have hq : q ≤ 1000000000 := by
    by_cases k : q ≤ 1000000000
    · exact k
    · have := sq_mono (a := 1000000000) (b := q - 1) (by omega) (by omega); omega
  have hpq : p ≤ q := by
    by_cases k : p ≤ q
    · exact k
    · have := sq_mono (a := q + 1) (b := p) (by omega) (by omega)
      have e : (q + 1) * (q + 1) = q * q + 2 * q + 1 := by grind
      omega
  have a1 := sq_mono (a := p + 1) (b := 1000000001) (by omega) (by omega)
  have a2 := sq_mono (a := q) (b := 1000000000) (by omega) (by omega)
  have a3 := sq_mono (a := p) (b := 1000000000) (by omega) (by omega)
  refine ⟨hpq, hq, Int.mul_nonneg p0 p0, by omega, Int.mul_nonneg q0 q0, by omega, Int.mul_nonneg (by omega) (by omega), by omega, fun k => ⟨Int.mul_nonneg (by omega) (by omega), ?_⟩⟩
  have := sq_mono (a := q - 1) (b := 1000000000) (by omega) (by omega)
  omega
end Go.Proofs.YtmjdcabniefifaaDoor
