/- Contracts of whole.Div, Down and Up at a positive divisor. -/
import Derived.Test.YtapmdkinneehjaaDoorWalkBase
import Derived.Test.YtapmdkinneehjaaDoorPlainInt
import Derived.RegionTactic
import Derived.Deep.QuietTactic
import Derived.BigQuiet
set_option linter.unusedVariables false
set_option linter.unusedSimpArgs false
namespace Go.Proofs.YtapmdkinneehjaaDoor
open Go.RowKit
theorem ret_int3 {a b c a' b' c' : Int} (h1 : a = a') (h2 : b = b') (h3 : c = c') : Ending.returned (.tuple #[.int .i64 a, .int .i64 b, .int .i64 c]) = .returned (.tuple #[.int .i64 a', .int .i64 b', .int .i64 c']) := by rw [h1, h2, h3]
theorem ediv_bd (a b : Int) (hb : 0 < b) (ha1 : -9223372036854775808 ≤ a) (ha2 : a ≤ 9223372036854775807) : -9223372036854775808 ≤ a / b ∧ a / b ≤ 9223372036854775807 ∧ 0 ≤ a % b ∧ a % b < b := by
  have h1 := Int.emod_add_mul_ediv a b
  have h3 := Int.emod_nonneg a (show b ≠ 0 by omega)
  have h4 := Int.emod_lt_of_pos a hb
  refine ⟨?_, ?_, h3, h4⟩
  · rw [Int.le_ediv_iff_mul_le hb]
    have : -9223372036854775808 * b ≤ -9223372036854775808 * 1 := by omega
    omega
  · have : a / b ≤ if 0 ≤ a then a else 0 := by
      split
      · exact Int.ediv_le_self b (by assumption)
      · have := Int.ediv_neg_of_neg_of_pos (show a < 0 by omega) hb; omega
    split at this <;> omega
theorem w64 {x : Int} (h1 : -9223372036854775808 ≤ x) (h2 : x ≤ 9223372036854775807) : wrap64 x = x := IntWalk.wrap64_in x ⟨h1, h2⟩
theorem c_div (a b : Int) (w : World) (hb : 0 < b) (ha1 : -9223372036854775808 ≤ a) (ha2 : a ≤ 9223372036854775807) (hb2 : b ≤ 9223372036854775807) :
    Calls Tryd.prog 13 #[.int .i64 a, .int .i64 b] w fun e w' => e = .returned (.tuple #[.int .i64 (a / b), .int .i64 (a % b), .int .i64 0]) ∧ ∃ n, w' = w.drewN n := by
  have b0 : (b == 0) = false := by simp; omega
  have b1 : (b == -1) = false := by simp; omega
  obtain ⟨d1, d2, d3, d4⟩ := ediv_bd a b hb ha1 ha2
  have u1 := w64 d1 d2
  have u2 : wrap64 (a % b) = a % b := w64 (by omega) (by omega)
  by_cases h : 0 ≤ a
  · obtain ⟨t1, t2⟩ := tdiv_pos a b hb h
    have a0 : (a == -9223372036854775808) = false := by simp; omega
    have b4 : decide (b < 0) = false := by simp; omega
    have b5 : decide (a % b < 0) = false := by simp; omega
    have hgen := sgen; have hgen2 := sgen2; have hgen3 := sgen3; go_enter Tryd.func13, Tryd.ntmps13
    go_wp2
    go_quiet (fail)
    go_wp2
    all_goals go_ret3
    all_goals exact ⟨ret_int3 (by first | rfl | exact u1) (by first | rfl | exact u2 | omega) rfl, _, rfl⟩
  · have h := Int.not_le.1 h
    obtain ⟨t1, t2⟩ := tdiv_neg a b hb h
    have b4 : decide (b < 0) = false := by simp; omega
    by_cases ha : (a == -9223372036854775808) = true
    all_goals
      have hgen := sgen; have hgen2 := sgen2; have hgen3 := sgen3; go_enter Tryd.func13, Tryd.ntmps13
      go_wp2
      go_quiet (fail)
      go_wp2
      all_goals go_ret3
      all_goals exact ⟨ret_int3 (by first | rfl | exact u1 | omega) (by first | rfl | exact u2 | omega) rfl, _, rfl⟩
theorem c_down (a b : Int) (w : World) (hb : 0 < b) (ha1 : -9223372036854775808 ≤ a) (ha2 : a ≤ 9223372036854775807) (hb2 : b ≤ 9223372036854775807) :
    Calls Tryd.prog 34 #[.int .i64 a, .int .i64 b] w fun e w' => e = .returned (.int .i64 (a / b)) ∧ ∃ n, w' = w.drewN n := by
  have hgen := sgen; have hgen2 := sgen2; have hgen3 := sgen3; go_enter Tryd.func34, Tryd.ntmps34
  go_wp2_with (go_at_call 13; refine (c_div a b _ hb ha1 ha2 hb2).mono ?_; rintro e w' ⟨rfl, n, rfl⟩)
  go_ret
  exact ⟨rfl, _, rfl⟩
end Go.Proofs.YtapmdkinneehjaaDoor
