/- The walk through the law LeapInstants. -/
import Derived.Test.YtenmiilndiaopaaWalkLw
import Derived.Test.YtenmiilndiaopaaPlainInst2
set_option linter.unusedVariables false
set_option linter.unusedSimpArgs false
namespace Go.Proofs.Ytenmiilndiaopaa
open Go.RowKit
theorem c_beyond (n m : Int) (w : World) (h : n < -m ∨ m < n) (m1 : 0 ≤ m) (m2 : m ≤ 9223372036854775807) : Calls Try.prog 29 #[.int .i64 n, .int .i64 m] w fun e w' => e = .returned (.bool true) ∧ w = w' := by
  rcases h with h | h
  all_goals
    have hgen := sgen; have hgen2 := sgen2; have hgen3 := sgen3; go_enter Try.func29, Try.ntmps29
    go_wp2
    all_goals go_ret
    all_goals exact ⟨by first | rfl | exact ret_bool (by simp; omega), rfl⟩
end Go.Proofs.Ytenmiilndiaopaa
