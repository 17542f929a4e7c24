/- The contract of the laws' beyond. -/
import Derived.Test.YtdpddidfdifbhaaWalk1
set_option linter.unusedVariables false
set_option linter.unusedSimpArgs false
namespace Go.Proofs.Ytdpddidfdifbhaa
open Go.RowKit
theorem c_bey1 (n m : Int) (w : World) (h : n < -m ∨ m < n) (m1 : 0 ≤ m) (m2 : m ≤ 9223372036854775807) : Calls Try.prog 27 #[.int .i64 n, .int .i64 m] w fun e w' => e = .returned (.bool true) ∧ w = w' := by
  rcases h with h | h
  all_goals
    have hgen := sgen; have hgen2 := sgen2; have hgen3 := sgen3; go_enter Try.func27, Try.ntmps27
    go_wp2
    all_goals go_ret
    all_goals exact ⟨by first | rfl | exact ret_bool (by simp; omega), rfl⟩
theorem c_bey0 (n m : Int) (w : World) (h1 : -m ≤ n) (h2 : n ≤ m) (m1 : 0 ≤ m) (m2 : m ≤ 9223372036854775807) : Calls Try.prog 27 #[.int .i64 n, .int .i64 m] w fun e w' => e = .returned (.bool false) ∧ w = w' := by
  have hgen := sgen; have hgen2 := sgen2; have hgen3 := sgen3; go_enter Try.func27, Try.ntmps27
  go_wp2
  all_goals go_ret
  all_goals exact ⟨by first | rfl | exact ret_bool (by simp; omega), rfl⟩
end Go.Proofs.Ytdpddidfdifbhaa
