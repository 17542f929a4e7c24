/- The contract of sAt of the top laws. -/
import Derived.Test.YtdpddidfdifbhaaWalk1
import Derived.Test.YtdpddidfdifbhaaPlainTop

import Derived.Lib.Hide
set_option linter.unusedVariables false
set_option linter.unusedSimpArgs false
namespace Go.Proofs.Ytdpddidfdifbhaa
open Go.RowKit
theorem c_sAt (k n : Int) (w : World) (h1 : 1 ≤ n) (h2 : n ≤ 1000) : Calls Try.prog 47 #[.int .i64 k, .int .i64 n] w fun e w' => e = .returned (.int .i64 (sat k n)) ∧ w = w' := by
  have t1 := Int.tmod_lt_of_pos k (show 0 < n by omega)
  have t2 := Int.lt_tmod_of_pos k (show 0 < n by omega)
  have hn : ¬ n = 0 := by omega
  have hn1 : ¬ n = -1 := by omega
  have hs : sat k n = (k.tmod n + n) % n := rfl
  have HS := Lib.hid hs
  clear hs
  have hgen := sgen; have hgen2 := sgen2; have hgen3 := sgen3; go_enter Try.func47, Try.ntmps47
  go_wp2_with fail
  go_ret
  exact ⟨ret_int HS.out.symm, rfl⟩
end Go.Proofs.Ytdpddidfdifbhaa
