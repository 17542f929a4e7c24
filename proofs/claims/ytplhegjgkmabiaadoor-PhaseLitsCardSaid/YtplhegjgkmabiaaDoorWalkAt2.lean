/- The contracts of math.atan2 and of trig.direction. -/
import Derived.Test.YtplhegjgkmabiaaDoorWalkAt
set_option linter.unusedVariables false
set_option linter.unusedSimpArgs false
namespace Go.Proofs.YtplhegjgkmabiaaDoor
open Go.RowKit
theorem copy_pos {c y : Nat} (hc : c < 9223372036854775808) (hy : y < 9223372036854775808) (ho : bits .or .u64 (c : Int) 0 = (c : Int)) (w : World) : Calls Tryd.prog 130 #[fl c, fl y] w fun e w' => e = .returned (fl c) ∧ w = w' :=
  c_copy c c y 0 hc (by omega) (by rw [u64A y (by omega), if_neg (by omega)]) ho w
end Go.Proofs.YtplhegjgkmabiaaDoor
