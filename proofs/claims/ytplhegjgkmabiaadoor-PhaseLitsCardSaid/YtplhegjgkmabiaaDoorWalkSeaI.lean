/- Contracts of the reference's InstantErr, by cases. -/
import Derived.Test.YtplhegjgkmabiaaDoorWalkSva
set_option linter.unusedVariables false
set_option linter.unusedSimpArgs false
namespace Go.Proofs.YtplhegjgkmabiaaDoor
open Go.RowKit
theorem c_instErrT (t : Int) (w : World) (h : instB t = true) : Calls Tryd.prog 19 #[.int .i64 t] w fun e w' => e = .returned (.int .i64 0) ∧ w = w' := by
  have := c_instErr t w
  rwa [instE_of.1 h] at this
theorem c_instErrF (t : Int) (w : World) (h : instB t = false) : Calls Tryd.prog 19 #[.int .i64 t] w fun e w' => e = .returned (.int .i64 3) ∧ w = w' := by
  have := c_instErr t w
  rwa [instE_of.2 h] at this
end Go.Proofs.YtplhegjgkmabiaaDoor
