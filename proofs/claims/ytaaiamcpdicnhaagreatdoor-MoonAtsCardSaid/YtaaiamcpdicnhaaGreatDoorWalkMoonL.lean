/- The walk through the law MoonLongitudes. -/
import Derived.Test.YtaaiamcpdicnhaaGreatDoorWalkMoon
set_option linter.unusedVariables false
set_option linter.unusedSimpArgs false
namespace Go.Proofs.YtaaiamcpdicnhaaGreatDoor
open Go.RowKit
end Go.Proofs.YtaaiamcpdicnhaaGreatDoor
