/- Contracts of dial.Line told by the angles it computes, and of dialWorks. -/
import Derived.Test.YtcgnhnmigmdalaaGreatDoorAsA
import Derived.Test.YtcgnhnmigmdalaaGreatDoorWkD
import Derived.Test.YtcgnhnmigmdalaaGreatDoorLkA
import Derived.Deep.RegionHeld3
set_option linter.unusedVariables false
set_option linter.unusedSimpArgs false
namespace Go.Proofs.YtcgnhnmigmdalaaGreatDoor
open Go.RowKit
end Go.Proofs.YtcgnhnmigmdalaaGreatDoor
