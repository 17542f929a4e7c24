/- Contracts of limit and high; the walk through the law RisesetAboves. -/
import Derived.Test.YtcgnhnmigmdalaaGreatDoorRsA
import Derived.Deep.RegionHeld3
set_option linter.unusedVariables false
set_option linter.unusedSimpArgs false
namespace Go.Proofs.YtcgnhnmigmdalaaGreatDoor
open Go.RowKit
end Go.Proofs.YtcgnhnmigmdalaaGreatDoor
