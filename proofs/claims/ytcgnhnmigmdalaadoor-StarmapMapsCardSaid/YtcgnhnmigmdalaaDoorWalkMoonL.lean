/- The walk through the law MoonLongitudes. -/
import Derived.Test.YtcgnhnmigmdalaaDoorSmA
set_option linter.unusedVariables false
set_option linter.unusedSimpArgs false
namespace Go.Proofs.YtcgnhnmigmdalaaDoor
open Go.RowKit
end Go.Proofs.YtcgnhnmigmdalaaDoor
