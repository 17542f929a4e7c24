/- The contract of trig.Arc where its intervals are right. -/
import Derived.Test.YtplhegjgkmabiaaDoorWalkArc
set_option linter.unusedVariables false
set_option linter.unusedSimpArgs false
namespace Go.Proofs.YtplhegjgkmabiaaDoor
open Go.RowKit
end Go.Proofs.YtplhegjgkmabiaaDoor
