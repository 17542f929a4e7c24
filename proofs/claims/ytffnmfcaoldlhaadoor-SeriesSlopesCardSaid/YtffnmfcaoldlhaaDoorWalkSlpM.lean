/- The walk through the law SeriesSlopes, whole. -/
import Derived.Test.YtffnmfcaoldlhaaDoorWalkSlpL
set_option linter.unusedVariables false
set_option linter.unusedSimpArgs false
namespace Go.Proofs.YtffnmfcaoldlhaaDoor
open Go.RowKit
theorem walk_SeriesSlopes (m r s : Int) (a : Option Addr) (len cap : Nat) (l : List Tm) (inst : Int) (w : World) (hT : Tab w) (hl : l.length = len) (hc : len ≤ cap) (hs : TmSlice w a l) (_hi : -9223372036854775808 ≤ inst ∧ inst ≤ 9223372036854775807) :
    Calls Tryd.prog 11 #[sumV m r a len cap s, .int .i64 inst] w fun e w' => e = .returned (.bool true) ∧ Below w.heap.size w w' := by
  subst hl
  by_cases he : sumE m r l s = 0
  · exact walk_slopes_ok m r s inst a cap l w hT hc hs he
  · exact walk_slopes_bad m r s inst a cap l w hT hc hs he
end Go.Proofs.YtffnmfcaoldlhaaDoor
