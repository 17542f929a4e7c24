/- The walk through the law PlaceHeights, joined. -/
import Derived.Test.YtcgnhnmigmdalaaGreatDoorWalkHt3
import Derived.Test.YtcgnhnmigmdalaaGreatDoorWalkHt4
import Derived.Test.YtcgnhnmigmdalaaGreatDoorWalkHt5
import Derived.Test.YtcgnhnmigmdalaaGreatDoorWalkHt6
set_option linter.unusedVariables false
set_option linter.unusedSimpArgs false
namespace Go.Proofs.YtcgnhnmigmdalaaGreatDoor
open Go.RowKit
theorem walk_PlaceHeights (lon lat t b k l : Int) (w : World) (hT : Tab w) (ht : -9223372036854775808 ≤ t ∧ t ≤ 9223372036854775807) (hb : -9223372036854775808 ≤ b ∧ b ≤ 9223372036854775807) (hk : -9223372036854775808 ≤ k ∧ k ≤ 9223372036854775807) (hl : -9223372036854775808 ≤ l ∧ l ≤ 9223372036854775807) :
    Calls Tryz.prog 3 #[.agg #[.int .i64 lon, .int .i64 lat], .int .i64 t, .int .i64 b, .int .i64 k, .int .i64 l] w fun e w' => e = .returned (.bool true) ∧ Below w.heap.size w w' := by
  cases hp : plB lon lat with
  | false => exact walk_Ht_site lon lat t b k l w hT hp ht.1 ht.2 hb.1 hb.2
  | true =>
    cases hi : instB t with
    | false => exact walk_Ht_time lon lat t b k l w hT hp hi ht.1 ht.2 hb.1 hb.2
    | true =>
      rcases (show b % 2 = 0 ∨ b % 2 = 1 by omega) with h | h
      · obtain ⟨u0, u1, s0, s1, x0, x1, y0, y1, p, q, er, n⟩ := ht_sunN (lon := lon) (lat := lat) (t := t) hp hi
        exact walk_Ht_sun n b k l w hT hp hi h hb.1 hb.2 hk.1 hk.2 hl.1 hl.2 (fun w h => c_sunAt t w h hi)
      · obtain ⟨u0, u1, s0, s1, x0, x1, y0, y1, p, q, er, n⟩ := ht_moonN (lon := lon) (lat := lat) (t := t) hp hi
        exact walk_Ht_moon n b k l w hT hp hi h hb.1 hb.2 hk.1 hk.2 hl.1 hl.2 (fun w h => c_sunAt t w h hi) (fun w h => c_moonAt t w h hi)
end Go.Proofs.YtcgnhnmigmdalaaGreatDoor
