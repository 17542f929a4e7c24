/- The walk through the law SourceMoves, whatever the readings. -/
import Derived.Test.YtpjgoojaahbglaaWalkMoves
set_option linter.unusedVariables false
set_option linter.unusedSimpArgs false
namespace Go.Proofs.Ytpjgoojaahbglaa
open Go.RowKit
theorem walk_moves_any (d q : Int) (a : Option Addr) (len cap : Nat) (l : List Rd) (w : World) (h1 : l.length = len) (hc : len ≤ cap) (hm : cap ≤ maxLen) (hs : RdSlice w a l) :
    Calls Try.prog 6 #[.int .i64 d, .slice a len cap, .int .i64 q] w fun e w' => e = .returned (.bool true) ∧ Below w.heap.size w w' := by
  subst h1
  unfold maxLen at hm
  by_cases h40 : 40 < l.length
  · exact walk_moves_bad d q a cap l w hc hm hs 2 (by omega) (by unfold lawE; rw [if_pos h40]) (fun w1 _ => c_all_large d q a l.length cap w1 h40)
  · by_cases hz : fe (rdErr d q) l = 0
    · exact walk_moves_ok d q a cap l w hc hm hs (lawZ hz (by omega) _) (by omega)
    · refine walk_moves_bad d q a cap l w hc hm hs (fe (rdErr d q) l) hz (by unfold lawE; rw [if_neg h40, List.take_of_length_le (Nat.le_refl _)]) (fun w1 hb => ?_)
      refine (c_all_some d q a cap l w1 hc (by omega) (hs.below (Nat.le_refl _) hb)).mono ?_
      rintro e w2 ⟨hb2, hcase⟩
      rcases hcase with ⟨_, he⟩ | ⟨h0, _⟩
      · exact ⟨he, hb2⟩
      · exact absurd h0 hz
end Go.Proofs.Ytpjgoojaahbglaa
