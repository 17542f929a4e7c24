/- How wide place.look's intervals are (for seats without riseset). No program in sight. -/
import Derived.Test.YtcgnhnmigmdalaaGreatDoorLkD
set_option linter.unusedVariables false
set_option linter.unusedSimpArgs false
namespace Go.Proofs.YtcgnhnmigmdalaaGreatDoor
open Ieee
theorem clip_wide {a b : Int} (h : a ≤ b) : clipH b - clipL a ≤ b - a := by unfold clipH clipL; omega
theorem sine_wide (a : Int) : ((sineHi a : Int) : Rat) - sineLo a ≤ 2 := by
  have h := icast (sine_bd a).w
  push_cast at h
  exact h
theorem look_wide (lat : Int) {h0 h1 d0 d1 : Int} (hh : h0 ≤ h1) (hd : d0 ≤ d1) :
    ((up1 lat h0 h1 d0 d1 - up0 lat h0 h1 d0 d1 : Int) : Rat) ≤ 62832 / 10000 * ((h1 - h0 : Int) : Rat) + 125664 / 10000 * ((d1 - d0 : Int) : Rat) + 18 ∧
    ((ea1 h0 h1 d0 d1 - ea0 h0 h1 d0 d1 : Int) : Rat) ≤ 62832 / 10000 * ((h1 - h0 : Int) : Rat) + 62832 / 10000 * ((d1 - d0 : Int) : Rat) + 7 ∧
    ((no1 lat h0 h1 d0 d1 - no0 lat h0 h1 d0 d1 : Int) : Rat) ≤ 62832 / 10000 * ((h1 - h0 : Int) : Rat) + 125664 / 10000 * ((d1 - d0 : Int) : Rat) + 18 := by
  have sp := lk_sp lat hh hd
  have one : ∀ {l h : Int}, Sp1 l h → rabs (l : Rat) ≤ 1000000000 ∧ rabs (h : Rat) ≤ 1000000000 := by
    intro l h s
    obtain ⟨o, a, b⟩ := s
    exact ⟨rabs_int (B := 1000000000) (by omega) (by omega), rabs_int (B := 1000000000) (by omega) (by omega)⟩
  have v1 : ((sovHi h0 h1 - sovLo h0 h1 : Int) : Rat) ≤ 62832 / 10000 * ((h1 - h0 : Int) : Rat) + 225 / 100 := (over_ok h0 h1 hh).w
  have v2 : ((sovHi d0 d1 - sovLo d0 d1 : Int) : Rat) ≤ 62832 / 10000 * ((d1 - d0 : Int) : Rat) + 225 / 100 := (over_ok d0 d1 hd).w
  have v3 : ((cvH h0 h1 - cvL h0 h1 : Int) : Rat) ≤ 62832 / 10000 * ((covE h0 h1 - covB h0 : Int) : Rat) + 225 / 100 := (over_ok (covB h0) (covE h0 h1) (by unfold covB covE; omega)).w
  have v4 : ((cvH d0 d1 - cvL d0 d1 : Int) : Rat) ≤ 62832 / 10000 * ((covE d0 d1 - covB d0 : Int) : Rat) + 225 / 100 := (over_ok (covB d0) (covE d0 d1) (by unfold covB covE; omega)).w
  have w3 := icast (show covE h0 h1 - covB h0 ≤ h1 - h0 by unfold covB covE; omega)
  have w4 := icast (show covE d0 d1 - covB d0 ≤ d1 - d0 by unfold covB covE; omega)
  have f1 := sine_wide lat
  have f2 : ((cfH lat : Int) : Rat) - cfL lat ≤ 2 := sine_wide _
  have pN : ((lkN1 h0 h1 d0 d1 - lkN0 h0 h1 d0 d1 : Int) : Rat) * 1000000000 ≤ _ := prod_wide sp.cD sp.cH (one sp.cD).1 (one sp.cD).2 (one sp.cH).1 (one sp.cH).2
  have pE : ((lkE1 h0 h1 d0 d1 - lkE0 h0 h1 d0 d1 : Int) : Rat) * 1000000000 ≤ _ := prod_wide sp.cD sp.sH (one sp.cD).1 (one sp.cD).2 (one sp.sH).1 (one sp.sH).2
  have pA : ((lkA1 lat d0 d1 - lkA0 lat d0 d1 : Int) : Rat) * 1000000000 ≤ _ := prod_wide sp.sF sp.sD (one sp.sF).1 (one sp.sF).2 (one sp.sD).1 (one sp.sD).2
  have pB : ((lkB1 lat h0 h1 d0 d1 - lkB0 lat h0 h1 d0 d1 : Int) : Rat) * 1000000000 ≤ _ := prod_wide sp.cF sp.N (one sp.cF).1 (one sp.cF).2 (one sp.N).1 (one sp.N).2
  have pC : ((lkC1 lat d0 d1 - lkC0 lat d0 d1 : Int) : Rat) * 1000000000 ≤ _ := prod_wide sp.cF sp.sD (one sp.cF).1 (one sp.cF).2 (one sp.sD).1 (one sp.sD).2
  have pD : ((lkD1 lat h0 h1 d0 d1 - lkD0 lat h0 h1 d0 d1 : Int) : Rat) * 1000000000 ≤ _ := prod_wide sp.sF sp.N (one sp.sF).1 (one sp.sF).2 (one sp.N).1 (one sp.N).2
  have u := icast (show up1 lat h0 h1 d0 d1 - up0 lat h0 h1 d0 d1 ≤ (lkA1 lat d0 d1 + lkB1 lat h0 h1 d0 d1) - (lkA0 lat d0 d1 + lkB0 lat h0 h1 d0 d1) from clip_wide (by have := sp.A.o; have := sp.B.o; omega))
  have e := icast (show ea1 h0 h1 d0 d1 - ea0 h0 h1 d0 d1 ≤ -lkE0 h0 h1 d0 d1 - -lkE1 h0 h1 d0 d1 from clip_wide (by have := sp.E.o; omega))
  have n := icast (show no1 lat h0 h1 d0 d1 - no0 lat h0 h1 d0 d1 ≤ (lkC1 lat d0 d1 - lkD0 lat h0 h1 d0 d1) - (lkC0 lat d0 d1 - lkD1 lat h0 h1 d0 d1) from clip_wide (by have := sp.Cc.o; have := sp.D.o; omega))
  push_cast at u e n v1 v2 v3 v4 w3 w4 pN pE pA pB pC pD
  push_cast
  clear sp one
  refine ⟨?_, ?_, ?_⟩
  · clear pC pD pE e n; grind
  · clear pA pB pC pD pN u n; grind
  · clear pA pB pE u e; grind
end Go.Proofs.YtcgnhnmigmdalaaGreatDoor
