/- What place.look computes. No program in sight. -/
import Derived.Test.YtcgnhnmigmdalaaDoorPlainSid
import Derived.Test.YtcgnhnmigmdalaaDoorEqB
set_option linter.unusedVariables false
set_option linter.unusedSimpArgs false
namespace Go.Proofs.YtcgnhnmigmdalaaDoor
open Ieee
def cvL (a b : Int) : Int := sovLo (covB a) (covE a b)
def cvH (a b : Int) : Int := sovHi (covB a) (covE a b)
def cfL (lat : Int) : Int := sineLo (lat % 1000000000 + 250000000)
def cfH (lat : Int) : Int := sineHi (lat % 1000000000 + 250000000)
/-- The part towards the meridian, and that to the west. -/
def lkN0 (h0 h1 d0 d1 : Int) : Int := pLo (cvL d0 d1) (cvH d0 d1) (cvL h0 h1) (cvH h0 h1) 1000000000
def lkN1 (h0 h1 d0 d1 : Int) : Int := pHi (cvL d0 d1) (cvH d0 d1) (cvL h0 h1) (cvH h0 h1) 1000000000
def lkE0 (h0 h1 d0 d1 : Int) : Int := pLo (cvL d0 d1) (cvH d0 d1) (sovLo h0 h1) (sovHi h0 h1) 1000000000
def lkE1 (h0 h1 d0 d1 : Int) : Int := pHi (cvL d0 d1) (cvH d0 d1) (sovLo h0 h1) (sovHi h0 h1) 1000000000
def lkA0 (lat d0 d1 : Int) : Int := pLo (sineLo lat) (sineHi lat) (sovLo d0 d1) (sovHi d0 d1) 1000000000
def lkA1 (lat d0 d1 : Int) : Int := pHi (sineLo lat) (sineHi lat) (sovLo d0 d1) (sovHi d0 d1) 1000000000
def lkB0 (lat h0 h1 d0 d1 : Int) : Int := pLo (cfL lat) (cfH lat) (lkN0 h0 h1 d0 d1) (lkN1 h0 h1 d0 d1) 1000000000
def lkB1 (lat h0 h1 d0 d1 : Int) : Int := pHi (cfL lat) (cfH lat) (lkN0 h0 h1 d0 d1) (lkN1 h0 h1 d0 d1) 1000000000
def lkC0 (lat d0 d1 : Int) : Int := pLo (cfL lat) (cfH lat) (sovLo d0 d1) (sovHi d0 d1) 1000000000
def lkC1 (lat d0 d1 : Int) : Int := pHi (cfL lat) (cfH lat) (sovLo d0 d1) (sovHi d0 d1) 1000000000
def lkD0 (lat h0 h1 d0 d1 : Int) : Int := pLo (sineLo lat) (sineHi lat) (lkN0 h0 h1 d0 d1) (lkN1 h0 h1 d0 d1) 1000000000
def lkD1 (lat h0 h1 d0 d1 : Int) : Int := pHi (sineLo lat) (sineHi lat) (lkN0 h0 h1 d0 d1) (lkN1 h0 h1 d0 d1) 1000000000
def up0 (lat h0 h1 d0 d1 : Int) : Int := clipL (lkA0 lat d0 d1 + lkB0 lat h0 h1 d0 d1)
def up1 (lat h0 h1 d0 d1 : Int) : Int := clipH (lkA1 lat d0 d1 + lkB1 lat h0 h1 d0 d1)
def ea0 (h0 h1 d0 d1 : Int) : Int := clipL (-lkE1 h0 h1 d0 d1)
def ea1 (h0 h1 d0 d1 : Int) : Int := clipH (-lkE0 h0 h1 d0 d1)
def no0 (lat h0 h1 d0 d1 : Int) : Int := clipL (lkC0 lat d0 d1 - lkD1 lat h0 h1 d0 d1)
def no1 (lat h0 h1 d0 d1 : Int) : Int := clipH (lkC1 lat d0 d1 - lkD0 lat h0 h1 d0 d1)
theorem clip_sp {a b : Int} (h : a ≤ b) : Sp1 (clipL a) (clipH b) := by
  unfold clipL clipH
  exact ⟨by omega, by omega, by omega⟩
theorem sine_sp (a : Int) : Sp1 (sineLo a) (sineHi a) := by
  have h := sine_bd a
  exact ⟨h.o, h.b0, h.b1⟩
/-- All intervals of place.look are intervals of sines. -/
structure LkSp (lat h0 h1 d0 d1 : Int) : Prop where
  sF : Sp1 (sineLo lat) (sineHi lat)
  cF : Sp1 (cfL lat) (cfH lat)
  sH : Sp1 (sovLo h0 h1) (sovHi h0 h1)
  cH : Sp1 (cvL h0 h1) (cvH h0 h1)
  sD : Sp1 (sovLo d0 d1) (sovHi d0 d1)
  cD : Sp1 (cvL d0 d1) (cvH d0 d1)
  N : Sp1 (lkN0 h0 h1 d0 d1) (lkN1 h0 h1 d0 d1)
  E : Sp1 (lkE0 h0 h1 d0 d1) (lkE1 h0 h1 d0 d1)
  A : Sp1 (lkA0 lat d0 d1) (lkA1 lat d0 d1)
  B : Sp1 (lkB0 lat h0 h1 d0 d1) (lkB1 lat h0 h1 d0 d1)
  Cc : Sp1 (lkC0 lat d0 d1) (lkC1 lat d0 d1)
  D : Sp1 (lkD0 lat h0 h1 d0 d1) (lkD1 lat h0 h1 d0 d1)
  U : Sp1 (up0 lat h0 h1 d0 d1) (up1 lat h0 h1 d0 d1)
  Ea : Sp1 (ea0 h0 h1 d0 d1) (ea1 h0 h1 d0 d1)
  No : Sp1 (no0 lat h0 h1 d0 d1) (no1 lat h0 h1 d0 d1)
theorem lk_sp (lat : Int) {h0 h1 d0 d1 : Int} (hh : h0 ≤ h1) (hd : d0 ≤ d1) : LkSp lat h0 h1 d0 d1 := by
  have sF := sine_sp lat
  have cF : Sp1 (cfL lat) (cfH lat) := sine_sp _
  have sH := sov_sp _ _ hh
  have cH : Sp1 (cvL h0 h1) (cvH h0 h1) := cov_sp hh
  have sD := sov_sp _ _ hd
  have cD : Sp1 (cvL d0 d1) (cvH d0 d1) := cov_sp hd
  have N : Sp1 (lkN0 h0 h1 d0 d1) (lkN1 h0 h1 d0 d1) := prod_sp cD cH
  have E : Sp1 (lkE0 h0 h1 d0 d1) (lkE1 h0 h1 d0 d1) := prod_sp cD sH
  have A : Sp1 (lkA0 lat d0 d1) (lkA1 lat d0 d1) := prod_sp sF sD
  have B : Sp1 (lkB0 lat h0 h1 d0 d1) (lkB1 lat h0 h1 d0 d1) := prod_sp cF N
  have Cc : Sp1 (lkC0 lat d0 d1) (lkC1 lat d0 d1) := prod_sp cF sD
  have D : Sp1 (lkD0 lat h0 h1 d0 d1) (lkD1 lat h0 h1 d0 d1) := prod_sp sF N
  refine ⟨sF, cF, sH, cH, sD, cD, N, E, A, B, Cc, D, clip_sp ?_, clip_sp ?_, clip_sp ?_⟩
  · have := A.o; have := B.o; omega
  · have := E.o; omega
  · have := Cc.o; have := D.o; omega
end Go.Proofs.YtcgnhnmigmdalaaDoor
