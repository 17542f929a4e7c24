/- What the law PlaceHeights asks of place's answers, as numbers. No program in sight. -/
import Derived.Test.YtcgnhnmigmdalaaGreatDoorPlainHt6
import Derived.Test.YtcgnhnmigmdalaaGreatDoorPlainLkW
set_option linter.unusedVariables false
set_option linter.unusedSimpArgs false
namespace Go.Proofs.YtcgnhnmigmdalaaGreatDoor
open Ieee
theorem ht_unit {lon lat t a0 a1 d0 d1 x y z : Int} (h : LookX lon lat t a0 a1 d0 d1 x y z) : UnitOk (up0 lat (lkH0 lon t a1) (lkH1 lon t a0) d0 d1) (up1 lat (lkH0 lon t a1) (lkH1 lon t a0) d0 d1) (abUp (refSid lon t) lat x y z) ∧ UnitOk (ea0 (lkH0 lon t a1) (lkH1 lon t a0) d0 d1) (ea1 (lkH0 lon t a1) (lkH1 lon t a0) d0 d1) (abSide (refSid lon t) x y) ∧ UnitOk (no0 lat (lkH0 lon t a1) (lkH1 lon t a0) d0 d1) (no1 lat (lkH0 lon t a1) (lkH1 lon t a0) d0 d1) (abNo (refSid lon t) lat x y z) := by
  obtain ⟨⟨u, i1, k1⟩, ⟨e, i2, k2⟩, ⟨n, i3, k3⟩⟩ := h
  exact ⟨unit_okX k1 i1, unit_okX k2 i2, unit_okX k3 i3⟩
theorem ht_asin {lon lat t a0 a1 d0 d1 x y z : Int} (hh : lkH0 lon t a1 ≤ lkH1 lon t a0) (hd : d0 ≤ d1) (h : LookX lon lat t a0 a1 d0 d1 x y z) : InAsin (asLo (up0 lat (lkH0 lon t a1) (lkH1 lon t a0) d0 d1)) (asHi (up1 lat (lkH0 lon t a1) (lkH1 lon t a0) d0 d1)) (abUp (refSid lon t) lat x y z) := by
  obtain ⟨⟨u, ⟨i1, i2⟩, k1⟩, -, -⟩ := h
  obtain ⟨uo, ub, uc⟩ := (lk_sp lat hh hd).U
  generalize up0 lat (lkH0 lon t a1) (lkH1 lon t a0) d0 d1 = p at *
  generalize up1 lat (lkH0 lon t a1) (lkH1 lon t a0) d0 d1 = q at *
  have e1 : cl9 p = p := by unfold cl9; omega
  have e2 : cl9 q = q := by unfold cl9; omega
  refine inAsin_of (x := u) (Rat.le_trans k1 (by decide +kernel)) ?_ ?_
  · have h := as_low p (z := u + 2 / 1000000000000) (by rw [e1]; grind)
    grind
  · have h := as_high q (z := u - 2 / 1000000000000) (by rw [e2]; grind)
    grind
theorem ht_arc {lon lat t a0 a1 d0 d1 x y z : Int} (hh : lkH0 lon t a1 ≤ lkH1 lon t a0) (hd : d0 ≤ d1) (h : LookX lon lat t a0 a1 d0 d1 x y z) (h' : LookOk lon lat t a0 a1 d0 d1 x y z) {D0 L H : Rat} {E : Nat → Rat}
    (hv : ArcV (ea0 (lkH0 lon t a1) (lkH1 lon t a0) d0 d1) (ea1 (lkH0 lon t a1) (lkH1 lon t a0) d0 d1) (no0 lat (lkH0 lon t a1) (lkH1 lon t a0) d0 d1) (no1 lat (lkH0 lon t a1) (lkH1 lon t a0) d0 d1) D0 E L H)
    (hw : arcHi (ea0 (lkH0 lon t a1) (lkH1 lon t a0) d0 d1) (ea1 (lkH0 lon t a1) (lkH1 lon t a0) d0 d1) (no0 lat (lkH0 lon t a1) (lkH1 lon t a0) d0 d1) (no1 lat (lkH0 lon t a1) (lkH1 lon t a0) d0 d1) - arcLo (ea0 (lkH0 lon t a1) (lkH1 lon t a0) d0 d1) (ea1 (lkH0 lon t a1) (lkH1 lon t a0) d0 d1) (no0 lat (lkH0 lon t a1) (lkH1 lon t a0) d0 d1) (no1 lat (lkH0 lon t a1) (lkH1 lon t a0) d0 d1) ≤ 400000000) :
    InArcOk (arcLo (ea0 (lkH0 lon t a1) (lkH1 lon t a0) d0 d1) (ea1 (lkH0 lon t a1) (lkH1 lon t a0) d0 d1) (no0 lat (lkH0 lon t a1) (lkH1 lon t a0) d0 d1) (no1 lat (lkH0 lon t a1) (lkH1 lon t a0) d0 d1) % 1000000000) (arcHi (ea0 (lkH0 lon t a1) (lkH1 lon t a0) d0 d1) (ea1 (lkH0 lon t a1) (lkH1 lon t a0) d0 d1) (no0 lat (lkH0 lon t a1) (lkH1 lon t a0) d0 d1) (no1 lat (lkH0 lon t a1) (lkH1 lon t a0) d0 d1) % 1000000000) (abSide (refSid lon t) x y) (abNo (refSid lon t) lat x y z) := by
  obtain ⟨-, ⟨e, ⟨i1, i2⟩, k1⟩, ⟨n, ⟨j1, j2⟩, k2⟩⟩ := h
  have bs := h'.bs
  have bn := h'.bn
  have sE := (lk_sp lat hh hd).Ea
  have sN := (lk_sp lat hh hd).No
  have bS := rabs_int (n := abSide (refSid lon t) x y) (B := 1160000000000000000) bs.1 bs.2
  have bN := rabs_int (n := abNo (refSid lon t) lat x y z) (B := 1160000000000000000) bn.1 bn.2
  clear h' bs bn
  generalize ea0 (lkH0 lon t a1) (lkH1 lon t a0) d0 d1 = y0 at *
  generalize ea1 (lkH0 lon t a1) (lkH1 lon t a0) d0 d1 = y1 at *
  generalize no0 lat (lkH0 lon t a1) (lkH1 lon t a0) d0 d1 = x0 at *
  generalize no1 lat (lkH0 lon t a1) (lkH1 lon t a0) d0 d1 = x1 at *
  generalize abSide (refSid lon t) x y = u at *
  generalize abNo (refSid lon t) lat x y z = v at *
  have c1 := arc_corners hv hw (y := y0) (x := x0) (.inl rfl) (.inl rfl)
  have c2 := arc_corners hv hw (y := y1) (x := x0) (.inr rfl) (.inl rfl)
  have c3 := arc_corners hv hw (y := y0) (x := x1) (.inl rfl) (.inr rfl)
  have c4 := arc_corners hv hw (y := y1) (x := x1) (.inr rfl) (.inr rfl)
  have m1 := emod_bd (arcLo y0 y1 x0 x1)
  have m2 := emod_bd (arcHi y0 y1 x0 x1)
  obtain ⟨n1, n2, n3⟩ := sN
  obtain ⟨s1, s2, s3⟩ := sE
  have q1 := rabs_int (n := x0) (B := 1100000000) (by omega) (by omega)
  have q2 := rabs_int (n := x1) (B := 1100000000) (by omega) (by omega)
  have q3 := rabs_int (n := y0) (B := 1400000000) (by omega) (by omega)
  have q4 := rabs_int (n := y1) (B := 1400000000) (by omega) (by omega)
  have near := rect_near m1.1 m1.2 m2.1 m2.2 c1 c2 c3 c4 q1 q2 q3 q4 (x := 1000000000 * n) (y := 1000000000 * e) (by grind) (by grind) (by grind) (by grind)
  refine inArc_near m1.1 m1.2 m2.1 m2.2 near ?_ ?_ bS bN
  · rw [show 1000000000 * e / 1000000000 = e by grind]; exact Rat.le_trans k1 (by decide +kernel)
  · rw [show 1000000000 * n / 1000000000 = n by grind]; exact Rat.le_trans k2 (by decide +kernel)
/-- The widths that the law asks for. -/
theorem ht_wide (lon lat t : Int) {a0 a1 d0 d1 : Int} (ha : a0 ≤ a1) (hd : d0 ≤ d1) :
    up1 lat (lkH0 lon t a1) (lkH1 lon t a0) d0 d1 - up0 lat (lkH0 lon t a1) (lkH1 lon t a0) d0 d1 ≤ 30 + 7 * (a1 - a0) + 14 * (d1 - d0) ∧ ea1 (lkH0 lon t a1) (lkH1 lon t a0) d0 d1 - ea0 (lkH0 lon t a1) (lkH1 lon t a0) d0 d1 ≤ 30 + 7 * (a1 - a0) + 14 * (d1 - d0) ∧ no1 lat (lkH0 lon t a1) (lkH1 lon t a0) d0 d1 - no0 lat (lkH0 lon t a1) (lkH1 lon t a0) d0 d1 ≤ 30 + 7 * (a1 - a0) + 14 * (d1 - d0) := by
  have ok := sid_ok lon t
  have o := ok.o
  have w := ok.w
  have hh : lkH0 lon t a1 ≤ lkH1 lon t a0 := by unfold lkH0 lkH1; omega
  obtain ⟨k1, k2, k3⟩ := look_wide lat hh hd
  have a := icast (show lkH1 lon t a0 - lkH0 lon t a1 ≤ a1 - a0 + 1 by unfold lkH0 lkH1; omega)
  have b := icast (show 0 ≤ a1 - a0 by omega)
  have c := icast (show 0 ≤ d1 - d0 by omega)
  have r : ∀ {p q : Int}, (p : Rat) ≤ (q : Rat) → p ≤ q := fun h => by exact_mod_cast h
  push_cast at k1 k2 k3 a b c
  refine ⟨r ?_, r ?_, r ?_⟩
  · push_cast; clear k2 k3; grind
  · push_cast; clear k1 k3; grind
  · push_cast; clear k1 k2; grind
end Go.Proofs.YtcgnhnmigmdalaaGreatDoor
