/- The walk through the law PlaceHeights: the numbers of the sun and the moon; the errors; joined. -/
import Derived.Test.YtcgnhnmigmdalaaGreatDoorWalkHt2
set_option linter.unusedVariables false
set_option linter.unusedSimpArgs false
set_option maxRecDepth 100000
namespace Go.Proofs.YtcgnhnmigmdalaaGreatDoor
open Go.RowKit
theorem ht_of {lon lat t m a0 a1 d0 d1 : Int} {D : Int → Int → Int → Prop} (hp : plB lon lat = true) (ht : instB t = true) (a : a0 ≤ a1) (aw : a1 - a0 ≤ 1000000) (a2 : -1000000000 ≤ a0) (a3 : a1 ≤ 3000000000) (d : d0 ≤ d1) (dw : d1 - d0 ≤ 1000000) (d2 : -250000000 ≤ d0) (d3 : d1 ≤ 250000000)
    (hB : ∀ w e f, -8 ≤ e → e ≤ 8 → -8 ≤ f → f ≤ 8 → Calls Tryz.prog 19 #[.int .i64 m, .int .i64 t, .int .i64 e, .int .i64 f] w fun r w' => ∃ x y z, r = .returned (.agg #[.int .i64 x, .int .i64 y, .int .i64 z]) ∧ D x y z ∧ Below w.heap.size w w')
    (H : ∀ x y z, D x y z → LookOk lon lat t a0 a1 d0 d1 x y z ∧ LookX lon lat t a0 a1 d0 d1 x y z) : ∃ u0 u1 s0 s1 x0 x1 y0 y1 p q er, HtN lon lat t m a0 a1 d0 d1 u0 u1 s0 s1 x0 x1 y0 y1 p q er D := by
  obtain ⟨p1, p2, p3, p4⟩ := plB_t hp
  obtain ⟨i1, i2⟩ := inst_bd ht
  have hl := look_ok (t := t) hp ht a a2 a3 d d2 d3
  have hh : lkH0 lon t a1 ≤ lkH1 lon t a0 := by have := (sid_ok lon t).o; unfold lkH0 lkH1; omega
  have sp := lk_sp lat hh d
  obtain ⟨u0, u1, u2⟩ := sp.U
  obtain ⟨e0, e1, e2⟩ := sp.Ea
  obtain ⟨n0, n1, n2⟩ := sp.No
  have az := azi_all hp ht a a2 a3 d d2 d3
  have wd := ht_wide lon lat t a d
  have ab := as_bounds (up0 lat (lkH0 lon t a1) (lkH1 lon t a0) d0 d1)
  have ab2 := as_bounds (up1 lat (lkH0 lon t a1) (lkH1 lon t a0) d0 d1)
  have main : ∀ p q er : Int, (∀ w, Tab w → Calls Tryz.prog 17 #[.agg #[.int .i64 lon, .int .i64 lat], .agg #[.int .i64 a0, .int .i64 a1], .agg #[.int .i64 d0, .int .i64 d1], .int .i64 t] w fun e w' => e = .returned (.tuple #[.agg #[.int .i64 p, .int .i64 q], .int .i64 er]) ∧ Below w.heap.size w w') → (er = 0 ∨ (er = 11 ∧ p = 0 ∧ q = 0)) →
      (er = 0 → 0 ≤ p ∧ p < 1000000000 ∧ p ≤ q ∧ q - p ≤ 400000000 ∧ ∀ x y z, LookX lon lat t a0 a1 d0 d1 x y z → LookOk lon lat t a0 a1 d0 d1 x y z → InArcOk p (q % 1000000000) (abSide (refSid lon t) x y) (abNo (refSid lon t) lat x y z)) → ∃ u0 u1 s0 s1 x0 x1 y0 y1 p q er, HtN lon lat t m a0 a1 d0 d1 u0 u1 s0 s1 x0 x1 y0 y1 p q er D := by
    intro p q er hz he hi
    refine ⟨_, _, _, _, _, _, _, _, p, q, er, fun w h => c_Height hl w h, fun w h => c_AltH hl (spanErr0 u0 (by omega) (by omega)) w h, fun w h => c_GroundH hl w h, hz, hB, ?_, wd, he, ⟨by omega, aw⟩, ⟨by omega, dw⟩, sp.U, sp.Ea, sp.No⟩
    intro x y z h
    obtain ⟨ok, lx⟩ := H x y z h
    obtain ⟨k1, k2, k3⟩ := ht_unit lx
    refine ⟨_, _, _, fun w => c_rAbove lon lat t x y z w p1 p2 p3 p4 (by omega) (by omega) ok.x1.1 ok.x1.2 ok.y1.1 ok.y1.2 ok.z1.1 ok.z1.2 ok.o.1 ok.o.2, fun w => c_ContainsUnit1 _ _ _ w k1 (by omega) (by omega) (by omega) (by omega) (by have := ok.bu; omega) (by have := ok.bu; omega),
      fun w => c_InArcSin1 _ _ _ w ab.1 (as_order u0) ab2.2.2.2.1 (ht_asin hh d lx) (by have := ok.bu; omega) (by have := ok.bu; omega),
      fun w => c_ContainsUnit1 _ _ _ w k2 (by omega) (by omega) (by omega) (by omega) (by have := ok.bs; omega) (by have := ok.bs; omega), fun w => c_ContainsUnit1 _ _ _ w k3 (by omega) (by omega) (by omega) (by omega) (by have := ok.bn; omega) (by have := ok.bn; omega), ?_⟩
    intro he0 w
    obtain ⟨c1, c2, c3, c4, c5⟩ := hi he0
    exact c_InArc1 p q _ _ w c1 c2 c3 c4 (c5 x y z lx ok) ok.bs.1 ok.bs.2 ok.bn.1 ok.bn.2
  rcases az with hz | ⟨p, q, c1, c2, c3, c4, hz, hi⟩
  · exact main 0 0 11 hz (.inr ⟨rfl, rfl, rfl⟩) (fun h => absurd h (by decide))
  · exact main p q 0 hz (.inl rfl) (fun _ => ⟨c1, c2, c3, c4, hi⟩)
theorem ht_sunN {lon lat t : Int} (hp : plB lon lat = true) (ht : instB t = true) : ∃ u0 u1 s0 s1 x0 x1 y0 y1 p q er, HtN lon lat t 0 (sraLo t) (sraHi t) (sdeLo t) (sdeHi t) u0 u1 s0 s1 x0 x1 y0 y1 p q er (SunD t) := by
  obtain ⟨r, -⟩ := sun_all t
  obtain ⟨i1, i2⟩ := inst_bd ht
  have r0 := r.ra0
  have r1 := r.ra1
  have r2 := r.ra2
  have r3 := r.ra3
  have r4 := r.de0
  have r5 := r.de1
  have r6 := r.de2
  have r7 := r.de3
  refine ht_of hp ht r2 (by omega) (by omega) (by omega) r5 (by omega) (by omega) (by omega) (fun w e f h1 h2 _ _ => c_Body0 t e f w (by omega) (by omega) h1 h2) ?_
  rintro x y z ⟨m, hm, rfl, rfl, rfl⟩
  exact ⟨sun_look lon lat hm, sun_lookX lon lat hm⟩
theorem ht_moonN {lon lat t : Int} (hp : plB lon lat = true) (ht : instB t = true) : ∃ u0 u1 s0 s1 x0 x1 y0 y1 p q er, HtN lon lat t 1 (mraLo t) (mraHi t) (mdeLo t) (mdeHi t) u0 u1 s0 s1 x0 x1 y0 y1 p q er (MoonD t) := by
  obtain ⟨r, -⟩ := moon_all t
  obtain ⟨i1, i2⟩ := inst_bd ht
  have r0 := r.ra0
  have r1 := r.ra1
  have r2 := r.ra2
  have r3 := r.ra3
  have r4 := r.de0
  have r5 := r.de1
  have r6 := r.de2
  have r7 := r.de3
  refine ht_of hp ht r2 (by omega) (by omega) (by omega) r5 (by omega) (by omega) (by omega) (fun w e f h1 h2 h3 h4 => c_Body1 t e f w (by omega) (by omega) h1 h2 h3 h4) ?_
  rintro x y z ⟨m, v, hm, hv, rfl, rfl, rfl⟩
  exact ⟨moon_look lon lat hm hv, moon_lookX lon lat hm hv⟩
end Go.Proofs.YtcgnhnmigmdalaaGreatDoor
