/- The sun's height by whole angles lies in the interval of place.Height; how angles grow. Plain. -/
import Derived.Test.YtcgnhnmigmdalaaGreatDoorRiA
import Derived.Test.YtcgnhnmigmdalaaGreatDoorLkD
import Derived.Test.YtcgnhnmigmdalaaGreatDoorRsA
import Derived.Test.YtcgnhnmigmdalaaGreatDoorGwA
set_option linter.unusedVariables false
set_option linter.unusedSimpArgs false
namespace Go.Proofs.YtcgnhnmigmdalaaGreatDoor
open Ieee
/-- The lifted sidereal angle at length 0. -/
def gL (t : Int) : Int := lfLo 275313108 1002737909350806 [] 0 t
theorem sid_lift (lon t : Int) : sidLo lon t = (gL t + lon) % 1000000000 := by
  have h := (lf_ang 275313108 1002737909350806 [] 0 t).1
  unfold sidLo sdA
  rw [h]
  show (gL t % 1000000000 + lon) % 1000000000 = _
  omega
theorem sid_grow {x y : Int} (h : x ≤ y) : 1002737909350806 * (y - x) - 259200000000000 ≤ 86400000000000 * (gL y - gL x) ∧ 86400000000000 * (gL y - gL x) ≤ 1002737909350806 * (y - x) + 259200000000000 := by
  obtain ⟨h1, h2⟩ := lf_grow (L := 0) (sumOk_of sid_e) h (by decide +kernel) (by decide +kernel)
  have r' : ∀ {p q : Int}, (p : Rat) ≤ (q : Rat) → p ≤ q := fun h => by exact_mod_cast h
  constructor
  · refine r' ?_
    push_cast
    unfold gL
    push_cast at h1
    grind
  · refine r' ?_
    push_cast
    unfold gL
    push_cast at h2
    grind
theorem sun_pt0 (t : Int) : Pt (sunLo t) (sunHi t) 0 0 ((sunLo t : Int) : Rat) (zA (argU 0)) := by
  obtain ⟨m, hm⟩ := slon_ex t
  obtain ⟨hl, hb, -, b, -, kb⟩ := sun_pt hm
  obtain ⟨e, -⟩ := sun_lift t
  obtain ⟨m0, m1⟩ := emod_bd (sL t)
  have g0 := icast (show 0 ≤ sunLo t by omega)
  have g1 := icast (show sunLo t ≤ 1000000000 by omega)
  have g2 := icast hl
  push_cast at g0 g1
  exact ⟨hl, hb, ⟨g0, g1⟩, b, ⟨0, by push_cast; grind, by push_cast; grind⟩, kb⟩
theorem sun_rade0 (t : Int) : RaDe (sraLo t) (sraHi t) (sdeLo t) (sdeHi t) (pX ((sunLo t : Int) : Rat) (zA (argU 0))) (pY ((sunLo t : Int) : Rat) (zA (argU 0))) (pZ ((sunLo t : Int) : Rat) (zA (argU 0))) := by
  obtain ⟨m, h⟩ := slon_ex t
  obtain ⟨f0, f1, -, f3, -, -, f6⟩ := sun_facts t
  obtain ⟨⟨D0, E, L, H, hv⟩, ho, -, -⟩ := c_Equator_all (l0 := sunLo t) (l1 := sunHi t) (b0 := 0) (b1 := 0) f6 (by omega) (by omega) (by decide) (by decide) (by decide) (sun_box h).off
  have hw : raHi (sunLo t) (sunHi t) 0 0 - raLo (sunLo t) (sunHi t) 0 0 ≤ 10000 := sun_ra hv h
  exact eq_rade (B := 0) (sun_pt0 t) hv ho (by omega) (by decide) (by decide) (by rw [sov_zero.1]; decide) (by rw [sov_zero.2]; decide)
theorem su_in (lon lat t : Int) : InU (suU0 lon lat t) (suU1 lon lat t) (hgt lat (sL t) (gL t + lon)) (93/100) := by
  have h := sun_rade0 t
  obtain ⟨za, zd, hd, ka, kd⟩ := dirA_of h
  have ok := sid_ok lon t
  have g0 := icast ok.l0
  have g1 := icast (show sidLo lon t ≤ 1000000000 by have := ok.l1; omega)
  have g2 := icast ok.o
  push_cast at g0 g1
  obtain ⟨i1, -, -⟩ := look_near lat hd ok.o h.oa h.od (θ := ((sidLo lon t : Int) : Rat)) g0 g1 ⟨0, by push_cast; grind, by push_cast; grind⟩ ka kd
  have cn := coU_b (sL t)
  have cg := coU_b (gL t + lon)
  have bn := siU_b (sL t)
  have bg := siU_b (gL t + lon)
  rw [← (sun_lift t).1] at cn bn
  rw [← sid_lift] at cg bg
  obtain ⟨s0, c0⟩ := sc_zero
  unfold tUp vOut pX pY pZ at i1
  rw [zb_zero, s0, c0, ← bn, ← bg] at i1
  obtain ⟨-, l1, l2⟩ := siU_circ lat
  obtain ⟨-, l3, l4⟩ := siU_circ (gL t + lon)
  obtain ⟨-, l5, l6⟩ := siU_circ (sL t)
  obtain ⟨e1, e2, e3, e4, -⟩ := eps_fine
  have h9 : rabs (C (tq * ((sidLo lon t : Int) : Rat))) ≤ 2 := by
    have := rabs_le.1 cg
    have := rabs_le.1 l4
    exact rabs_le.2 ⟨by grind, by grind⟩
  have q1 : rabs (C (tq * ((sidLo lon t : Int) : Rat)) * C (tq * ((sunLo t : Int) : Rat)) - coU (gL t + lon) * coU (sL t)) ≤ 4 * (3 / 10000000000000) := by
    have c1 : rabs (C (tq * ((sidLo lon t : Int) : Rat)) - coU (gL t + lon)) ≤ 3 / 10000000000000 := by
      have := rabs_le.1 cg
      exact rabs_le.2 ⟨by grind, by grind⟩
    have c2 : rabs (C (tq * ((sunLo t : Int) : Rat)) - coU (sL t)) ≤ 3 / 10000000000000 := by
      have := rabs_le.1 cn
      exact rabs_le.2 ⟨by grind, by grind⟩
    exact mul_gap c1 c2 h9 (by grind)
  have q2 : rabs (C (tq * ((sidLo lon t : Int) : Rat)) - coU (gL t + lon)) ≤ 3 / 10000000000000 := by
    have := rabs_le.1 cg
    exact rabs_le.2 ⟨by grind, by grind⟩
  have w1 := rabs_le.1 (mul_small l2 q1)
  unfold hgt
  obtain ⟨a, b⟩ := i1
  rw [show up0 lat (sidLo lon t - sraHi t) (sidHi lon t - sraLo t) (sdeLo t) (sdeHi t) = suU0 lon lat t from rfl] at a
  rw [show up1 lat (sidLo lon t - sraHi t) (sidHi lon t - sraLo t) (sdeLo t) (sdeHi t) = suU1 lon lat t from rfl] at b
  clear cn cg bn bg ka kd hd h
  generalize siU lat = x1 at *
  generalize coU lat = x2 at *
  generalize siU (gL t + lon) = x3 at *
  generalize coU (gL t + lon) = x4 at *
  generalize siU (sL t) = x5 at *
  generalize coU (sL t) = x6 at *
  generalize C (tq * ((sidLo lon t : Int) : Rat)) = y4 at *
  generalize C (tq * ((sunLo t : Int) : Rat)) = y6 at *
  clear l1 l2 l3 l4 l5 l6 h9 q1 q2 e1 e2 e3 e4 s0 c0 g0 g1 g2 ok
  obtain ⟨w1, w2⟩ := w1
  have id : x1 * (1 * x5 * se9 + 0 * ce9) + x2 * (y4 * (1 * y6) + x3 * (1 * x5 * ce9 - 0 * se9)) = x1 * (se9 * x5) + x2 * (x4 * x6 + x3 * (ce9 * x5)) + x2 * (y4 * y6 - x4 * x6) := by grind
  rw [id] at a b
  generalize x1 * (se9 * x5) + x2 * (x4 * x6 + x3 * (ce9 * x5)) = h1 at *
  generalize x2 * (y4 * y6 - x4 * x6) = h2 at *
  constructor <;> grind
theorem su_rise {lon lat al ah bl bh t : Int} (h1 : -150000000 < lat) (h2 : lat < 150000000) (a0 : al < ah) (a1 : ah ≤ al + 120000) (b0 : bl < bh) (b1 : bh ≤ bl + 120000) (ab : ah + 7200000 < bl) (day : bl ≤ ah + 86400000) (t0 : ah + 3600000 ≤ t) (t1 : t ≤ bl - 3600000)
    (ua : suU1 lon lat al < -14543900) (va : -14543900 < suU0 lon lat ah) (vb : -14543900 < suU0 lon lat bl) (ub : suU1 lon lat bh < -14543900) : 0 < suU0 lon lat t :=
  rise_abs (sL := sL) (gL := gL) (U0 := suU0 lon lat) (U1 := suU1 lon lat) ⟨fun h => sun_grow h, fun h => sid_grow h⟩ (fun x => su_in lon lat x) (fun x => su_wide lon lat x) h1 h2 a0 a1 b0 b1 ab day t0 t1 ua va vb ub
end Go.Proofs.YtcgnhnmigmdalaaGreatDoor
