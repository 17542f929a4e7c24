/- What the intervals of sines and of the conversion to the equator hold, closely. No program in sight. -/
import Derived.Test.YtcgnhnmigmdalaaGreatDoorPlainHt1
set_option linter.unusedVariables false
set_option linter.unusedSimpArgs false
namespace Go.Proofs.YtcgnhnmigmdalaaGreatDoor
open Ieee
theorem over_X {lo hi k : Int} {z : Rat} (hlh : lo ≤ hi) (z0 : 0 ≤ z) (z1 : z ≤ 1000000000) (h1 : (lo : Rat) ≤ z + (k : Rat) * 1000000000) (h2 : z + (k : Rat) * 1000000000 ≤ (hi : Rat)) : InU (sovLo lo hi) (sovHi lo hi) (S (tq * z)) (101/1000000) := by
  have s1 := sine_bd lo
  have s2 := sine_bd hi
  rw [show S (angU (lo % 1000000000)) = siU lo from rfl] at s1
  rw [show S (angU (hi % 1000000000)) = siU hi from rfl] at s2
  have one := rabs_le.1 (oneY z0 z1).1
  have c3 : ((-1000000000 : Int) : Rat) = -1000000000 := rfl
  have c1 : ((1000000000 : Int) : Rat) = 1000000000 := rfl
  have a1 := s1.l1
  have a2 := s2.l1
  have a3 := s1.h1
  have a4 := s2.h1
  constructor
  · unfold sovLo
    cases hc : ctB lo hi 750000000 with
    | true => rw [if_pos rfl, c3]; grind
    | false =>
      rw [if_neg (by simp)]
      have hg : hi - lo < (750000000 - lo) % 1000000000 := by
        unfold ctB at hc
        simp at hc
        omega
      have m1 := icast (show min (sineLo lo) (sineLo hi) ≤ sineLo lo by omega)
      have m2 := icast (show min (sineLo lo) (sineLo hi) ≤ sineLo hi by omega)
      rcases low_any z0 z1 h1 h2 hlh hg with q | q <;> grind
  · unfold sovHi
    cases hc : ctB lo hi 250000000 with
    | true => rw [if_pos rfl, c1]; grind
    | false =>
      rw [if_neg (by simp)]
      have hg : hi - lo < (250000000 - lo) % 1000000000 := by
        unfold ctB at hc
        simp at hc
        omega
      have m1 := icast (show sineHi lo ≤ max (sineHi lo) (sineHi hi) by omega)
      have m2 := icast (show sineHi hi ≤ max (sineHi lo) (sineHi hi) by omega)
      rcases high_any z0 z1 h1 h2 hlh hg with q | q <;> grind
theorem over_X2 {lo hi k : Int} {z : Rat} (hlh : lo ≤ hi) (z0 : 0 ≤ z) (z1 : z ≤ 1000000000) (h1 : (lo : Rat) ≤ z + (k : Rat) * 1000000000) (h2 : z + (k : Rat) * 1000000000 ≤ (hi : Rat)) : InU (sovLo (lo + 250000000) (hi + 250000000)) (sovHi (lo + 250000000) (hi + 250000000)) (C (tq * z)) (102/1000000) := by
  obtain ⟨b, j, b0, b1, e⟩ : ∃ (b : Rat) (j : Int), 0 ≤ b ∧ b ≤ 1000000000 ∧ b = z + 250000000 + (j : Rat) * 1000000000 := by
    by_cases q : z + 250000000 ≤ 1000000000
    · exact ⟨z + 250000000, 0, by grind, q, by rw [show ((0 : Int) : Rat) = 0 from rfl]; grind⟩
    · exact ⟨z + 250000000 - 1000000000, -1, by grind, by grind, by rw [show ((-1 : Int) : Rat) = -1 from rfl]; grind⟩
  have q := rabs_le.1 (quarter_on z0 z1 b0 b1 e)
  have o := over_X (lo := lo + 250000000) (hi := hi + 250000000) (k := k - j) (by omega) b0 b1 (by rw [e]; push_cast; grind) (by rw [e]; push_cast; grind)
  unfold InU at *
  constructor <;> grind
theorem cov_X {lo hi k : Int} {z : Rat} (hlh : lo ≤ hi) (z0 : 0 ≤ z) (z1 : z ≤ 1000000000) (h1 : (lo : Rat) ≤ z + (k : Rat) * 1000000000) (h2 : z + (k : Rat) * 1000000000 ≤ (hi : Rat)) :
    InU (sovLo (covB lo) (covE lo hi)) (sovHi (covB lo) (covE lo hi)) (C (tq * z)) (102/1000000) := by
  have e := turn_split lo
  have b0 := (emod_bd lo).1
  have b1 := (emod_bd lo).2
  unfold covB covE
  generalize lo % 1000000000 = b at *
  generalize hq : lo / 1000000000 = q at *
  by_cases h : hi - lo ≤ 2000000000
  · rw [show min (hi - lo) 2000000000 = hi - lo by omega, show b + 250000000 + (hi - lo) = b + (hi - lo) + 250000000 by omega]
    refine over_X2 (lo := b) (hi := b + (hi - lo)) (k := k - q) (by omega) z0 z1 ?_ ?_
    · push_cast; grind
    · push_cast; grind
  · rw [show min (hi - lo) 2000000000 = 2000000000 by omega, show b + 250000000 + 2000000000 = b + 2000000000 + 250000000 by omega]
    have B0 := icast b0
    have B1 := icast (show b ≤ 999999999 by omega)
    have c0 : ((0 : Int) : Rat) = 0 := rfl
    have c1 : ((1 : Int) : Rat) = 1 := rfl
    have cc : ((999999999 : Int) : Rat) = 999999999 := rfl
    rw [c0] at B0
    rw [cc] at B1
    by_cases g : (b : Rat) ≤ z
    · refine over_X2 (lo := b) (hi := b + 2000000000) (k := 0) (by omega) z0 z1 ?_ ?_
      · rw [c0]; grind
      · rw [c0]; push_cast; grind
    · refine over_X2 (lo := b) (hi := b + 2000000000) (k := 1) (by omega) z0 z1 ?_ ?_
      · rw [c1]; grind
      · rw [c1]; push_cast; grind
theorem sine_inX (a : Int) : InU (sineLo a) (sineHi a) (siU a) (1/10000) := by
  have h := sine_bd a
  have l := h.l1
  have u := h.h1
  unfold InU siU
  constructor <;> grind
theorem cosine_inX (a : Int) : InU (cfL a) (cfH a) (coU a) (1/10000) := by
  have h := sine_inX (a % 1000000000 + 250000000)
  have e : siU (a % 1000000000 + 250000000) = coU a := by unfold coU siU; rw [show (a % 1000000000 + 250000000) % 1000000000 = (a + 250000000) % 1000000000 by omega]
  rw [e] at h
  exact h
/-- A point of the sky that the intervals hold. -/
structure PtX (l0 l1 b0 b1 : Int) (zl zb : Rat) : Prop where
  hl : l0 ≤ l1
  hb : b0 ≤ b1
  l : 0 ≤ zl ∧ zl ≤ 1000000000
  b : 0 ≤ zb ∧ zb ≤ 1000000000
  kl : ∃ k : Int, (l0 : Rat) ≤ zl + (k : Rat) * 1000000000 ∧ zl + (k : Rat) * 1000000000 ≤ (l1 : Rat)
  kb : ∃ k : Int, (b0 : Rat) ≤ zb + (k : Rat) * 1000000000 ∧ zb + (k : Rat) * 1000000000 ≤ (b1 : Rat)
theorem PtX.pt {l0 l1 b0 b1 : Int} {zl zb : Rat} (p : PtX l0 l1 b0 b1 zl zb) : Pt l0 l1 b0 b1 zl zb := by
  obtain ⟨hl, hb, l, b, ⟨k, k1, k2⟩, ⟨m, m1, m2⟩⟩ := p
  exact ⟨hl, hb, l, b, ⟨k, by grind, by grind⟩, ⟨m, by grind, by grind⟩⟩
theorem eq_inX {l0 l1 b0 b1 : Int} {zl zb : Rat} (p : PtX l0 l1 b0 b1 zl zb) : InU (eqX0 l0 l1 b0 b1) (eqX1 l0 l1 b0 b1) (pX zl zb) (205/1000000) ∧ InU (eqY0 l0 l1 b0 b1) (eqY1 l0 l1 b0 b1) (pY zl zb) (307/1000000) ∧ InU (eqZ0 l0 l1 b0 b1) (eqZ1 l0 l1 b0 b1) (pZ zl zb) (307/1000000) := by
  obtain ⟨hl, hb, ⟨zl0, zl1⟩, ⟨zb0, zb1⟩, ⟨k, k1, k2⟩, ⟨k', k3, k4⟩⟩ := p
  have sl := over_X hl zl0 zl1 k1 k2
  have cl := cov_X hl zl0 zl1 k1 k2
  have sb := over_X hb zb0 zb1 k3 k4
  have cb := cov_X hb zb0 zb1 k3 k4
  obtain ⟨te, tc, tes, tcs⟩ := tilt_in
  have nb := sc_one zb0 zb1
  have nl := sc_one zl0 zl1
  have nb1 : rabs (C (tq * zb)) ≤ 1 + 1 / 10000000 := by have := nb.2; grind
  have nb2 : rabs (S (tq * zb)) ≤ 1 + 1 / 10000000 := by have := nb.1; grind
  have nA : rabs (C (tq * zb) * S (tq * zl)) ≤ 1 + 1 / 10000000 := by have := mul_rabs nb.2 nl.1; grind
  have A := times_in (cov_sp hb) (sov_sp _ _ hl) cb sl (by grind) (by grind) (by grind) (by grind) nb1
  have X := times_in (cov_sp hb) (cov_sp hl) cb cl (by grind) (by grind) (by grind) (by grind) nb1
  have P := times_in (eqA_sp hl hb) tcs A tc (by grind) (by grind) (by grind) (by grind) nA
  have R := times_in (eqA_sp hl hb) tes A te (by grind) (by grind) (by grind) (by grind) nA
  have Q := times_in (sov_sp _ _ hb) tes sb te (by grind) (by grind) (by grind) (by grind) nb2
  have U := times_in (sov_sp _ _ hb) tcs sb tc (by grind) (by grind) (by grind) (by grind) nb2
  exact ⟨InU.mono X (by grind), InU.mono (InU.sub P Q) (by grind), InU.mono (InU.add R U) (by grind)⟩
/-- The sines of a sum's angles, at whole units. -/
theorem coU_z (n : Int) : rabs (coU n - C (tq * ((n % 1000000000 : Int) : Rat))) ≤ 1 / 10000000000000000 := by
  obtain ⟨-, n0, n1, ne⟩ := siU_z n
  obtain ⟨e, m0, m1, me⟩ := siU_z (n + 250000000)
  show rabs (siU (n + 250000000) - _) ≤ _
  rw [e]
  exact quarter_on (j := n / 1000000000 - (n + 250000000) / 1000000000) n0 n1 m0 m1 (by push_cast at me ⊢; grind)
theorem siU_circX (a : Int) : rabs (siU a * siU a + coU a * coU a - 1) ≤ 1 / 1000000000000000 ∧ rabs (siU a) ≤ 1 + 1 / 1000000000000000 ∧ rabs (coU a) ≤ 1 + 1 / 1000000000000000 := by
  obtain ⟨e, n0, n1, -⟩ := siU_z a
  have c := rabs_le.1 (circY n0 n1)
  have o := oneY n0 n1
  have hc := coU_z a
  rw [← e] at c o
  generalize C (tq * ((a % 1000000000 : Int) : Rat)) = k at *
  have o1 := rabs_le.1 o.1
  have o2 := rabs_le.1 o.2
  have hc' := rabs_le.1 hc
  have m := rabs_le.1 (mul_rabs hc (show rabs (coU a + k) ≤ 21/10 from rabs_le.2 ⟨by grind, by grind⟩))
  have ee : (coU a - k) * (coU a + k) = coU a * coU a - k * k := by grind
  rw [ee] at m
  exact ⟨rabs_le.2 ⟨by grind, by grind⟩, rabs_le.2 ⟨by grind, by grind⟩, rabs_le.2 ⟨by grind, by grind⟩⟩
end Go.Proofs.YtcgnhnmigmdalaaGreatDoor
