/- The conversion to the equator: what its intervals hold, and how narrow they are. No program in sight. -/
import Derived.Test.YtaaiamcpdicnhaaDoorPlainEq
set_option linter.unusedVariables false
set_option linter.unusedSimpArgs false
namespace Go.Proofs.YtaaiamcpdicnhaaDoor
open Ieee
def eqA0 (l0 l1 b0 b1 : Int) : Int := pLo (sovLo (covB b0) (covE b0 b1)) (sovHi (covB b0) (covE b0 b1)) (sovLo l0 l1) (sovHi l0 l1) 1000000000
def eqA1 (l0 l1 b0 b1 : Int) : Int := pHi (sovLo (covB b0) (covE b0 b1)) (sovHi (covB b0) (covE b0 b1)) (sovLo l0 l1) (sovHi l0 l1) 1000000000
def eqX0 (l0 l1 b0 b1 : Int) : Int := pLo (sovLo (covB b0) (covE b0 b1)) (sovHi (covB b0) (covE b0 b1)) (sovLo (covB l0) (covE l0 l1)) (sovHi (covB l0) (covE l0 l1)) 1000000000
def eqX1 (l0 l1 b0 b1 : Int) : Int := pHi (sovLo (covB b0) (covE b0 b1)) (sovHi (covB b0) (covE b0 b1)) (sovLo (covB l0) (covE l0 l1)) (sovHi (covB l0) (covE l0 l1)) 1000000000
/-- The four products with the tilt. -/
def eqP0 (l0 l1 b0 b1 : Int) : Int := pLo (eqA0 l0 l1 b0 b1) (eqA1 l0 l1 b0 b1) 917482416 917482417 1000000000
def eqP1 (l0 l1 b0 b1 : Int) : Int := pHi (eqA0 l0 l1 b0 b1) (eqA1 l0 l1 b0 b1) 917482416 917482417 1000000000
def eqQ0 (b0 b1 : Int) : Int := pLo (sovLo b0 b1) (sovHi b0 b1) 397776337 397776338 1000000000
def eqQ1 (b0 b1 : Int) : Int := pHi (sovLo b0 b1) (sovHi b0 b1) 397776337 397776338 1000000000
def eqR0 (l0 l1 b0 b1 : Int) : Int := pLo (eqA0 l0 l1 b0 b1) (eqA1 l0 l1 b0 b1) 397776337 397776338 1000000000
def eqR1 (l0 l1 b0 b1 : Int) : Int := pHi (eqA0 l0 l1 b0 b1) (eqA1 l0 l1 b0 b1) 397776337 397776338 1000000000
def eqS0 (b0 b1 : Int) : Int := pLo (sovLo b0 b1) (sovHi b0 b1) 917482416 917482417 1000000000
def eqS1 (b0 b1 : Int) : Int := pHi (sovLo b0 b1) (sovHi b0 b1) 917482416 917482417 1000000000
def eqY0 (l0 l1 b0 b1 : Int) : Int := eqP0 l0 l1 b0 b1 - eqQ1 b0 b1
def eqY1 (l0 l1 b0 b1 : Int) : Int := eqP1 l0 l1 b0 b1 - eqQ0 b0 b1
def eqZ0 (l0 l1 b0 b1 : Int) : Int := eqR0 l0 l1 b0 b1 + eqS0 b0 b1
def eqZ1 (l0 l1 b0 b1 : Int) : Int := eqR1 l0 l1 b0 b1 + eqS1 b0 b1
theorem tilt_vals : sineLo 65109000 = 397776337 ∧ sineHi 65109000 = 397776338 ∧ sineLo (65109000 % 1000000000 + 250000000) = 917482416 ∧ sineHi (65109000 % 1000000000 + 250000000) = 917482417 := by decide +kernel
def se9 : Rat := S (tq * 65109000)
def ce9 : Rat := C (tq * 65109000)
theorem tilt_num : 3977763374 / 10000000000 ≤ se9 ∧ se9 ≤ 3977763376 / 10000000000 ∧ 9174824168 / 10000000000 ≤ ce9 ∧ ce9 ≤ 9174824170 / 10000000000 := by decide +kernel
theorem tilt_in : InU 397776337 397776338 se9 0 ∧ InU 917482416 917482417 ce9 0 ∧ Sp1 397776337 397776338 ∧ Sp1 917482416 917482417 := by
  obtain ⟨h1, h2, h3, h4⟩ := tilt_num
  have c1 : ((397776337 : Int) : Rat) = 397776337 := rfl
  have c2 : ((397776338 : Int) : Rat) = 397776338 := rfl
  have c3 : ((917482416 : Int) : Rat) = 917482416 := rfl
  have c4 : ((917482417 : Int) : Rat) = 917482417 := rfl
  refine ⟨?_, ?_, ⟨by decide, by decide, by decide⟩, ⟨by decide, by decide, by decide⟩⟩
  · unfold InU; rw [c1, c2]; constructor <;> grind
  · unfold InU; rw [c3, c4]; constructor <;> grind
theorem circT {z : Rat} (z0 : 0 ≤ z) (z1 : z ≤ 1000000000) : rabs (S (tq * z) * S (tq * z) + C (tq * z) * C (tq * z) - 1) ≤ 1 / 100000000000 := by
  have hp := pi_num
  obtain ⟨t1, t2, -⟩ := tq_num
  have A0 := tq_le z0
  have A1 := tq_le z1
  rw [tq_turn] at A1
  by_cases h : tq * z ≤ 31416/10000
  · have := circ9 (y := tq * z) (rabs_le.2 ⟨by grind, by grind⟩)
    grind
  · have c := rabs_le.1 (circ9 (y := tq * z - 2 * piQ) (rabs_le.2 ⟨by grind, by grind⟩))
    obtain ⟨k1, k2⟩ := sin_turn (x := tq * z - 2 * piQ) (rabs_le.2 ⟨by grind, by grind⟩)
    have e : tq * z - 2 * piQ + 2 * piQ = tq * z := by grind
    rw [e] at k1 k2
    have b1 := SC_bd (y := tq * z) (rabs_le.2 ⟨by grind, by grind⟩)
    have b2 := SC_bd (y := tq * z - 2 * piQ) (rabs_le.2 ⟨by grind, by grind⟩)
    clear e A0 A1 h
    generalize S (tq * z - 2 * piQ) = s' at *
    generalize C (tq * z - 2 * piQ) = c' at *
    generalize S (tq * z) = s at *
    generalize C (tq * z) = c at *
    have bs : rabs (s + s') ≤ 21/10 := by
      have := rabs_le.1 b1.1
      have := rabs_le.1 b2.1
      exact rabs_le.2 ⟨by grind, by grind⟩
    have bc : rabs (c + c') ≤ 21/10 := by
      have := rabs_le.1 b1.2
      have := rabs_le.1 b2.2
      exact rabs_le.2 ⟨by grind, by grind⟩
    have m1 := rabs_le.1 (mul_rabs k1 bs)
    have m2 := rabs_le.1 (mul_rabs k2 bc)
    rw [rabs_le]
    constructor <;> grind
theorem sc_one {z : Rat} (z0 : 0 ≤ z) (z1 : z ≤ 1000000000) : rabs (S (tq * z)) ≤ 1 + 1 / 100000000000 ∧ rabs (C (tq * z)) ≤ 1 + 1 / 100000000000 := by
  obtain ⟨t1, t2, -⟩ := tq_num
  have hp := pi_num
  have A0 := tq_le z0
  have A1 := tq_le z1
  rw [tq_turn] at A1
  exact SC_bd (rabs_le.2 ⟨by grind, by grind⟩)
/-- A point of the sky and what the intervals are to hold of it. -/
structure Pt (l0 l1 b0 b1 : Int) (zl zb : Rat) : Prop where
  hl : l0 ≤ l1
  hb : b0 ≤ b1
  l : 0 ≤ zl ∧ zl ≤ 1000000000
  b : 0 ≤ zb ∧ zb ≤ 1000000000
  kl : ∃ k : Int, (l0 : Rat) - 1/500 ≤ zl + (k : Rat) * 1000000000 ∧ zl + (k : Rat) * 1000000000 ≤ (l1 : Rat) + 1/500
  kb : ∃ k : Int, (b0 : Rat) - 1/500 ≤ zb + (k : Rat) * 1000000000 ∧ zb + (k : Rat) * 1000000000 ≤ (b1 : Rat) + 1/500
def pX (zl zb : Rat) : Rat := C (tq * zb) * C (tq * zl)
def pY (zl zb : Rat) : Rat := C (tq * zb) * S (tq * zl) * ce9 - S (tq * zb) * se9
def pZ (zl zb : Rat) : Rat := C (tq * zb) * S (tq * zl) * se9 + S (tq * zb) * ce9
theorem cov_sp {lo hi : Int} (h : lo ≤ hi) : Sp1 (sovLo (covB lo) (covE lo hi)) (sovHi (covB lo) (covE lo hi)) := sov_sp _ _ (by unfold covB covE; omega)
theorem eqA_sp {l0 l1 b0 b1 : Int} (hl : l0 ≤ l1) (hb : b0 ≤ b1) : Sp1 (eqA0 l0 l1 b0 b1) (eqA1 l0 l1 b0 b1) := prod_sp (cov_sp hb) (sov_sp _ _ hl)
theorem InU.mono {L H : Int} {x ε δ : Rat} (h : InU L H x ε) (hd : ε ≤ δ) : InU L H x δ := by
  unfold InU at *; constructor <;> grind
theorem eq_in {l0 l1 b0 b1 : Int} {zl zb : Rat} (p : Pt l0 l1 b0 b1 zl zb) : InU (eqX0 l0 l1 b0 b1) (eqX1 l0 l1 b0 b1) (pX zl zb) (1/10) ∧ InU (eqY0 l0 l1 b0 b1) (eqY1 l0 l1 b0 b1) (pY zl zb) (1/10) ∧ InU (eqZ0 l0 l1 b0 b1) (eqZ1 l0 l1 b0 b1) (pZ zl zb) (1/10) := by
  obtain ⟨hl, hb, ⟨zl0, zl1⟩, ⟨zb0, zb1⟩, ⟨k, k1, k2⟩, ⟨k', k3, k4⟩⟩ := p
  have sl := (over_any hl zl0 zl1 k1 k2).1
  have cl := cov_any hl zl0 zl1 k1 k2
  have sb := (over_any hb zb0 zb1 k3 k4).1
  have cb := cov_any hb zb0 zb1 k3 k4
  obtain ⟨te, tc, tes, tcs⟩ := tilt_in
  have nb := sc_one zb0 zb1
  have nl := sc_one zl0 zl1
  have nb1 : rabs (C (tq * zb)) ≤ 1 + 1 / 10000000 := by have := nb.2; grind
  have nb2 : rabs (S (tq * zb)) ≤ 1 + 1 / 10000000 := by have := nb.1; grind
  have nA : rabs (C (tq * zb) * S (tq * zl)) ≤ 1 + 1 / 10000000 := by have := mul_rabs nb.2 nl.1; grind
  have A := times_in (cov_sp hb) (sov_sp _ _ hl) cb sl (by grind) (by grind) (by grind) (by grind) nb1
  have X := times_in (cov_sp hb) (cov_sp hl) cb cl (by grind) (by grind) (by grind) (by grind) nb1
  have P := times_in (eqA_sp hl hb) tcs A tc (by grind) (by grind) (by grind) (by grind) nA
  have R := times_in (eqA_sp hl hb) tes A te (by grind) (by grind) (by grind) (by grind) nA
  have Q := times_in (sov_sp _ _ hb) tes sb te (by grind) (by grind) (by grind) (by grind) nb2
  have U := times_in (sov_sp _ _ hb) tcs sb tc (by grind) (by grind) (by grind) (by grind) nb2
  exact ⟨InU.mono X (by grind), InU.mono (InU.sub P Q) (by grind), InU.mono (InU.add R U) (by grind)⟩
/-- How far from the axis a point is. -/
theorem eq_norm {zl zb s0 c0 r0 : Rat} (l0 : 0 ≤ zl) (l1 : zl ≤ 1000000000) (b0 : 0 ≤ zb) (b1 : zb ≤ 1000000000) (hs : rabs (S (tq * zb)) ≤ s0) (hc0 : 0 ≤ c0) (hsc : c0 * c0 + s0 * s0 ≤ 1 - 1 / 1000000000) (hr0 : 0 ≤ r0) (hr : r0 ≤ c0 * (9174/10000) - s0 * (3978/10000)) :
    r0 * r0 - 1 / 1000000000 ≤ pX zl zb * pX zl zb + pY zl zb * pY zl zb ∧ rabs (pX zl zb) ≤ 1 + 1 / 1000000 ∧ rabs (pY zl zb) ≤ 1 + 1 / 1000000 ∧ rabs (pZ zl zb) ≤ 1 + 1 / 1000000000 := by
  have cl := rabs_le.1 (circT l0 l1)
  have cb := rabs_le.1 (circT b0 b1)
  have ct : rabs (se9 * se9 + ce9 * ce9 - 1) ≤ 1 / 100000000000 := circT (z := 65109000) (by decide +kernel) (by decide +kernel)
  have ct := rabs_le.1 ct
  obtain ⟨t1, t2, t3, t4⟩ := tilt_num
  have nl := sc_one l0 l1
  have nb := sc_one b0 b1
  unfold pX pY pZ
  generalize S (tq * zl) = sl at *
  generalize C (tq * zl) = cl' at *
  generalize S (tq * zb) = sb at *
  generalize C (tq * zb) = cb' at *
  generalize se9 = se at *
  generalize ce9 = ce at *
  have sq : ∀ z : Rat, 0 ≤ z * z := fun z => by rw [← rabs_sq]; exact Rat.mul_nonneg (rabs_nonneg z) (rabs_nonneg z)
  have hss := sq_le_sq (rabs_nonneg sb) hs
  rw [rabs_sq] at hss
  -- the cosine of the latitude
  have hcb : c0 ≤ rabs cb' := by
    have h : c0 * c0 ≤ rabs cb' * rabs cb' := by rw [rabs_sq]; grind
    have := (rabs_le.1 (sq_rabs (rabs_nonneg cb') h)).1
    exact this
  -- the whole is 1
  have s2 := sq sb
  have c2 := sq cb'
  have cc2 : cb' * cb' ≤ 1 + 1 / 100000000000 := by grind
  have g1 : rabs (cb' * cb' * (sl * sl + cl' * cl' - 1)) ≤ (1 + 1 / 100000000000) * (1 / 100000000000) := mul_rabs (rabs_le.2 ⟨cc2, by grind⟩) (rabs_le.2 cl)
  have g1 := rabs_le.1 g1
  have sl2 := sq sl
  have clq := sq cl'
  have h1 : cb' * sl * (cb' * sl) + sb * sb ≤ 1 + 1 / 10000000000 := by
    have m := Rat.mul_le_mul_of_nonneg_left (show sl * sl ≤ 1 + 1 / 100000000000 by grind) c2
    grind
  have h0 : 0 ≤ cb' * sl * (cb' * sl) + sb * sb := by have := sq (cb' * sl); grind
  have g2 : rabs ((cb' * sl * (cb' * sl) + sb * sb) * (se * se + ce * ce - 1)) ≤ (1 + 1 / 10000000000) * (1 / 100000000000) := mul_rabs (rabs_le.2 ⟨h1, by grind⟩) (rabs_le.2 ct)
  have g2 := rabs_le.1 g2
  obtain ⟨X, hX⟩ : ∃ X, cb' * cl' = X := ⟨_, rfl⟩
  obtain ⟨Y, hY⟩ : ∃ Y, cb' * sl * ce - sb * se = Y := ⟨_, rfl⟩
  obtain ⟨Z, hZ⟩ : ∃ Z, cb' * sl * se + sb * ce = Z := ⟨_, rfl⟩
  have tot : X * X + Y * Y + Z * Z = (cb' * cb' + sb * sb) + cb' * cb' * (sl * sl + cl' * cl' - 1) + (cb' * sl * (cb' * sl) + sb * sb) * (se * se + ce * ce - 1) := by rw [← hX, ← hY, ← hZ]; grind
  have one1 : X * X + Y * Y + Z * Z ≤ 1 + 1 / 10000000000 := by rw [tot]; grind
  have one2 : 1 - 1 / 10000000000 ≤ X * X + Y * Y + Z * Z := by rw [tot]; grind
  rw [hX, hY, hZ]
  have x2 := sq X
  have y2 := sq Y
  have z2 := sq Z
  have bdd : ∀ {a : Rat}, a * a ≤ 1 + 1 / 10000000000 → rabs a ≤ 1 + 1 / 1000000000 := fun {a} h => sq_rabs (by decide +kernel) (Rat.le_trans h (by decide +kernel))
  have bX := bdd (show X * X ≤ 1 + 1 / 10000000000 by clear bdd; grind)
  have bY := bdd (show Y * Y ≤ 1 + 1 / 10000000000 by clear bdd; grind)
  have bZ := bdd (show Z * Z ≤ 1 + 1 / 10000000000 by clear bdd; grind)
  clear bdd tot
  refine ⟨?_, by grind, by grind, bZ⟩
  -- what is across is small
  have zz : rabs Z ≤ rabs cb' * (1 + 1 / 100000000000) * se + rabs sb * ce := by
    have a1 := mul_rabs (a := cb') (b := sl) Rat.le_refl nl.1
    have a2 : rabs (cb' * sl * se) ≤ rabs cb' * (1 + 1 / 100000000000) * se := by
      have := mul_rabs (a := cb' * sl) (b := se) a1 (show rabs se ≤ se by rw [rabs_pos (by grind)]; exact Rat.le_refl)
      exact this
    have a3 := mul_rabs (a := sb) (b := ce) Rat.le_refl (show rabs ce ≤ ce by rw [rabs_pos (by grind)]; exact Rat.le_refl)
    have a2 := rabs_le.1 a2
    have a3 := rabs_le.1 a3
    rw [← hZ]
    exact rabs_le.2 ⟨by clear sq hss g1 g2 one1 one2; grind, by clear sq hss g1 g2 one1 one2; grind⟩
  have cu : rabs cb' ≤ 1 + 1 / 100000000000 := nb.2
  have c0' := rabs_nonneg cb'
  have s0' := rabs_nonneg sb
  obtain ⟨u, hu⟩ : ∃ u, rabs cb' = u := ⟨_, rfl⟩
  obtain ⟨v, hv⟩ : ∃ v, rabs sb = v := ⟨_, rfl⟩
  have uu : u * u = cb' * cb' := by rw [← hu, rabs_sq]
  have vv : v * v = sb * sb := by rw [← hv, rabs_sq]
  rw [hu] at zz hcb cu c0'
  rw [hv] at zz hs s0'
  have zz2 : rabs Z ≤ u * se + v * ce + 1 / 10000000000 := by
    have : u * (1 + 1 / 100000000000) * se ≤ u * se + 1 / 10000000000 := by
      have m := mul_rabs (a := u) (b := se) (A := 2) (B := 1) (rabs_le.2 ⟨by grind, by grind⟩) (rabs_le.2 ⟨by grind, by grind⟩)
      have m := rabs_le.1 m
      grind
    grind
  have w0 : 0 ≤ u * se + v * ce := by
    have m1 := Rat.mul_nonneg c0' (show 0 ≤ se by grind)
    have m2 := Rat.mul_nonneg s0' (show 0 ≤ ce by grind)
    grind
  have w1 : u * se + v * ce ≤ 2 := by
    have m1 := Rat.mul_le_mul_of_nonneg_left (show se ≤ 4/10 by grind) c0'
    have m2 := Rat.mul_le_mul_of_nonneg_left (show ce ≤ 92/100 by grind) s0'
    have v1 : v ≤ 1 + 1 / 100000000000 := by rw [← hv]; exact nb.1
    grind
  have zq : Z * Z ≤ (u * se + v * ce) * (u * se + v * ce) + 5 / 10000000000 := by
    have h := sq_le_sq (rabs_nonneg Z) zz2
    rw [rabs_sq] at h
    generalize u * se + v * ce = w at *
    grind
  have rr : r0 ≤ u * ce - v * se := by
    have m1 := Rat.mul_le_mul_of_nonneg_left (show 9174/10000 ≤ ce by grind) c0'
    have m2 := Rat.mul_le_mul_of_nonneg_left (show se ≤ 3978/10000 by grind) s0'
    grind
  have rq := sq_le_sq hr0 rr
  have ident : (u * se + v * ce) * (u * se + v * ce) + (u * ce - v * se) * (u * ce - v * se) = (u * u + v * v) * (se * se + ce * ce) := by grind
  have pr : (u * u + v * v) * (se * se + ce * ce) ≤ (1 + 1 / 100000000000) * (1 + 1 / 100000000000) := by
    rw [uu, vv]
    have a : cb' * cb' + sb * sb ≤ 1 + 1 / 100000000000 := by grind
    have a0 : 0 ≤ cb' * cb' + sb * sb := by grind
    have b : se * se + ce * ce ≤ 1 + 1 / 100000000000 := by grind
    have m1 := Rat.mul_le_mul_of_nonneg_left b a0
    have m2 := Rat.mul_le_mul_of_nonneg_right a (show (0 : Rat) ≤ 1 + 1 / 100000000000 by grind)
    grind
  generalize (u * se + v * ce) * (u * se + v * ce) = W at *
  generalize (u * ce - v * se) * (u * ce - v * se) = V at *
  generalize (u * u + v * v) * (se * se + ce * ce) = N at *
  generalize r0 * r0 = R at *
  generalize Z * Z = ZZ at *
  generalize X * X + Y * Y = XY at *
  clear zz zz2 w0 w1 rr uu vv hu hv bX bY bZ hX hY hZ sq hss h1 h0 g1 g2 cl cb ct nl nb hs hsc hr
  grind
end Go.Proofs.YtaaiamcpdicnhaaDoor
