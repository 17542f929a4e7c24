/- A shadow's direction: the test of the reference at the turned interval. No program in sight. -/
import Derived.Test.YtcgnhnmigmdalaaGreatDoorPlainTgt
set_option linter.unusedVariables false
set_option linter.unusedSimpArgs false
namespace Go.Proofs.YtcgnhnmigmdalaaGreatDoor
open Ieee
theorem sun_radeS {t m : Int} (h : SLon t m) : RaDeS (sraLo t) (sraHi t) (sdeLo t) (sdeHi t) (pX (zA (argU m)) (zA (argU 0))) (pY (zA (argU m)) (zA (argU 0))) (pZ (zA (argU m)) (zA (argU 0))) := by
  obtain ⟨f0, f1, -, f3, -, -, f6⟩ := sun_facts t
  obtain ⟨⟨D0, E, L, H, hv⟩, ho, -, -⟩ := c_Equator_all (l0 := sunLo t) (l1 := sunHi t) (b0 := 0) (b1 := 0) f6 (by omega) (by omega) (by decide) (by decide) (by decide) (sun_box h).off
  have hw : raHi (sunLo t) (sunHi t) 0 0 - raLo (sunLo t) (sunHi t) 0 0 ≤ 10000 := sun_ra hv h
  exact eq_radeS (B := 0) (sun_pt h) zb_zero hv ho (by omega) (by decide) (by decide) (by rw [sov_zero.1]; decide) (by rw [sov_zero.2]; decide)
theorem look_allS (lon lat t : Int) {a0 a1 d0 d1 x y z : Int} {X Y Z : Rat} (h : RaDeS a0 a1 d0 d1 X Y Z) (hx : rabs ((x : Rat) - uQ * X) ≤ 10000000) (hy : rabs ((y : Rat) - uQ * Y) ≤ 10000000) (hz : rabs ((z : Rat) - uQ * Z) ≤ 10000000) :
    ∃ ue un : Rat, InU (ea0 (lkH0 lon t a1) (lkH1 lon t a0) d0 d1) (ea1 (lkH0 lon t a1) (lkH1 lon t a0) d0 d1) ue (55/100) ∧ InU (no0 lat (lkH0 lon t a1) (lkH1 lon t a0) d0 d1) (no1 lat (lkH0 lon t a1) (lkH1 lon t a0) d0 d1) un (61/100) ∧ rabs ((abSide (refSid lon t) x y : Rat) - uQ * ue) ≤ 40000000 ∧ rabs ((abNo (refSid lon t) lat x y z : Rat) - uQ * un) ≤ 40000000 := by
  have n := rabs_le.1 h.n
  have sq : ∀ z : Rat, 0 ≤ z * z := fun z => by rw [← rabs_sq]; exact Rat.mul_nonneg (rabs_nonneg z) (rabs_nonneg z)
  have sx := sq X
  have sy := sq Y
  have sz := sq Z
  have bX : rabs X ≤ 1 + 1 / 1000000 := sq_rabs (by grind) (by grind)
  have bY : rabs Y ≤ 1 + 1 / 1000000 := sq_rabs (by grind) (by grind)
  have bZ : rabs Z ≤ 1 + 1 / 1000000 := sq_rabs (by grind) (by grind)
  have ok := sid_ok lon t
  obtain ⟨z0, z1⟩ := zA_bd ok.a0 ok.a1
  have ct := circT z0 z1
  have c1 : rabs (C (tq * zA (refSid lon t)) * C (tq * zA (refSid lon t)) + S (tq * zA (refSid lon t)) * S (tq * zA (refSid lon t)) - 1) ≤ 1 / 1000000000 := by
    rw [show C (tq * zA (refSid lon t)) * C (tq * zA (refSid lon t)) + S (tq * zA (refSid lon t)) * S (tq * zA (refSid lon t)) - 1 = S (tq * zA (refSid lon t)) * S (tq * zA (refSid lon t)) + C (tq * zA (refSid lon t)) * C (tq * zA (refSid lon t)) - 1 by grind]; grind
  have c2 : rabs (-S (tq * zA (refSid lon t)) * -S (tq * zA (refSid lon t)) + C (tq * zA (refSid lon t)) * C (tq * zA (refSid lon t)) - 1) ≤ 1 / 1000000000 := by
    rw [show -S (tq * zA (refSid lon t)) * -S (tq * zA (refSid lon t)) + C (tq * zA (refSid lon t)) * C (tq * zA (refSid lon t)) - 1 = S (tq * zA (refSid lon t)) * S (tq * zA (refSid lon t)) + C (tq * zA (refSid lon t)) * C (tq * zA (refSid lon t)) - 1 by grind]; grind
  have bO : rabs (vOut (zA (refSid lon t)) X Y) ≤ 1 + 1 / 1000000 := cauchy c1 (by grind) (by grind)
  have bS : rabs (vSide (zA (refSid lon t)) X Y) ≤ 1 + 1 / 1000000 := by
    have := cauchy (s := -S (tq * zA (refSid lon t))) (c := C (tq * zA (refSid lon t))) (a := X) (b := Y) (R := 1 + 1 / 1000000) c2 (by grind) (by grind)
    unfold vSide
    rw [show C (tq * zA (refSid lon t)) * Y - S (tq * zA (refSid lon t)) * X = -S (tq * zA (refSid lon t)) * X + C (tq * zA (refSid lon t)) * Y by grind]; exact this
  have vv : vOut (zA (refSid lon t)) X Y * vOut (zA (refSid lon t)) X Y + vSide (zA (refSid lon t)) X Y * vSide (zA (refSid lon t)) X Y ≤ (X * X + Y * Y) * (1 + 1 / 1000000000) := by
    have ct' := rabs_le.1 ct
    have m := Rat.mul_le_mul_of_nonneg_right (show S (tq * zA (refSid lon t)) * S (tq * zA (refSid lon t)) + C (tq * zA (refSid lon t)) * C (tq * zA (refSid lon t)) ≤ 1 + 1 / 1000000000 by grind) (show 0 ≤ X * X + Y * Y by grind)
    unfold vOut vSide
    grind
  have so := sq (vOut (zA (refSid lon t)) X Y)
  have ss := sq (vSide (zA (refSid lon t)) X Y)
  obtain ⟨cl, -, -⟩ := siU_circ lat
  have cl1 : rabs (siU lat * siU lat + coU lat * coU lat - 1) ≤ 1 / 1000000000 := by grind
  have cl2 : rabs (coU lat * coU lat + -siU lat * -siU lat - 1) ≤ 1 / 1000000000 := by rw [show coU lat * coU lat + -siU lat * -siU lat - 1 = siU lat * siU lat + coU lat * coU lat - 1 by grind]; exact cl1
  have bU : rabs (tUp lat Z (vOut (zA (refSid lon t)) X Y)) ≤ 1 + 1 / 1000000 := cauchy cl1 (by grind) (by grind)
  have bN : rabs (tNo lat Z (vOut (zA (refSid lon t)) X Y)) ≤ 1 + 1 / 1000000 := by
    have := cauchy (a := Z) (b := vOut (zA (refSid lon t)) X Y) (R := 1 + 1 / 1000000) cl2 (by grind) (by grind)
    unfold tNo
    rw [show coU lat * Z - siU lat * vOut (zA (refSid lon t)) X Y = coU lat * Z + -siU lat * vOut (zA (refSid lon t)) X Y by grind]; exact this
  have ab := ab_ok (lat := lat) ok.a0 ok.a1 hx hy hz bX bY bZ bO
  obtain ⟨za, zd, hd, ka, kd⟩ := dirS_of h
  obtain ⟨i1, i2, i3⟩ := look_nearS lat hd ok.o h.oa h.od z0 z1 (sid_ang lon t) ka kd
  have ao := ab.o
  have asd := ab.s
  have au := ab.u
  have an := ab.n
  exact ⟨_, _, i2, i3, by grind, an⟩
theorem sun_lookS (lon lat : Int) {t m : Int} (h : SLon t m) :
    ∃ ue un : Rat, InU (ea0 (lkH0 lon t (sraHi t)) (lkH1 lon t (sraLo t)) (sdeLo t) (sdeHi t)) (ea1 (lkH0 lon t (sraHi t)) (lkH1 lon t (sraLo t)) (sdeLo t) (sdeHi t)) ue (55/100) ∧ InU (no0 lat (lkH0 lon t (sraHi t)) (lkH1 lon t (sraLo t)) (sdeLo t) (sdeHi t)) (no1 lat (lkH0 lon t (sraHi t)) (lkH1 lon t (sraLo t)) (sdeLo t) (sdeHi t)) un (61/100) ∧ rabs ((abSide (refSid lon t) (dirX m 0) (dirY m 0) : Rat) - uQ * ue) ≤ 40000000 ∧ rabs ((abNo (refSid lon t) lat (dirX m 0) (dirY m 0) (dirZ m 0) : Rat) - uQ * un) ≤ 40000000 :=
  look_allS lon lat t (sun_radeS h) (dir_ok m 0).x (dir_ok m 0).y (dir_ok m 0).z
theorem lin_lo2 {s xl xh x ε : Rat} (h0 : 0 ≤ ε) (h1 : xl - ε ≤ x) (h2 : x ≤ xh + ε) : s * xl - rabs s * ε ≤ s * x ∨ s * xh - rabs s * ε ≤ s * x := by
  have hs := rabs_le.1 (Rat.le_refl : rabs s ≤ rabs s)
  have e0 := Rat.mul_le_mul_of_nonneg_right hs.1 h0
  have e1 := Rat.mul_le_mul_of_nonneg_right hs.2 h0
  by_cases h : 0 ≤ s
  · left
    have m := Rat.mul_le_mul_of_nonneg_left h1 h
    grind
  · right
    have m := Rat.mul_le_mul_of_nonneg_left h2 (show 0 ≤ -s by grind)
    grind
theorem rect_lin2 {p q xl xh yl yh x y β ε δ K : Rat} (h0 : 0 ≤ ε) (h0' : 0 ≤ δ) (hk : rabs p * ε + rabs q * δ ≤ K) (h1 : -β ≤ p * xl + q * yl) (h2 : -β ≤ p * xl + q * yh) (h3 : -β ≤ p * xh + q * yl) (h4 : -β ≤ p * xh + q * yh)
    (x1 : xl - ε ≤ x) (x2 : x ≤ xh + ε) (y1 : yl - δ ≤ y) (y2 : y ≤ yh + δ) : -β - K ≤ p * x + q * y := by
  rcases lin_lo2 (s := p) h0 x1 x2 with u | u <;> rcases lin_lo2 (s := q) h0' y1 y2 with v | v <;> grind
theorem cs_bd {p q a b K : Rat} (K0 : 0 ≤ K) (h : (p * p + q * q) * (a * a + b * b) ≤ K * K) : rabs p * a + rabs q * b ≤ K := by
  have e1 := rabs_sq p
  have e2 := rabs_sq q
  rw [← e1, ← e2] at h
  generalize rabs p = x at *
  generalize rabs q = y at *
  have d := rabs_sq (x * b - y * a)
  have d2 := Rat.mul_nonneg (rabs_nonneg (x * b - y * a)) (rabs_nonneg (x * b - y * a))
  by_cases c : x * a + y * b ≤ K
  · exact c
  · exfalso
    have lt : 0 < (x * a + y * b - K) * (x * a + y * b + K) := Rat.mul_pos (by grind) (by grind)
    grind
theorem int_le {a : Int} (a0 : 0 ≤ a) (a1 : a ≤ 1000000000) : (0 : Rat) ≤ (a : Rat) ∧ (a : Rat) ≤ 1000000000 := by
  have h := icast a1
  have e : ((1000000000 : Int) : Rat) = 1000000000 := rfl
  rw [e] at h
  exact ⟨by exact_mod_cast a0, h⟩
theorem r_a {z : Rat} (h : -(2/10) - 87/100 ≤ z) : -(11/10) ≤ z := by grind
theorem r_c {z : Rat} (h : -0 - 1644/1000 ≤ z) : -(1644/1000) ≤ z := by grind
structure NearW (a h : Int) (x y : Rat) : Prop where
  c1 : -(15/10) ≤ C (tq * a) * y - S (tq * a) * x
  c2 : -(15/10) ≤ S (tq * h) * x - C (tq * h) * y
  c3 : -(165/100) ≤ (C (tq * a) + C (tq * h)) * x + (S (tq * a) + S (tq * h)) * y
theorem rect_nearW {a h : Int} (a0 : 0 ≤ a) (a1 : a < 1000000000) (h0 : 0 ≤ h) (h1 : h < 1000000000) {xl xh yl yh x y : Rat} (k1 : Between a h xl yl) (k2 : Between a h xl yh) (k3 : Between a h xh yl) (k4 : Between a h xh yh)
    (bx1 : rabs xl ≤ 1000000000) (bx2 : rabs xh ≤ 1000000000) (by1 : rabs yl ≤ 1000000000) (by2 : rabs yh ≤ 1000000000) (x1 : xl - 61/100 ≤ x) (x2 : x ≤ xh + 61/100) (y1 : yl - 55/100 ≤ y) (y2 : y ≤ yh + 55/100) :
    -(11/10) ≤ C (tq * a) * y - S (tq * a) * x ∧ -(11/10) ≤ S (tq * h) * x - C (tq * h) * y ∧ -(1644/1000) ≤ (C (tq * a) + C (tq * h)) * x + (S (tq * a) + S (tq * h)) * y := by
  have ra := ang_range a0 a1
  have rh := ang_range h0 h1
  rw [angU_tq] at ra rh
  have qa := SC_bd ra.2.2
  have qh := SC_bd rh.2.2
  have ca := rabs_le.1 (circT (int_le a0 (by omega)).1 (int_le a0 (by omega)).2)
  have ch := rabs_le.1 (circT (int_le h0 (by omega)).1 (int_le h0 (by omega)).2)
  obtain ⟨k11, k12, k13⟩ := k1
  obtain ⟨k21, k22, k23⟩ := k2
  obtain ⟨k31, k32, k33⟩ := k3
  obtain ⟨k41, k42, k43⟩ := k4
  clear ra rh
  have w1 : ∀ {p q : Rat}, rabs p ≤ 1000000000 → rabs q ≤ 1000000000 → -(2/10) ≤ -(1 / 10000000000 * (rabs p + rabs q)) := by
    intro p q h1 h2; grind
  have e1 : ∀ a b c d : Rat, a * b - c * d = -c * d + a * b := fun a b c d => by grind
  have e2 : ∀ a b c d : Rat, a * b - c * d = a * b + -c * d := fun a b c d => by grind
  generalize S (tq * a) = sa at *
  generalize C (tq * a) = ca' at *
  generalize S (tq * h) = sh at *
  generalize C (tq * h) = ch' at *
  refine ⟨?_, ?_, ?_⟩
  · have hs := cs_bd (p := -sa) (q := ca') (a := 61/100) (b := 55/100) (K := 87/100) (by decide +kernel) (by grind)
    have r := rect_lin2 (p := -sa) (q := ca') (β := 2/10) (ε := 61/100) (δ := 55/100) (K := 87/100) (by decide +kernel) (by decide +kernel) hs (by rw [← e1]; exact Rat.le_trans (w1 bx1 by1) k11) (by rw [← e1]; exact Rat.le_trans (w1 bx1 by2) k21) (by rw [← e1]; exact Rat.le_trans (w1 bx2 by1) k31) (by rw [← e1]; exact Rat.le_trans (w1 bx2 by2) k41) x1 x2 y1 y2
    rw [e1]; exact r_a r
  · have hs := cs_bd (p := sh) (q := -ch') (a := 61/100) (b := 55/100) (K := 87/100) (by decide +kernel) (by grind)
    have r := rect_lin2 (p := sh) (q := -ch') (β := 2/10) (ε := 61/100) (δ := 55/100) (K := 87/100) (by decide +kernel) (by decide +kernel) hs (by rw [← e2]; exact Rat.le_trans (w1 bx1 by1) k12) (by rw [← e2]; exact Rat.le_trans (w1 bx1 by2) k22) (by rw [← e2]; exact Rat.le_trans (w1 bx2 by1) k32) (by rw [← e2]; exact Rat.le_trans (w1 bx2 by2) k42) x1 x2 y1 y2
    rw [e2]; exact r_a r
  · have dd := rabs_sq (ca' - ch')
    have d2 := Rat.mul_nonneg (rabs_nonneg (ca' - ch')) (rabs_nonneg (ca' - ch'))
    have de := rabs_sq (sa - sh)
    have d3 := Rat.mul_nonneg (rabs_nonneg (sa - sh)) (rabs_nonneg (sa - sh))
    have hs := cs_bd (p := ca' + ch') (q := sa + sh) (a := 61/100) (b := 55/100) (K := 1644/1000) (by decide +kernel) (by clear k11 k12 k13 k21 k22 k23 k31 k32 k33 k41 k42 k43 w1 e1 e2; grind)
    have r := rect_lin2 (p := ca' + ch') (q := sa + sh) (β := 0) (ε := 61/100) (δ := 55/100) (K := 1644/1000) (by decide +kernel) (by decide +kernel) hs (by rw [show -(0 : Rat) = 0 by decide +kernel]; exact k13) (by rw [show -(0 : Rat) = 0 by decide +kernel]; exact k23) (by rw [show -(0 : Rat) = 0 by decide +kernel]; exact k33) (by rw [show -(0 : Rat) = 0 by decide +kernel]; exact k43) x1 x2 y1 y2
    exact r_c r
/-- Half a turn on, sine and cosine change their signs. -/
theorem half_turn {a : Int} (a0 : 0 ≤ a) (a1 : a < 1000000000) : rabs (S (tq * (((a + 500000000) % 1000000000 : Int) : Rat)) + S (tq * a)) ≤ 2 / 10000000000000 ∧ rabs (C (tq * (((a + 500000000) % 1000000000 : Int) : Rat)) + C (tq * a)) ≤ 2 / 10000000000000 := by
  have ra := ang_range a0 a1
  rw [angU_tq] at ra
  have q := SC_bd ra.2.2
  obtain ⟨p1, p2, -⟩ := at_pi
  have hp : rabs piQ ≤ 16/5 := by have := pi_num; exact rabs_le.2 ⟨by grind, by grind⟩
  have e5 : tq * 500000000 = piQ := by decide +kernel
  have m1 := rabs_le.1 (mul_rabs q.1 p2)
  have m2 := rabs_le.1 (mul_rabs q.2 p1)
  have m3 := rabs_le.1 (mul_rabs q.2 p2)
  have m4 := rabs_le.1 (mul_rabs q.1 p1)
  by_cases h : a < 500000000
  · have e : (((a + 500000000) % 1000000000 : Int) : Rat) = (a : Rat) + 500000000 := by
      rw [show (a + 500000000) % 1000000000 = a + 500000000 by omega]; push_cast; rfl
    rw [e, show tq * ((a : Rat) + 500000000) = tq * a + piQ by rw [← e5]; grind]
    have s := rabs_le.1 (sin_add ra.2.2 hp)
    have c := rabs_le.1 (cos_add ra.2.2 hp)
    constructor <;> rw [rabs_le] <;> constructor <;> grind
  · have e : (((a + 500000000) % 1000000000 : Int) : Rat) = (a : Rat) - 500000000 := by
      rw [show (a + 500000000) % 1000000000 = a - 500000000 by omega]; push_cast; rfl
    rw [e, show tq * ((a : Rat) - 500000000) = tq * a - piQ by rw [← e5]; grind]
    have s := rabs_le.1 (sin_sub ra.2.2 hp)
    have c := rabs_le.1 (cos_sub ra.2.2 hp)
    constructor <;> rw [rabs_le] <;> constructor <;> grind
theorem inArc_nearW {a h u v : Int} {x y : Rat} (a0 : 0 ≤ a) (a1 : a < 1000000000) (h0 : 0 ≤ h) (h1 : h < 1000000000) (hb : NearW a h x y) (hu : rabs ((u : Rat) - uQ * (y / 1000000000)) ≤ 40000000) (hv : rabs ((v : Rat) - uQ * (x / 1000000000)) ≤ 40000000) (bu : rabs (u : Rat) ≤ 1160000000000000000) (bv : rabs (v : Rat) ≤ 1160000000000000000) : InArcOk a h u v := by
  obtain ⟨s1, s2⟩ := sc_ang a0 a1
  obtain ⟨s3, s4⟩ := sc_ang h0 h1
  rw [angU_tq] at s1 s2 s3 s4
  have ra := ang_range a0 a1
  have rh := ang_range h0 h1
  rw [angU_tq] at ra rh
  have qa := SC_bd ra.2.2
  have qh := SC_bd rh.2.2
  clear ra rh
  have g1 := rabs_le.1 (fm_sc s2 bu Rat.le_refl)
  have g2 := rabs_le.1 (fm_sc s1 bv Rat.le_refl)
  have g3 := rabs_le.1 (fm_sc s3 bv Rat.le_refl)
  have g4 := rabs_le.1 (fm_sc s4 bu Rat.le_refl)
  have g5 := rabs_le.1 (fm_sc s2 bv Rat.le_refl)
  have g6 := rabs_le.1 (fm_sc s1 bu Rat.le_refl)
  have g7 := rabs_le.1 (fm_sc s4 bv Rat.le_refl)
  have g8 := rabs_le.1 (fm_sc s3 bu Rat.le_refl)
  have m1 := rabs_le.1 (mul_rabs qa.2 hu)
  have m2 := rabs_le.1 (mul_rabs qa.1 hv)
  have m3 := rabs_le.1 (mul_rabs qh.1 hv)
  have m4 := rabs_le.1 (mul_rabs qh.2 hu)
  have m5 := rabs_le.1 (mul_rabs qa.2 hv)
  have m6 := rabs_le.1 (mul_rabs qa.1 hu)
  have m7 := rabs_le.1 (mul_rabs qh.2 hv)
  have m8 := rabs_le.1 (mul_rabs qh.1 hu)
  obtain ⟨b1, b2, b3⟩ := hb
  clear s1 s2 s3 s4 hu hv bu bv qa qh
  have hU : uQ = 1152921504606846976 := rfl
  simp only [hU] at m1 m2 m3 m4 m5 m6 m7 m8
  clear hU
  generalize S (tq * a) = sa at *
  generalize C (tq * a) = ca at *
  generalize S (tq * h) = sh at *
  generalize C (tq * h) = ch at *
  have r : ∀ {p q : Int}, (p : Rat) ≤ (q : Rat) → p ≤ q := fun h => Rat.intCast_le_intCast.1 h
  have r' : ∀ {p q : Int}, (p : Rat) < (q : Rat) → p < q := fun h => by exact_mod_cast h
  have d1 : ((-2147483648 : Int) : Rat) = -2147483648 := rfl
  refine ⟨r ?_, r ?_, r' ?_⟩
  · rw [d1]; push_cast; clear g3 g4 g5 g6 g7 g8 m3 m4 m5 m6 m7 m8 b2 b3 r r' d1; grind
  · rw [d1]; push_cast; clear g1 g2 g5 g6 g7 g8 m1 m2 m5 m6 m7 m8 b1 b3 r r' d1; grind
  · rw [d1]; push_cast; clear g1 g2 g3 g4 m1 m2 m3 m4 b1 b2 r r' d1; grind
/-- The opposite direction passes the test at the interval that is turned by a half. -/
theorem turned_ok {a h u v : Int} (a0 : 0 ≤ a) (a1 : a < 1000000000) (h0 : 0 ≤ h) (h1 : h < 1000000000) {xl xh yl yh ux uy : Rat} (k1 : Between a h xl yl) (k2 : Between a h xl yh) (k3 : Between a h xh yl) (k4 : Between a h xh yh)
    (bx1 : rabs xl ≤ 1000000000) (bx2 : rabs xh ≤ 1000000000) (by1 : rabs yl ≤ 1000000000) (by2 : rabs yh ≤ 1000000000) (x1 : xl - 61/100 ≤ 1000000000 * ux) (x2 : 1000000000 * ux ≤ xh + 61/100) (y1 : yl - 55/100 ≤ 1000000000 * uy) (y2 : 1000000000 * uy ≤ yh + 55/100)
    (hu : rabs ((u : Rat) - uQ * uy) ≤ 40000000) (hv : rabs ((v : Rat) - uQ * ux) ≤ 40000000) (bu : rabs (u : Rat) ≤ 1160000000000000000) (bv : rabs (v : Rat) ≤ 1160000000000000000) : InArcOk ((a + 500000000) % 1000000000) ((h + 500000000) % 1000000000) (-u) (-v) := by
  obtain ⟨n1, n2, n3⟩ := rect_nearW a0 a1 h0 h1 k1 k2 k3 k4 bx1 bx2 by1 by2 x1 x2 y1 y2
  obtain ⟨sa, ca⟩ := half_turn a0 a1
  obtain ⟨sh, ch⟩ := half_turn h0 h1
  have qx := rabs_le.1 bx1
  have qx2 := rabs_le.1 bx2
  have qy := rabs_le.1 by1
  have qy2 := rabs_le.1 by2
  have X : rabs (1000000000 * ux) ≤ 1000000001 := rabs_le.2 ⟨by grind, by grind⟩
  have Y : rabs (1000000000 * uy) ≤ 1000000001 := rabs_le.2 ⟨by grind, by grind⟩
  have m1 := rabs_le.1 (mul_rabs ca Y)
  have m2 := rabs_le.1 (mul_rabs sa X)
  have m3 := rabs_le.1 (mul_rabs sh X)
  have m4 := rabs_le.1 (mul_rabs ch Y)
  have m5 := rabs_le.1 (mul_rabs ca X)
  have m6 := rabs_le.1 (mul_rabs sa Y)
  have m7 := rabs_le.1 (mul_rabs ch X)
  have m8 := rabs_le.1 (mul_rabs sh Y)
  refine inArc_nearW (x := -(1000000000 * ux)) (y := -(1000000000 * uy)) (by omega) (by omega) (by omega) (by omega) ⟨?_, ?_, ?_⟩ ?_ ?_ ?_ ?_
  all_goals clear k1 k2 k3 k4 sa ca sh ch
  · clear m3 m4 m5 m6 m7 m8 n2 n3 hu hv bu bv; grind
  · clear m1 m2 m5 m6 m7 m8 n1 n3 hu hv bu bv; grind
  · clear m1 m2 m3 m4 n1 n2 hu hv bu bv; grind
  · have hu := rabs_le.1 hu
    rw [show -(1000000000 * uy) / 1000000000 = -uy by grind, rabs_le]
    push_cast
    constructor <;> grind
  · have hv := rabs_le.1 hv
    rw [show -(1000000000 * ux) / 1000000000 = -ux by grind, rabs_le]
    push_cast
    constructor <;> grind
  · push_cast; rw [rabs_neg]; exact bu
  · push_cast; rw [rabs_neg]; exact bv
end Go.Proofs.YtcgnhnmigmdalaaGreatDoor
