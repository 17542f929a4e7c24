/- The intervals of place.look hold the parts of every direction whose angles they hold. No program in sight. -/
import Derived.Test.YtjkhoepohiafeaaDoorPlainLook
import Derived.Test.YtjkhoepohiafeaaDoorPlainHead
set_option linter.unusedVariables false
set_option linter.unusedSimpArgs false
namespace Go.Proofs.YtjkhoepohiafeaaDoor
open Ieee
theorem sc_neg_turn {θ : Rat} (h0 : -1000000000 ≤ θ) (h1 : θ ≤ 0) : rabs (S (tq * (θ + 1000000000)) - S (tq * θ)) ≤ 1 / 1000000000000 ∧ rabs (C (tq * (θ + 1000000000)) - C (tq * θ)) ≤ 1 / 1000000000000 := by
  have hp := pi_num
  have q := tq_le h0
  have q' := tq_le h1
  have z : tq * 0 = 0 := by grind
  rw [z] at q'
  have e : tq * (θ + 1000000000) = tq * θ + 2 * piQ := by rw [← tq_turn]; grind
  have t1 : tq * 500000000 = piQ := tq_num.2.2.2.2.2.2.2
  by_cases h : -500000000 ≤ θ
  · have k := tq_le h
    have t2 : tq * -500000000 = -piQ := by rw [← t1]; grind
    rw [t2] at k
    rw [e]
    exact sin_turn (x := tq * θ) (rabs_le.2 ⟨by grind, by grind⟩)
  · have k := tq_le (show θ + 1000000000 ≤ 500000000 by grind)
    have k0 := tq_le (show 0 ≤ θ + 1000000000 by grind)
    rw [z] at k0
    rw [t1] at k
    obtain ⟨a, b⟩ := sin_turn (x := -(tq * (θ + 1000000000))) (rabs_le.2 ⟨by grind, by grind⟩)
    rw [show -(tq * (θ + 1000000000)) + 2 * piQ = -(tq * θ) by rw [e]; grind, S_neg, S_neg] at a
    rw [show -(tq * (θ + 1000000000)) + 2 * piQ = -(tq * θ) by rw [e]; grind, C_neg, C_neg] at b
    have a := rabs_le.1 a
    have b := rabs_le.1 b
    constructor
    · rw [rabs_le]; constructor <;> grind
    · rw [rabs_le]; constructor <;> grind
/-- The sine at an angle from minus a turn to a turn, and at the one from 0 on. -/
theorem sc_any {θ z : Rat} {j : Int} (h0 : -1000000000 ≤ θ) (h1 : θ ≤ 1000000000) (z0 : 0 ≤ z) (z1 : z ≤ 1000000000) (e : z = θ + (j : Rat) * 1000000000) : rabs (S (tq * z) - S (tq * θ)) ≤ 4 / 1000000000000 ∧ rabs (C (tq * z) - C (tq * θ)) ≤ 4 / 1000000000000 := by
  have zz : rabs (0 : Rat) ≤ 0 := by decide +kernel
  by_cases h : 0 ≤ θ
  · have k := sc_turns (z := z) (b := θ) (j := j) (μ := 0) (by grind) (by grind) (by grind) (by grind) (by rw [e, show θ + (j : Rat) * 1000000000 - θ - (j : Rat) * 1000000000 = 0 by grind]; exact zz) (by grind)
    exact ⟨by have := k.1; grind, by have := k.2; grind⟩
  · have k := sc_turns (z := z) (b := θ + 1000000000) (j := j - 1) (μ := 0) (by grind) (by grind) (by grind) (by grind) (by rw [e]; push_cast; rw [show θ + (j : Rat) * 1000000000 - (θ + 1000000000) - ((j : Rat) - 1) * 1000000000 = 0 by grind]; exact zz) (by grind)
    obtain ⟨n1, n2⟩ := sc_neg_turn h0 (by grind)
    have k1 := rabs_le.1 k.1
    have k2 := rabs_le.1 k.2
    have n1 := rabs_le.1 n1
    have n2 := rabs_le.1 n2
    exact ⟨rabs_le.2 ⟨by grind, by grind⟩, rabs_le.2 ⟨by grind, by grind⟩⟩
/-- The sine and the cosine of a difference. -/
theorem sc_minus {a z h : Rat} {j : Int} (a0 : 0 ≤ a) (a1 : a ≤ 1000000000) (z0 : 0 ≤ z) (z1 : z ≤ 1000000000) (h0 : 0 ≤ h) (h1 : h ≤ 1000000000) (e : h = a - z + (j : Rat) * 1000000000) :
    rabs (S (tq * h) - (S (tq * a) * C (tq * z) - C (tq * a) * S (tq * z))) ≤ 3 / 100000000000 ∧ rabs (C (tq * h) - (C (tq * a) * C (tq * z) + S (tq * a) * S (tq * z))) ≤ 3 / 100000000000 := by
  have hp := pi_num
  obtain ⟨z', jz, e1, b1, b2⟩ : ∃ (z' : Rat) (jz : Int), z = z' + (jz : Rat) * 1000000000 ∧ -500000000 ≤ z' ∧ z' ≤ 500000000 := by
    by_cases q : z ≤ 500000000
    · exact ⟨z, 0, by rw [show ((0 : Int) : Rat) = 0 from rfl]; grind, by grind, q⟩
    · exact ⟨z - 1000000000, 1, by rw [show ((1 : Int) : Rat) = 1 from rfl]; grind, by grind, by grind⟩
  obtain ⟨a', ja, e2, c1, c2⟩ : ∃ (a' : Rat) (ja : Int), a = a' + (ja : Rat) * 1000000000 ∧ -500000000 ≤ a' ∧ a' ≤ 500000000 := by
    by_cases q : a ≤ 500000000
    · exact ⟨a, 0, by rw [show ((0 : Int) : Rat) = 0 from rfl]; grind, by grind, q⟩
    · exact ⟨a - 1000000000, 1, by rw [show ((1 : Int) : Rat) = 1 from rfl]; grind, by grind, by grind⟩
  obtain ⟨s1, s2⟩ := sc_any (θ := z') (z := z) (by grind) (by grind) z0 z1 e1
  obtain ⟨s3, s4⟩ := sc_any (θ := a') (z := a) (by grind) (by grind) a0 a1 e2
  obtain ⟨s5, s6⟩ := sc_any (θ := a' - z') (z := h) (j := j + ja - jz) (by grind) (by grind) h0 h1 (by push_cast; grind)
  have t1 : tq * 500000000 = piQ := tq_num.2.2.2.2.2.2.2
  have t2 : tq * -500000000 = -piQ := by rw [← t1]; grind
  have k1 := tq_le b1
  have k2 := tq_le b2
  have k3 := tq_le c1
  have k4 := tq_le c2
  rw [t1] at k2 k4
  rw [t2] at k1 k3
  have hz : rabs (tq * z') ≤ 16/5 := rabs_le.2 ⟨by grind, by grind⟩
  have ha : rabs (tq * a') ≤ 32/5 := rabs_le.2 ⟨by grind, by grind⟩
  have hz2 : rabs (-(tq * z')) ≤ 16/5 := by rw [rabs_neg]; exact hz
  have p1 := sin_sub ha hz
  have p2 := cos_add ha hz2
  rw [S_neg, C_neg] at p2
  have ee : tq * (a' - z') = tq * a' - tq * z' := by grind
  have ee2 : tq * a' + -(tq * z') = tq * a' - tq * z' := by grind
  rw [ee2] at p2
  rw [ee] at s5 s6
  have bz := SC_bd (y := tq * z') (by grind)
  have ba := sc_one a0 a1
  have m1 := rabs_le.1 (mul_rabs ba.1 s1)
  have m2 := rabs_le.1 (mul_rabs ba.1 s2)
  have m3 := rabs_le.1 (mul_rabs ba.2 s1)
  have m4 := rabs_le.1 (mul_rabs ba.2 s2)
  have m5 := rabs_le.1 (mul_rabs s3 bz.1)
  have m6 := rabs_le.1 (mul_rabs s3 bz.2)
  have m7 := rabs_le.1 (mul_rabs s4 bz.1)
  have m8 := rabs_le.1 (mul_rabs s4 bz.2)
  have s5 := rabs_le.1 s5
  have s6 := rabs_le.1 s6
  have p1 := rabs_le.1 p1
  have p2 := rabs_le.1 p2
  clear s1 s2 s3 s4 hz ha hz2 bz ba k1 k2 k3 k4 t1 t2 ee ee2 e1 e2 e
  generalize S (tq * a) = sa at *
  generalize C (tq * a) = ca at *
  generalize S (tq * z) = sz at *
  generalize C (tq * z) = cz at *
  generalize S (tq * a') = sa' at *
  generalize C (tq * a') = ca' at *
  generalize S (tq * z') = sz' at *
  generalize C (tq * z') = cz' at *
  constructor
  · rw [rabs_le]; constructor <;> grind
  · rw [rabs_le]; constructor <;> grind
theorem sine_in (a : Int) : InU (sineLo a) (sineHi a) (siU a) (1/1000) := by
  have h := sine_bd a
  have l := h.l1
  have u := h.h1
  unfold InU siU
  constructor <;> grind
theorem cosine_in (a : Int) : InU (cfL a) (cfH a) (coU a) (1/1000) := by
  have h := sine_in (a % 1000000000 + 250000000)
  have e : siU (a % 1000000000 + 250000000) = coU a := by unfold coU siU; rw [show (a % 1000000000 + 250000000) % 1000000000 = (a + 250000000) % 1000000000 by omega]
  rw [e] at h
  exact h
theorem siU_circ (a : Int) : rabs (siU a * siU a + coU a * coU a - 1) ≤ 3 / 100000000000 ∧ rabs (siU a) ≤ 1 + 1 / 100000000000 ∧ rabs (coU a) ≤ 1 + 2 / 100000000000 := by
  have hs := siU_b a
  have hc := coU_b a
  obtain ⟨b0, b1⟩ := emod_bd a
  have B0 := icast b0
  have B1 := icast (show a % 1000000000 ≤ 1000000000 by omega)
  rw [show ((0 : Int) : Rat) = 0 from rfl] at B0
  rw [show ((1000000000 : Int) : Rat) = 1000000000 from rfl] at B1
  have c := rabs_le.1 (circT B0 B1)
  have o := sc_one B0 B1
  rw [← hs] at c o
  generalize C (tq * ((a % 1000000000 : Int) : Rat)) = k at *
  have o2 := rabs_le.1 o.2
  have hc' := rabs_le.1 hc
  have bk : rabs (coU a + k) ≤ 21/10 := rabs_le.2 ⟨by grind, by grind⟩
  have m := rabs_le.1 (mul_rabs hc bk)
  have e : (coU a - k) * (coU a + k) = coU a * coU a - k * k := by grind
  rw [e] at m
  refine ⟨rabs_le.2 ⟨by grind, by grind⟩, o.1, rabs_le.2 ⟨by grind, by grind⟩⟩
theorem clipU_in {a b : Int} {x ε : Rat} (h : InU a b x ε) (hx : rabs x ≤ 1 + 6 / 100000000000) (e0 : 6/100 ≤ ε) : InU (clipL a) (clipH b) x ε := by
  have hx := rabs_le.1 hx
  unfold InU at *
  have c1 : ((1000000000 : Int) : Rat) = 1000000000 := rfl
  have c2 : ((-1000000000 : Int) : Rat) = -1000000000 := rfl
  constructor
  · rcases (show clipL a = -1000000000 ∨ clipL a ≤ a by unfold clipL; omega) with q | q
    · rw [q, c2]; grind
    · have := icast q; grind
  · rcases (show clipH b = 1000000000 ∨ b ≤ clipH b by unfold clipH; omega) with q | q
    · rw [q, c1]; grind
    · have := icast q; grind
/-- Parts of a direction of length 1 turned by an angle. -/
theorem turn_bd {s c a b r : Rat} (hc : rabs (s * s + c * c - 1) ≤ r) (hr : r ≤ 1 / 1000000000) (hu : a * a + b * b ≤ 1 + r) : rabs (s * a + c * b) ≤ 1 + 2 * r := by
  have hc := rabs_le.1 hc
  have r0 : 0 ≤ r := by grind
  have sq : ∀ z : Rat, 0 ≤ z * z := fun z => by rw [← rabs_sq]; exact Rat.mul_nonneg (rabs_nonneg z) (rabs_nonneg z)
  have k := sq (s * b - c * a)
  have e : (s * a + c * b) * (s * a + c * b) = (s * s + c * c) * (a * a + b * b) - (s * b - c * a) * (s * b - c * a) := by grind
  have a0 : 0 ≤ a * a + b * b := by have := sq a; have := sq b; grind
  have m := Rat.mul_le_mul_of_nonneg_right (show s * s + c * c ≤ 1 + r by grind) a0
  have m2 := Rat.mul_le_mul_of_nonneg_left hu (show 0 ≤ 1 + r by grind)
  have rr := Rat.mul_nonneg r0 r0
  refine sq_rabs (show 0 ≤ 1 + 2 * r by grind) ?_
  rw [e]
  have g : (1 + r) * (1 + r) ≤ (1 + 2 * r) * (1 + 2 * r) := by grind
  refine Rat.le_trans ?_ g
  have k2 : (s * s + c * c) * (a * a + b * b) ≤ (1 + r) * (1 + r) := Rat.le_trans m m2
  clear m m2 e hu hc
  generalize (s * s + c * c) * (a * a + b * b) = u at *
  generalize (s * b - c * a) * (s * b - c * a) = v at *
  grind
def tUp (lat : Int) (s n : Rat) : Rat := siU lat * s + coU lat * n
def tNo (lat : Int) (s n : Rat) : Rat := coU lat * s - siU lat * n
theorem look_in (lat : Int) {h0 h1 d0 d1 kh kd : Int} {zh zd : Rat} (hh : h0 ≤ h1) (hd : d0 ≤ d1) (a0 : 0 ≤ zh) (a1 : zh ≤ 1000000000) (b0 : 0 ≤ zd) (b1 : zd ≤ 1000000000)
    (p1 : (h0 : Rat) - 1/500 ≤ zh + (kh : Rat) * 1000000000) (p2 : zh + (kh : Rat) * 1000000000 ≤ (h1 : Rat) + 1/500) (p3 : (d0 : Rat) - 1/500 ≤ zd + (kd : Rat) * 1000000000) (p4 : zd + (kd : Rat) * 1000000000 ≤ (d1 : Rat) + 1/500) :
    InU (up0 lat h0 h1 d0 d1) (up1 lat h0 h1 d0 d1) (tUp lat (S (tq * zd)) (C (tq * zd) * C (tq * zh))) (8/100) ∧ InU (ea0 h0 h1 d0 d1) (ea1 h0 h1 d0 d1) (-(C (tq * zd) * S (tq * zh))) (6/100) ∧ InU (no0 lat h0 h1 d0 d1) (no1 lat h0 h1 d0 d1) (tNo lat (S (tq * zd)) (C (tq * zd) * C (tq * zh))) (8/100) := by
  have sp := lk_sp lat hh hd
  have sH := (over_any hh a0 a1 p1 p2).1
  have cH := cov_any hh a0 a1 p1 p2
  have sD := (over_any hd b0 b1 p3 p4).1
  have cD := cov_any hd b0 b1 p3 p4
  have sF := sine_in lat
  have cF := cosine_in lat
  obtain ⟨cc, ns, nc⟩ := siU_circ lat
  have nd := sc_one b0 b1
  have nh := sc_one a0 a1
  have nd1 : rabs (C (tq * zd)) ≤ 1 + 1 / 10000000 := by have := nd.2; grind
  have nf1 : rabs (siU lat) ≤ 1 + 1 / 10000000 := by grind
  have nf2 : rabs (coU lat) ≤ 1 + 1 / 10000000 := by grind
  have N := times_in sp.cD sp.cH cD cH (by grind) (by grind) (by grind) (by grind) nd1
  have E := times_in sp.cD sp.sH cD sH (by grind) (by grind) (by grind) (by grind) nd1
  have A := times_in sp.sF sp.sD sF sD (by grind) (by grind) (by grind) (by grind) nf1
  have B := times_in sp.cF sp.N cF N (by grind) (by grind) (by grind) (by grind) nf2
  have Cc := times_in sp.cF sp.sD cF sD (by grind) (by grind) (by grind) (by grind) nf2
  have D := times_in sp.sF sp.N sF N (by grind) (by grind) (by grind) (by grind) nf1
  have c1 := rabs_le.1 (circT b0 b1)
  have c2 := rabs_le.1 (circT a0 a1)
  have sq : ∀ z : Rat, 0 ≤ z * z := fun z => by rw [← rabs_sq]; exact Rat.mul_nonneg (rabs_nonneg z) (rabs_nonneg z)
  have key : ∀ u : Rat, u * u ≤ 1 + 1 / 100000000000 → S (tq * zd) * S (tq * zd) + C (tq * zd) * u * (C (tq * zd) * u) ≤ 1 + 3 / 100000000000 := by
    intro u hu
    have k := Rat.mul_le_mul_of_nonneg_left hu (sq (C (tq * zd)))
    have k2 := sq (S (tq * zd))
    grind
  have q1 := key (C (tq * zh)) (by have := sq (S (tq * zh)); grind)
  have e1 := turn_bd (s := siU lat) (c := coU lat) (a := S (tq * zd)) (b := C (tq * zd) * C (tq * zh)) cc (by grind) q1
  have e2 := turn_bd (s := coU lat) (c := -siU lat) (a := S (tq * zd)) (b := C (tq * zd) * C (tq * zh)) (by rw [show coU lat * coU lat + -siU lat * -siU lat - 1 = siU lat * siU lat + coU lat * coU lat - 1 by grind]; exact cc) (by grind) q1
  have e3 : rabs (-(C (tq * zd) * S (tq * zh))) ≤ 1 + 6 / 100000000000 := by
    rw [rabs_neg]
    have := mul_rabs nd.2 nh.1
    grind
  have U := InU.add A B
  have W := InU.sub Cc D
  refine ⟨clipU_in (InU.mono U (by grind)) (by unfold tUp; grind) (by grind), clipU_in (InU.mono (InU.neg E) (by grind)) e3 (by grind), clipU_in (InU.mono W (by grind)) (by unfold tNo; rw [show coU lat * S (tq * zd) - siU lat * (C (tq * zd) * C (tq * zh)) = coU lat * S (tq * zd) + -siU lat * (C (tq * zd) * C (tq * zh)) by grind]; grind) (by grind)⟩
end Go.Proofs.YtjkhoepohiafeaaDoor
