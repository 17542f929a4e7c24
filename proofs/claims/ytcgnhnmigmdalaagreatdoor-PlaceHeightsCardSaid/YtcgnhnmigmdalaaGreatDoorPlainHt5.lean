/- What place.look's intervals hold of a direction, closely. No program in sight. -/
import Derived.Test.YtcgnhnmigmdalaaGreatDoorPlainHt4
set_option linter.unusedVariables false
set_option linter.unusedSimpArgs false
namespace Go.Proofs.YtcgnhnmigmdalaaGreatDoor
open Ieee
structure RaDeX (a0 a1 d0 d1 : Int) (X Y Z : Rat) : Prop where
  oa : a0 ≤ a1
  wa : a1 - a0 ≤ 1000000
  od : d0 ≤ d1
  b0 : -250000000 ≤ d0
  b1 : d1 ≤ 250000000
  g0 : -(52 / 100000000000000) ≤ coU a0 * Y - siU a0 * X
  g1 : -(52 / 100000000000000) ≤ siU a1 * X - coU a1 * Y
  g2 : -(1 / 1000000000) ≤ (coU a0 + coU a1) * X + (siU a0 + siU a1) * Y
  e0 : siU d0 ≤ Z + 31 / 100000000000000
  e1 : Z ≤ siU d1 + 31 / 100000000000000
  n : rabs (X * X + Y * Y + Z * Z - 1) ≤ 1 / 1000000000000000
  zb : rabs Z ≤ 1/2
theorem len_algX {c ρ : Rat} (hE : rabs (c * c - ρ * ρ) ≤ 34 / 100000000000000) (h1 : 86/100 ≤ ρ) (h2 : -(1 / 1000000000) ≤ c) : rabs (ρ - c) ≤ 20 / 100000000000000 := by
  have hE := rabs_le.1 hE
  have e : (c - ρ) * (c + ρ) = c * c - ρ * ρ := by grind
  have c1 : 85/100 ≤ c := by
    by_cases q : c < 85/100
    · exfalso
      have p := Rat.mul_nonneg (show 0 ≤ ρ - c - 1/100 by grind) (show 0 ≤ c + ρ by grind)
      grind
    · grind
  have s : 171/100 ≤ c + ρ := by grind
  by_cases q : 0 ≤ c - ρ
  · have p := Rat.mul_le_mul_of_nonneg_left s q
    rw [rabs_le]; constructor <;> grind
  · have p := Rat.mul_le_mul_of_nonneg_left s (show 0 ≤ ρ - c by grind)
    rw [rabs_le]; constructor <;> grind
/-- A direction told by two angles, up to small errors. -/
structure DirX (X Y Z z zd : Rat) : Prop where
  z0 : 0 ≤ z
  z1 : z ≤ 1000000000
  d0 : 0 ≤ zd
  d1 : zd ≤ 1000000000
  p : ∃ ρ g : Rat, rabs (X - (ρ * C (tq * z) - g * S (tq * z))) ≤ 1 / 1000000000000000 ∧ rabs (Y - (ρ * S (tq * z) + g * C (tq * z))) ≤ 1 / 1000000000000000 ∧ rabs g ≤ 55 / 100000000000000 ∧ rabs (ρ - C (tq * zd)) ≤ 20 / 100000000000000
  q : rabs (Z - S (tq * zd)) ≤ 33 / 100000000000000
theorem dirA_ofX {a0 a1 d0 d1 : Int} {X Y Z : Rat} (h : RaDeX a0 a1 d0 d1 X Y Z) : ∃ z zd, DirX X Y Z z zd ∧ (∃ k : Int, (a0 : Rat) ≤ z + (k : Rat) * 1000000000 ∧ z + (k : Rat) * 1000000000 ≤ (a1 : Rat)) ∧ (∃ k : Int, (d0 : Rat) ≤ zd + (k : Rat) * 1000000000 ∧ zd + (k : Rat) * 1000000000 ≤ (d1 : Rat)) := by
  obtain ⟨oa, wa, od, b0, b1, g0, g1, g2, e0, e1, n, zb⟩ := h
  have n' := rabs_le.1 n
  have sq : ∀ z : Rat, 0 ≤ z * z := fun z => sq_nonneg z
  have sx := sq X
  have sy := sq Y
  have sz := sq Z
  have bX : rabs X ≤ 101/100 := sq_rabs (by grind) (by grind)
  have bY : rabs Y ≤ 101/100 := sq_rabs (by grind) (by grind)
  obtain ⟨z, hz⟩ := head_exX (β := 52 / 100000000000000) oa wa (by grind) g0 g1 bX bY
  obtain ⟨zd, hzd⟩ := dec_exX (β := 31 / 100000000000000) b0 b1 od (by grind) e0 e1
  refine ⟨z, zd, ⟨hz.z0, hz.z1, hzd.z0, hzd.z1, ⟨C (tq * z) * X + S (tq * z) * Y, C (tq * z) * Y - S (tq * z) * X, ?_, ?_, ?_, ?_⟩, ?_⟩, hz.k, hzd.k⟩
  · have c := circY hz.z0 hz.z1
    have m := rabs_le.1 (mul_rabs c bX)
    have e : X - ((C (tq * z) * X + S (tq * z) * Y) * C (tq * z) - (C (tq * z) * Y - S (tq * z) * X) * S (tq * z)) = -((S (tq * z) * S (tq * z) + C (tq * z) * C (tq * z) - 1) * X) := by grind
    rw [e, rabs_le]; constructor <;> grind
  · have c := circY hz.z0 hz.z1
    have m := rabs_le.1 (mul_rabs c bY)
    have e : Y - ((C (tq * z) * X + S (tq * z) * Y) * S (tq * z) + (C (tq * z) * Y - S (tq * z) * X) * C (tq * z)) = -((S (tq * z) * S (tq * z) + C (tq * z) * C (tq * z) - 1) * Y) := by grind
    rw [e, rabs_le]; constructor <;> grind
  · have := hz.g; grind
  · have c := rabs_le.1 (circY hz.z0 hz.z1)
    have cd := rabs_le.1 (circY hzd.z0 hzd.z1)
    have q1 := hzd.g
    have q2 := hzd.c
    have k1 := rabs_le.1 hz.s
    have k2 := rabs_le.1 hz.c
    have l := co_lip oa wa
    have l1 := rabs_le.1 l.1
    have l2 := rabs_le.1 l.2
    have gg := sq_bd hz.g
    have zb' := rabs_le.1 zb
    have q1' := rabs_le.1 q1
    have m := rabs_le.1 (mul_rabs q1 (show rabs (S (tq * zd) + Z) ≤ 101/100 from rabs_le.2 ⟨by grind, by grind⟩))
    have zz := sq_bd zb
    have d1 := rabs_le.1 (mul_rabs (show rabs (2 * C (tq * z) - (coU a0 + coU a1)) ≤ 2/100 from rabs_le.2 ⟨by grind, by grind⟩) bX)
    have d2 := rabs_le.1 (mul_rabs (show rabs (2 * S (tq * z) - (siU a0 + siU a1)) ≤ 2/100 from rabs_le.2 ⟨by grind, by grind⟩) bY)
    clear k1 k2 l l1 l2 q1
    generalize S (tq * zd) = sd at *
    generalize C (tq * zd) = cd at *
    have pos : -(3/100) ≤ C (tq * z) * X + S (tq * z) * Y := by grind
    have e : (C (tq * z) * X + S (tq * z) * Y) * (C (tq * z) * X + S (tq * z) * Y) + (C (tq * z) * Y - S (tq * z) * X) * (C (tq * z) * Y - S (tq * z) * X) = (S (tq * z) * S (tq * z) + C (tq * z) * C (tq * z)) * (X * X + Y * Y) := by grind
    have xy : X * X + Y * Y ≤ 11/10 := by grind
    have f1 := Rat.mul_le_mul_of_nonneg_right (show S (tq * z) * S (tq * z) + C (tq * z) * C (tq * z) ≤ 1 + 1 / 10000000000000000 by grind) (show 0 ≤ X * X + Y * Y by grind)
    have f2 := Rat.mul_le_mul_of_nonneg_right (show 1 - 1 / 10000000000000000 ≤ S (tq * z) * S (tq * z) + C (tq * z) * C (tq * z) by grind) (show 0 ≤ X * X + Y * Y by grind)
    rw [← e] at f1 f2
    have g0' := sq (C (tq * z) * Y - S (tq * z) * X)
    clear e d1 d2 g0 g1 g2
    generalize C (tq * z) * X + S (tq * z) * Y = ρ at *
    generalize (C (tq * z) * Y - S (tq * z) * X) * (C (tq * z) * Y - S (tq * z) * X) = G at *
    have r1 : 86/100 ≤ ρ := by
      by_cases q : ρ < 86/100
      · exfalso
        have p := Rat.mul_nonneg (show 0 ≤ ρ + 3/100 by grind) (show 0 ≤ 86/100 - ρ by grind)
        grind
      · grind
    refine len_algX ?_ r1 (by grind)
    rw [rabs_le]
    constructor <;> grind
  · have := hzd.g
    have e : Z - S (tq * zd) = -(S (tq * zd) - Z) := by grind
    rw [e, rabs_neg]; grind
theorem turn_dirX {X Y Z z zd θ zh : Rat} {j : Int} (h : DirX X Y Z z zd) (t0 : 0 ≤ θ) (t1 : θ ≤ 1000000000) (h0 : 0 ≤ zh) (h1 : zh ≤ 1000000000) (e : zh = θ - z + (j : Rat) * 1000000000) :
    rabs (vOut θ X Y - C (tq * zd) * C (tq * zh)) ≤ 77 / 100000000000000 ∧ rabs (vSide θ X Y - -(C (tq * zd) * S (tq * zh))) ≤ 77 / 100000000000000 := by
  obtain ⟨z0, z1, d0, d1, ⟨ρ, g, pX, pY, pg, pr⟩, -⟩ := h
  obtain ⟨s1, s2⟩ := sc_minusX t0 t1 z0 z1 h0 h1 e
  have bt := sc_one t0 t1
  have bz := sc_one z0 z1
  have bh := sc_one h0 h1
  have m1 := rabs_le.1 (mul_rabs bt.2 pX)
  have m2 := rabs_le.1 (mul_rabs bt.1 pY)
  have m3 := rabs_le.1 (mul_rabs bt.2 pY)
  have m4 := rabs_le.1 (mul_rabs bt.1 pX)
  have m5 := rabs_le.1 (mul_rabs pg bh.1)
  have m6 := rabs_le.1 (mul_rabs pg bh.2)
  have m7 := rabs_le.1 (mul_rabs pg s1)
  have m8 := rabs_le.1 (mul_rabs pg s2)
  have m9 := rabs_le.1 (mul_rabs pr bh.2)
  have ma := rabs_le.1 (mul_rabs pr bh.1)
  have hr : rabs ρ ≤ 11/10 := by
    have k1 := rabs_le.1 pr
    have k2 := rabs_le.1 (sc_one d0 d1).2
    exact rabs_le.2 ⟨by grind, by grind⟩
  clear pX pY pg
  have n1 := rabs_le.1 (mul_rabs hr s1)
  have n2 := rabs_le.1 (mul_rabs hr s2)
  clear s1 s2 hr bt bz bh pr
  unfold vOut vSide
  generalize C (tq * θ) = ct at *
  generalize S (tq * θ) = st at *
  generalize C (tq * z) = cz at *
  generalize S (tq * z) = sz at *
  generalize C (tq * zh) = ch at *
  generalize S (tq * zh) = sh at *
  generalize C (tq * zd) = cd at *
  constructor
  · have e1 : ct * X + st * Y - cd * ch = ct * (X - (ρ * cz - g * sz)) + st * (Y - (ρ * sz + g * cz)) - ρ * (ch - (ct * cz + st * sz)) + (ρ - cd) * ch - g * (sh - (st * cz - ct * sz)) + g * sh := by grind
    rw [e1]
    clear e1
    generalize ct * (X - (ρ * cz - g * sz)) = u1 at *
    generalize st * (Y - (ρ * sz + g * cz)) = u2 at *
    generalize ρ * (ch - (ct * cz + st * sz)) = u3 at *
    generalize (ρ - cd) * ch = u4 at *
    generalize g * (sh - (st * cz - ct * sz)) = u5 at *
    generalize g * sh = u6 at *
    rw [rabs_le]; constructor <;> grind
  · have e1 : ct * Y - st * X - -(cd * sh) = ct * (Y - (ρ * sz + g * cz)) - st * (X - (ρ * cz - g * sz)) + ρ * (sh - (st * cz - ct * sz)) - (ρ - cd) * sh - g * (ch - (ct * cz + st * sz)) + g * ch := by grind
    rw [e1]
    clear e1
    generalize ct * (Y - (ρ * sz + g * cz)) = u1 at *
    generalize st * (X - (ρ * cz - g * sz)) = u2 at *
    generalize ρ * (sh - (st * cz - ct * sz)) = u3 at *
    generalize (ρ - cd) * sh = u4 at *
    generalize g * (ch - (ct * cz + st * sz)) = u5 at *
    generalize g * ch = u6 at *
    rw [rabs_le]; constructor <;> grind
theorem clipU_inX {a b : Int} {x ε : Rat} (h : InU a b x ε) (hx : rabs x ≤ 1 + 1 / 10000000000000) (e0 : 1/10000 ≤ ε) : InU (clipL a) (clipH b) x ε := by
  have hx := rabs_le.1 hx
  unfold InU at *
  have c1 : ((1000000000 : Int) : Rat) = 1000000000 := rfl
  have c2 : ((-1000000000 : Int) : Rat) = -1000000000 := rfl
  constructor
  · rcases (show clipL a = -1000000000 ∨ clipL a ≤ a by unfold clipL; omega) with q | q
    · rw [q, c2]; grind
    · have := icast q; grind
  · rcases (show clipH b = 1000000000 ∨ b ≤ clipH b by unfold clipH; omega) with q | q
    · rw [q, c1]; grind
    · have := icast q; grind
theorem look_inX (lat : Int) {h0 h1 d0 d1 kh kd : Int} {zh zd : Rat} (hh : h0 ≤ h1) (hd : d0 ≤ d1) (a0 : 0 ≤ zh) (a1 : zh ≤ 1000000000) (b0 : 0 ≤ zd) (b1 : zd ≤ 1000000000)
    (p1 : (h0 : Rat) ≤ zh + (kh : Rat) * 1000000000) (p2 : zh + (kh : Rat) * 1000000000 ≤ (h1 : Rat)) (p3 : (d0 : Rat) ≤ zd + (kd : Rat) * 1000000000) (p4 : zd + (kd : Rat) * 1000000000 ≤ (d1 : Rat)) :
    InU (up0 lat h0 h1 d0 d1) (up1 lat h0 h1 d0 d1) (tUp lat (S (tq * zd)) (C (tq * zd) * C (tq * zh))) (508/1000000) ∧ InU (ea0 h0 h1 d0 d1) (ea1 h0 h1 d0 d1) (-(C (tq * zd) * S (tq * zh))) (204/1000000) ∧ InU (no0 lat h0 h1 d0 d1) (no1 lat h0 h1 d0 d1) (tNo lat (S (tq * zd)) (C (tq * zd) * C (tq * zh))) (508/1000000) := by
  have sp := lk_sp lat hh hd
  have sH := over_X hh a0 a1 p1 p2
  have cH := cov_X hh a0 a1 p1 p2
  have sD := over_X hd b0 b1 p3 p4
  have cD := cov_X hd b0 b1 p3 p4
  have sF := sine_inX lat
  have cF := cosine_inX lat
  obtain ⟨cc, ns, nc⟩ := siU_circX lat
  have nd := oneY b0 b1
  have nh := oneY a0 a1
  have nd1 : rabs (C (tq * zd)) ≤ 1 + 1 / 10000000 := by have := nd.2; grind
  have nf1 : rabs (siU lat) ≤ 1 + 1 / 10000000 := by grind
  have nf2 : rabs (coU lat) ≤ 1 + 1 / 10000000 := by grind
  have N := times_in sp.cD sp.cH cD cH (by grind) (by grind) (by grind) (by grind) nd1
  have E := times_in sp.cD sp.sH cD sH (by grind) (by grind) (by grind) (by grind) nd1
  have A := times_in sp.sF sp.sD sF sD (by grind) (by grind) (by grind) (by grind) nf1
  have B := times_in sp.cF sp.N cF N (by grind) (by grind) (by grind) (by grind) nf2
  have Cc := times_in sp.cF sp.sD cF sD (by grind) (by grind) (by grind) (by grind) nf2
  have D := times_in sp.sF sp.N sF N (by grind) (by grind) (by grind) (by grind) nf1
  have c1 := rabs_le.1 (circY b0 b1)
  have c2 := rabs_le.1 (circY a0 a1)
  have key : ∀ u : Rat, u * u ≤ 1 + 1 / 10000000000000000 → S (tq * zd) * S (tq * zd) + C (tq * zd) * u * (C (tq * zd) * u) ≤ 1 + 1 / 1000000000000000 := by
    intro u hu
    have k := Rat.mul_le_mul_of_nonneg_left hu (sq_nonneg (C (tq * zd)))
    have k2 := sq_nonneg (S (tq * zd))
    grind
  have q1 := key (C (tq * zh)) (by have := sq_nonneg (S (tq * zh)); grind)
  have e1 := turn_bd (s := siU lat) (c := coU lat) (a := S (tq * zd)) (b := C (tq * zd) * C (tq * zh)) cc (by grind) q1
  have e2 := turn_bd (s := coU lat) (c := -siU lat) (a := S (tq * zd)) (b := C (tq * zd) * C (tq * zh)) (by rw [show coU lat * coU lat + -siU lat * -siU lat - 1 = siU lat * siU lat + coU lat * coU lat - 1 by grind]; exact cc) (by grind) q1
  have e3 : rabs (-(C (tq * zd) * S (tq * zh))) ≤ 1 + 1 / 10000000000000 := by
    rw [rabs_neg]
    have := mul_rabs nd.2 nh.1
    grind
  have U := InU.add A B
  have W := InU.sub Cc D
  refine ⟨clipU_inX (InU.mono U (by grind)) (by unfold tUp; grind) (by grind), clipU_inX (InU.mono (InU.neg E) (by grind)) e3 (by grind), clipU_inX (InU.mono W (by grind)) (by unfold tNo; rw [show coU lat * S (tq * zd) - siU lat * (C (tq * zd) * C (tq * zh)) = coU lat * S (tq * zd) + -siU lat * (C (tq * zd) * C (tq * zh)) by grind]; grind) (by grind)⟩
/-- What place.look's intervals are worth at such a direction. -/
theorem look_nearX (lat : Int) {s0 s1 a0 a1 d0 d1 : Int} {X Y Z z zd θ : Rat} (h : DirX X Y Z z zd) (hs : s0 ≤ s1) (ha : a0 ≤ a1) (hd : d0 ≤ d1) (t0 : 0 ≤ θ) (t1 : θ ≤ 1000000000)
    (kt1 : (s0 : Rat) ≤ θ) (kt2 : θ ≤ (s1 : Rat)) (ka : ∃ k : Int, (a0 : Rat) ≤ z + (k : Rat) * 1000000000 ∧ z + (k : Rat) * 1000000000 ≤ (a1 : Rat))
    (kd : ∃ k : Int, (d0 : Rat) ≤ zd + (k : Rat) * 1000000000 ∧ zd + (k : Rat) * 1000000000 ≤ (d1 : Rat)) :
    InU (up0 lat (s0 - a1) (s1 - a0) d0 d1) (up1 lat (s0 - a1) (s1 - a0) d0 d1) (tUp lat Z (vOut θ X Y)) (135/100000) ∧ InU (ea0 (s0 - a1) (s1 - a0) d0 d1) (ea1 (s0 - a1) (s1 - a0) d0 d1) (vSide θ X Y) (135/100000) ∧ InU (no0 lat (s0 - a1) (s1 - a0) d0 d1) (no1 lat (s0 - a1) (s1 - a0) d0 d1) (tNo lat Z (vOut θ X Y)) (135/100000) := by
  obtain ⟨k2, k21, k22⟩ := ka
  obtain ⟨k3, k31, k32⟩ := kd
  have z0 := h.z0
  have z1 := h.z1
  obtain ⟨zh, j, e, h0, h1⟩ : ∃ (zh : Rat) (j : Int), zh = θ - z + (j : Rat) * 1000000000 ∧ 0 ≤ zh ∧ zh ≤ 1000000000 := by
    by_cases q : z ≤ θ
    · exact ⟨θ - z, 0, by rw [show ((0 : Int) : Rat) = 0 from rfl]; grind, by grind, by grind⟩
    · exact ⟨θ - z + 1000000000, 1, by rw [show ((1 : Int) : Rat) = 1 from rfl]; grind, by grind, by grind⟩
  have hh : s0 - a1 ≤ s1 - a0 := by omega
  obtain ⟨u, v, w⟩ := look_inX lat (kh := - k2 - j) (kd := k3) (zh := zh) (zd := zd) hh hd h0 h1 h.d0 h.d1 (by push_cast; grind) (by push_cast; grind) (by grind) (by grind)
  obtain ⟨o1, o2⟩ := turn_dirX h t0 t1 h0 h1 e
  have q := h.q
  obtain ⟨cc, -, -⟩ := siU_circX lat
  have cc' : rabs (siU lat * siU lat + coU lat * coU lat - 1) ≤ 1 / 1000000000 := by grind
  have cc2 : rabs (coU lat * coU lat + -siU lat * -siU lat - 1) ≤ 1 / 1000000000 := by rw [show coU lat * coU lat + -siU lat * -siU lat - 1 = siU lat * siU lat + coU lat * coU lat - 1 by grind]; exact cc'
  have n1 := sq_bd q
  have n2 := sq_bd o1
  have key : ((Z - S (tq * zd)) * (Z - S (tq * zd)) + (vOut θ X Y - C (tq * zd) * C (tq * zh)) * (vOut θ X Y - C (tq * zd) * C (tq * zh))) * (1 + 1 / 1000000000) ≤ 84 / 100000000000000 * (84 / 100000000000000) := by grind
  have c1 := rabs_le.1 (cauchy cc' (R := 84 / 100000000000000) (by grind) key)
  have c2 := rabs_le.1 (cauchy cc2 (R := 84 / 100000000000000) (by grind) key)
  have o2 := rabs_le.1 o2
  clear key cc cc' cc2 n1 n2 o1 q
  refine ⟨?_, ?_, ?_⟩
  · unfold InU tUp at *
    constructor <;> grind
  · unfold InU at *
    constructor <;> grind
  · unfold InU tNo at *
    constructor <;> grind
end Go.Proofs.YtcgnhnmigmdalaaGreatDoor
