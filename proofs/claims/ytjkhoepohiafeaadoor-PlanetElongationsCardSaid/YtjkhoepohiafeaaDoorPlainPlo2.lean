/- The direction of a planet from the earth: how wide its interval is, and the reference's test. No program in sight. -/
import Derived.Test.YtjkhoepohiafeaaDoorPlainPlo
set_option linter.unusedVariables false
set_option linter.unusedSimpArgs false
namespace Go.Proofs.YtjkhoepohiafeaaDoor
open Ieee
theorem sq_of {a b : Rat} (h0 : 0 ≤ a) (h : a ≤ b) : a * a ≤ b * b := sq_le_sq h0 h
theorem plo_sq {a b D V : Rat} (hD : D = 3 / 2 * V) (ha : rabs a ≤ V) (hb : rabs b ≤ V) : a * a + b * b ≤ D * D := by
  have sx := (rabs_le.1 (mul_rabs ha ha)).1
  have sy := (rabs_le.1 (mul_rabs hb hb)).1
  have v0 : 0 ≤ V * V := by rw [← rabs_sq]; exact Rat.mul_nonneg (rabs_nonneg _) (rabs_nonneg _)
  have e : D * D = 9 / 4 * (V * V) := by rw [hD]; grind
  rw [e]
  generalize V * V = vv at *
  generalize a * a = aa at *
  generalize b * b = bb at *
  grind
theorem plo_box {r a0 a1 b0 b1 : Int} {p s P D : Rat} (h : PlT r a0 a1 b0 b1 p s) (hP : P * P ≤ 1000000000000000000 * (((r : Rat) - 1000) * ((r : Rat) - 1000) - 1 / 100)) (hD : D = 3 / 2 * (70031 * (r : Rat) + 28074000)) (c1 : 100000000 * ((r : Rat) + 1000) ≤ P - D) (c2 : D ≤ (P - D) / 2000) :
    BoxT (ploY0 r a0 a1 b0 b1) (ploY1 r a0 a1 b0 b1) (ploX0 r a0 a1 b0 b1) (ploX1 r a0 a1 b0 b1) (1 / ((r : Rat) + 1000) * (P - D)) (1 / 2000) (1 / ((r : Rat) + 1000)) := by
  have hb := plo_bd h
  obtain ⟨i1, i2, i3, i4⟩ := plo_in h
  have r0 := icast (show 1 ≤ r by have := h.r0; omega)
  have r1 := icast h.r1
  have e1 : ((1 : Int) : Rat) = 1 := rfl
  have e2 : ((9537 : Int) : Rat) = 9537 := rfl
  rw [e1] at r0
  rw [e2] at r1
  have len := pv_len (r := (r : Rat)) (p := p) (s := s) (by grind) r1 h.p0 h.p1 h.s0 h.s1
  have len2 : P * P ≤ pvX r p s * pvX r p s + pvY r p s * pvY r p s := by
    unfold pvX pvY
    grind
  clear len hP
  generalize pvX r p s = X at *
  generalize pvY r p s = Y at *
  clear h
  generalize ploY0 r a0 a1 b0 b1 = y0 at *
  generalize ploY1 r a0 a1 b0 b1 = y1 at *
  generalize ploX0 r a0 a1 b0 b1 = x0 at *
  generalize ploX1 r a0 a1 b0 b1 = x1 at *
  obtain ⟨⟨o1, o2⟩, ⟨w1, w2⟩, l1, l2, l3, l4⟩ := hb
  have W1 := icast w1
  have W2 := icast w2
  have O1 := icast o1
  have O2 := icast o2
  push_cast at W1 W2
  obtain ⟨t, ht⟩ : ∃ t : Rat, t = 1 / ((r : Rat) + 1000) := ⟨_, rfl⟩
  have tm : t * ((r : Rat) + 1000) = 1 := by rw [ht]; exact Rat.div_mul_cancel (by grind)
  have tp : 0 ≤ t := by
    by_cases q : 0 ≤ t
    · exact q
    · exfalso
      have := Rat.mul_nonneg (show 0 ≤ -t by grind) (show 0 ≤ (r : Rat) + 1000 by grind)
      grind
  rw [← ht]
  have D0 : 0 ≤ D := by rw [hD]; grind
  have DP : D ≤ P := by grind
  have PD : 0 ≤ P - D := by grind
  have tt := Rat.mul_nonneg tp tp
  have bd : ∀ n : Int, -(1000000000 * (r + 1000)) ≤ n → n ≤ 1000000000 * (r + 1000) → rabs (t * (n : Rat)) ≤ 1100000000 := by
    intro n n1 n2
    have N1 := icast n1
    have N2 := icast n2
    push_cast at N1 N2
    have m1 := Rat.mul_le_mul_of_nonneg_left N1 tp
    have m2 := Rat.mul_le_mul_of_nonneg_left N2 tp
    have z1 : t * (1000000000 * ((r : Rat) + 1000)) = 1000000000 := by grind
    have z2 : t * (-(1000000000 * ((r : Rat) + 1000))) = -1000000000 := by grind
    rw [z1] at m2
    rw [z2] at m1
    rw [rabs_le]
    constructor <;> grind
  refine ⟨tp, ?_, by decide +kernel, by decide +kernel, ?_, ?_⟩
  · have m := Rat.mul_le_mul_of_nonneg_left c1 tp
    grind
  · intro x y hx hy
    refine ⟨bd x (by rcases hx with rfl | rfl <;> omega) (by rcases hx with rfl | rfl <;> omega), bd y (by rcases hy with rfl | rfl <;> omega) (by rcases hy with rfl | rfl <;> omega), ?_⟩
    have dx : rabs ((x : Rat) - X) ≤ 70031 * (r : Rat) + 28074000 := by
      rw [rabs_le]
      rcases hx with rfl | rfl <;> constructor <;> grind
    have dy : rabs ((y : Rat) - Y) ≤ 70031 * (r : Rat) + 28074000 := by
      rw [rabs_le]
      rcases hy with rfl | rfl <;> constructor <;> grind
    have fc := far_corner (X := X) (Y := Y) (x := (x : Rat)) (y := (y : Rat)) (P := P) (D := D) len2 (plo_sq hD dx dy) D0 DP
    have m := Rat.mul_le_mul_of_nonneg_left fc tt
    have e3 : t * (P - D) * (t * (P - D)) = t * t * ((P - D) * (P - D)) := by grind
    have e4 : t * (x : Rat) * (t * (x : Rat)) + t * (y : Rat) * (t * (y : Rat)) = t * t * ((x : Rat) * x + (y : Rat) * y) := by grind
    rw [e3, e4]
    exact m
  · have q1 := sq_le_sq (show 0 ≤ (x1 : Rat) - x0 by grind) (show (x1 : Rat) - x0 ≤ 70031 * (r : Rat) + 28074000 by grind)
    have q2 := sq_le_sq (show 0 ≤ (y1 : Rat) - y0 by grind) (show (y1 : Rat) - y0 ≤ 70031 * (r : Rat) + 28074000 by grind)
    have q3 := sq_le_sq D0 c2
    have e : D * D = 9 / 4 * ((70031 * (r : Rat) + 28074000) * (70031 * (r : Rat) + 28074000)) := by rw [hD]; grind
    have n0 : 0 ≤ (70031 * (r : Rat) + 28074000) * (70031 * (r : Rat) + 28074000) := Rat.mul_nonneg (by grind) (by grind)
    have q4 : ((x1 : Rat) - x0) * ((x1 : Rat) - x0) + ((y1 : Rat) - y0) * ((y1 : Rat) - y0) ≤ (P - D) / 2000 * ((P - D) / 2000) := by grind
    have m := Rat.mul_le_mul_of_nonneg_right q4 tt
    have e5 : ((x1 : Rat) - x0) * ((x1 : Rat) - x0) * (t * t) + ((y1 : Rat) - y0) * ((y1 : Rat) - y0) * (t * t) = (((x1 : Rat) - x0) * ((x1 : Rat) - x0) + ((y1 : Rat) - y0) * ((y1 : Rat) - y0)) * (t * t) := by grind
    have e6 : 1 / 2000 * (t * (P - D)) * (1 / 2000 * (t * (P - D))) = (P - D) / 2000 * ((P - D) / 2000) * (t * t) := by grind
    rw [e5, e6]
    exact m
theorem plo_boxes {r a0 a1 b0 b1 : Int} {p s : Rat} (h : PlT r a0 a1 b0 b1 p s) (hr : r = 387 ∨ r = 723 ∨ r = 1524 ∨ r = 5203 ∨ r = 9537) :
    ∃ ρ t, BoxT (ploY0 r a0 a1 b0 b1) (ploY1 r a0 a1 b0 b1) (ploX0 r a0 a1 b0 b1) (ploX1 r a0 a1 b0 b1) ρ (1 / 2000) t := by
  rcases hr with rfl | rfl | rfl | rfl | rfl
  · exact ⟨_, _, plo_box h (P := 612999000000) (by decide +kernel) rfl (by decide +kernel) (by decide +kernel)⟩
  · exact ⟨_, _, plo_box h (P := 276999000000) (by decide +kernel) rfl (by decide +kernel) (by decide +kernel)⟩
  · exact ⟨_, _, plo_box h (P := 523999000000) (by decide +kernel) rfl (by decide +kernel) (by decide +kernel)⟩
  · exact ⟨_, _, plo_box h (P := 4202999000000) (by decide +kernel) rfl (by decide +kernel) (by decide +kernel)⟩
  · exact ⟨_, _, plo_box h (P := 8536999000000) (by decide +kernel) rfl (by decide +kernel) (by decide +kernel)⟩
theorem plo_narrow {yl yh xl xh : Int} {ρ t D0 L H : Rat} {E : Nat → Rat} (b : BoxT yl yh xl xh ρ (1 / 2000) t) (hv : ArcV yl yh xl xh D0 E L H) : arcHi yl yh xl xh - arcLo yl yh xl xh ≤ 100000 := by
  have h := arc_wideT b hv
  generalize arcHi yl yh xl xh - arcLo yl yh xl xh = n at *
  by_cases q : n ≤ 100000
  · exact q
  · exfalso
    have a := tq_le (icast (show 100000 ≤ n by omega))
    have c : ((100000 : Int) : Rat) = 100000 := rfl
    rw [c] at a
    have k : (628 : Rat) / 1000000 ≤ tq * 100000 := by decide +kernel
    have e : (1 / 2000 : Rat) * (1004 / 1000) + 1 / 10000000 ≤ 503 / 1000000 := by decide +kernel
    grind
theorem BoxT.off {yl yh xl xh : Int} {ρ κ t : Rat} (b : BoxT yl yh xl xh ρ κ t) : ¬ (yl ≤ 0 ∧ 0 ≤ yh ∧ xl ≤ 0 ∧ 0 ≤ xh) := by
  rintro ⟨h1, h2, h3, h4⟩
  obtain ⟨t0, hr, k0, k1, hb, hd⟩ := b
  obtain ⟨-, -, hn⟩ := hb xl yl (.inl rfl) (.inl rfl)
  have h1 := icast h1
  have h2 := icast h2
  have h3 := icast h3
  have h4 := icast h4
  have c0 : ((0 : Int) : Rat) = 0 := rfl
  rw [c0] at h1 h2 h3 h4
  have tt := Rat.mul_nonneg t0 t0
  have a := Rat.mul_le_mul_of_nonneg_right (sq_le_sq (show 0 ≤ -(xl : Rat) by grind) (show -(xl : Rat) ≤ (xh : Rat) - xl by grind)) tt
  have c := Rat.mul_le_mul_of_nonneg_right (sq_le_sq (show 0 ≤ -(yl : Rat) by grind) (show -(yl : Rat) ≤ (yh : Rat) - yl by grind)) tt
  have p := Rat.mul_le_mul_of_nonneg_right k1 (show 0 ≤ ρ by grind)
  have q := sq_le_sq (Rat.mul_nonneg k0 (show 0 ≤ ρ by grind)) p
  have r2 := sq_le_sq (show (0 : Rat) ≤ 100000000 by grind) hr
  clear hb
  grind
/-- The reference's numbers. -/
def plF (r u v : Int) : Int := u.tdiv 16384 * r + v.tdiv 16384 * 1000
theorem plF_near {r u v : Int} {x y : Rat} (r0 : 0 < r) (r1 : r ≤ 9537) (hu : rabs ((u : Rat) - uQ * x) ≤ 180000) (hv : rabs ((v : Rat) - uQ * y) ≤ 180000) : rabs ((plF r u v : Rat) - uQ * (((r : Rat) * x + 1000 * y) / 16384)) ≤ 200000 := by
  have a := tdiv_near u 16384 (by decide)
  have b := tdiv_near v 16384 (by decide)
  have hu := rabs_le.1 hu
  have hv := rabs_le.1 hv
  have R0 : (0 : Rat) ≤ (r : Rat) := by exact_mod_cast (show 0 ≤ r by omega)
  have R1 := icast r1
  have e2 : ((9537 : Int) : Rat) = 9537 := rfl
  have e3 : ((16384 : Int) : Rat) = 16384 := rfl
  rw [e2] at R1
  rw [e3] at a b
  unfold plF
  generalize u.tdiv 16384 = q at *
  generalize v.tdiv 16384 = w at *
  have d1 : rabs ((q : Rat) - uQ * x / 16384) ≤ 12 := by rw [rabs_le]; constructor <;> grind
  have d2 : rabs ((w : Rat) - uQ * y / 16384) ≤ 12 := by rw [rabs_le]; constructor <;> grind
  have d1 := rabs_le.1 d1
  have d2 := rabs_le.1 d2
  have m1 := Rat.mul_le_mul_of_nonneg_left d1.1 R0
  have m2 := Rat.mul_le_mul_of_nonneg_left d1.2 R0
  rw [rabs_le]
  push_cast
  constructor <;> grind
theorem plv_bd {r x y : Rat} (r0 : 0 ≤ r) (r1 : r ≤ 9537) (hx : rabs x ≤ 1 + 1 / 100000000000) (hy : rabs y ≤ 1 + 1 / 100000000000) : rabs ((r * x + 1000 * y) / 16384) ≤ 1 + 1 / 1000000 := by
  have hx := rabs_le.1 hx
  have hy := rabs_le.1 hy
  have m1 := Rat.mul_le_mul_of_nonneg_left hx.1 r0
  have m2 := Rat.mul_le_mul_of_nonneg_left hx.2 r0
  rw [rabs_le]
  constructor <;> grind
theorem plo_inArc {r a0 a1 b0 b1 A B : Int} {D0 L H : Rat} {E : Nat → Rat} (A0 : 0 ≤ A) (A1 : A < 1000000000000000) (B0 : 0 ≤ B) (B1 : B < 1000000000000000) (h : PlT r a0 a1 b0 b1 (zA A) (zA B))
    (hv : ArcV (ploY0 r a0 a1 b0 b1) (ploY1 r a0 a1 b0 b1) (ploX0 r a0 a1 b0 b1) (ploX1 r a0 a1 b0 b1) D0 E L H) (hw : arcHi (ploY0 r a0 a1 b0 b1) (ploY1 r a0 a1 b0 b1) (ploX0 r a0 a1 b0 b1) (ploX1 r a0 a1 b0 b1) - arcLo (ploY0 r a0 a1 b0 b1) (ploY1 r a0 a1 b0 b1) (ploX0 r a0 a1 b0 b1) (ploX1 r a0 a1 b0 b1) ≤ 100000) :
    Near (arcLo (ploY0 r a0 a1 b0 b1) (ploY1 r a0 a1 b0 b1) (ploX0 r a0 a1 b0 b1) (ploX1 r a0 a1 b0 b1) % 1000000000) (arcHi (ploY0 r a0 a1 b0 b1) (ploY1 r a0 a1 b0 b1) (ploX0 r a0 a1 b0 b1) (ploX1 r a0 a1 b0 b1) % 1000000000) (1 / 16384 * pvX r (zA A) (zA B)) (1 / 16384 * pvY r (zA A) (zA B)) ∧
    InArcOk (arcLo (ploY0 r a0 a1 b0 b1) (ploY1 r a0 a1 b0 b1) (ploX0 r a0 a1 b0 b1) (ploX1 r a0 a1 b0 b1) % 1000000000) (arcHi (ploY0 r a0 a1 b0 b1) (ploY1 r a0 a1 b0 b1) (ploX0 r a0 a1 b0 b1) (ploX1 r a0 a1 b0 b1) % 1000000000) (plF r (sc A).1 (sc B).1) (plF r (sc A).2 (sc B).2) ∧
    (-1160000000000000000 ≤ plF r (sc A).1 (sc B).1 ∧ plF r (sc A).1 (sc B).1 ≤ 1160000000000000000) ∧ (-1160000000000000000 ≤ plF r (sc A).2 (sc B).2 ∧ plF r (sc A).2 (sc B).2 ≤ 1160000000000000000) := by
  have hb := plo_bd h
  obtain ⟨i1, i2, i3, i4⟩ := plo_in h
  have r0 := h.r0
  have r1 := h.r1
  have R0 := icast (show 0 ≤ r by omega)
  have R1 := icast r1
  have e0 : ((0 : Int) : Rat) = 0 := rfl
  have e2 : ((9537 : Int) : Rat) = 9537 := rfl
  rw [e0] at R0
  rw [e2] at R1
  obtain ⟨u1, u2⟩ := sc_zA A0 A1
  obtain ⟨v1, v2⟩ := sc_zA B0 B1
  obtain ⟨z0, z1⟩ := zA_bd A0 A1
  obtain ⟨s0, s1⟩ := zA_bd B0 B1
  have n1 := sc_one z0 z1
  have n2 := sc_one s0 s1
  have FY := plF_near r0 r1 u1 v1
  have FX := plF_near r0 r1 u2 v2
  have bY := plv_bd R0 R1 n1.1 n2.1
  have bX := plv_bd R0 R1 n1.2 n2.2
  have c8 : (200000 : Rat) ≤ 100000000 := by decide +kernel
  have FY8 := Rat.le_trans FY c8
  have FX8 := Rat.le_trans FX c8
  have gY := fine_bd FY8 bY
  have gX := fine_bd FX8 bX
  have eY : 1 / 16384 * pvY r (zA A) (zA B) / 1000000000 = ((r : Rat) * S (tq * zA A) + 1000 * S (tq * zA B)) / 16384 := by unfold pvY; grind
  have eX : 1 / 16384 * pvX r (zA A) (zA B) / 1000000000 = ((r : Rat) * C (tq * zA A) + 1000 * C (tq * zA B)) / 16384 := by unfold pvX; grind
  rw [← eY] at FY8
  rw [← eX] at FX8
  clear u1 u2 v1 v2 n1 n2 FY FX bY bX eY eX h
  generalize pvX r (zA A) (zA B) = X at *
  generalize pvY r (zA A) (zA B) = Y at *
  generalize ploY0 r a0 a1 b0 b1 = y0 at *
  generalize ploY1 r a0 a1 b0 b1 = y1 at *
  generalize ploX0 r a0 a1 b0 b1 = x0 at *
  generalize ploX1 r a0 a1 b0 b1 = x1 at *
  obtain ⟨⟨o1, o2⟩, -, l1, l2, l3, l4⟩ := hb
  have kk : (0 : Rat) ≤ 1 / 16384 := by decide +kernel
  have c1 := (arc_corners hv (by omega) (y := y0) (x := x0) (.inl rfl) (.inl rfl)).scale kk
  have c2 := (arc_corners hv (by omega) (y := y1) (x := x0) (.inr rfl) (.inl rfl)).scale kk
  have c3 := (arc_corners hv (by omega) (y := y0) (x := x1) (.inl rfl) (.inr rfl)).scale kk
  have c4 := (arc_corners hv (by omega) (y := y1) (x := x1) (.inr rfl) (.inr rfl)).scale kk
  have m1 := emod_bd (arcLo y0 y1 x0 x1)
  have m2 := emod_bd (arcHi y0 y1 x0 x1)
  have sm : ∀ n : Int, -(1000000000 * (r + 1000)) ≤ n → n ≤ 1000000000 * (r + 1000) → rabs (1 / 16384 * (n : Rat)) ≤ 700000000 := by
    intro n n1 n2
    have N1 := icast (show -10537000000000 ≤ n by omega)
    have N2 := icast (show n ≤ 10537000000000 by omega)
    have d1 : ((-10537000000000 : Int) : Rat) = -10537000000000 := rfl
    have d2 : ((10537000000000 : Int) : Rat) = 10537000000000 := rfl
    rw [d1] at N1
    rw [d2] at N2
    rw [rabs_le]
    constructor <;> grind
  have q1 := sm x0 (by omega) (by omega)
  have q2 := sm x1 (by omega) (by omega)
  have q3 := sm y0 (by omega) (by omega)
  have q4 := sm y1 (by omega) (by omega)
  have near : Near (arcLo y0 y1 x0 x1 % 1000000000) (arcHi y0 y1 x0 x1 % 1000000000) (1 / 16384 * X) (1 / 16384 * Y) := by
    refine rect_near m1.1 m1.2 m2.1 m2.2 c1 c2 c3 c4 (by grind) (by grind) (by grind) (by grind) ?_ ?_ ?_ ?_
    all_goals clear c1 c2 c3 c4 q1 q2 q3 q4 gX gY FX8 FY8; grind
  exact ⟨near, inArc_near m1.1 m1.2 m2.1 m2.2 near FY8 FX8 gY.1 gX.1, gY.2, gX.2⟩
end Go.Proofs.YtjkhoepohiafeaaDoor
