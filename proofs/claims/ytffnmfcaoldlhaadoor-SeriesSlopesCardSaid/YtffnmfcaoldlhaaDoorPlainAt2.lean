/- What math.xatan runs through, and how near it comes. No program in sight. -/
import Derived.Test.YtffnmfcaoldlhaaDoorPlainAt
import Derived.Test.YtffnmfcaoldlhaaDoorFltC
set_option linter.unusedVariables false
set_option linter.unusedSimpArgs false
namespace Go.Proofs.YtffnmfcaoldlhaaDoor
open Ieee
theorem div_ap {x y : Nat} {X Y a b : Rat} (B M : Rat) (K : Nat) (hK : K ≤ 900) (hx : Ap x X a) (hy : Ap y Y b) (hB : 0 < B) (hY : B + b ≤ Y) (hM : rabs (X / Y) ≤ M) (hb : M + (a + M * b) / B + p2 (K - 54) ≤ p2 K) :
    ∃ r, double.div x y = some r ∧ Ap r (X / Y) ((a + M * b) / B + p2 (K - 54) + p2 (K - 53)) := by
  have a0 := hx.pos
  have b0 := hy.pos
  obtain ⟨s, m, i, h1, h2, h3⟩ := hx
  obtain ⟨t, n, j, g1, g2, g3⟩ := hy
  have y0 : B ≤ rv t n j := by grind
  have hn : n ≠ 0 := by
    rintro rfl
    unfold rv at y0
    simp at y0
    grind
  generalize hv : rv s m i = v at *
  generalize hw : rv t n j = w at *
  have hq : rabs (v / w - X / Y) ≤ (a + M * b) / B := by
    have e : v / w - X / Y = ((v - X) - (X / Y) * (w - Y)) / w := by grind
    have mm := mul_rabs hM (show rabs (w - Y) ≤ b from rabs_le.2 ⟨by grind, by grind⟩)
    have mm2 := rabs_le.1 mm
    have nb : rabs ((v - X) - (X / Y) * (w - Y)) ≤ a + M * b := rabs_le.2 ⟨by grind, by grind⟩
    have hiw : w * w⁻¹ = 1 := Rat.mul_inv_cancel w (by grind)
    have hiB : B * B⁻¹ = 1 := Rat.mul_inv_cancel B (by grind)
    have iw0 : 0 < w⁻¹ := Rat.inv_pos.2 (by grind)
    have iB0 : 0 < B⁻¹ := Rat.inv_pos.2 hB
    have ile : w⁻¹ ≤ B⁻¹ := by
      have m1 := Rat.mul_le_mul_of_nonneg_right y0 (Rat.le_of_lt (Rat.mul_pos iw0 iB0))
      have e1 : B * (w⁻¹ * B⁻¹) = w⁻¹ := by grind
      have e2 : w * (w⁻¹ * B⁻¹) = B⁻¹ := by grind
      rw [e1, e2] at m1
      exact m1
    rw [e, Rat.div_def, rabs_mul, Rat.div_def]
    have ew : rabs w⁻¹ = w⁻¹ := by unfold rabs; rw [if_pos (Rat.le_of_lt iw0)]
    rw [ew]
    have m1 := Rat.mul_le_mul_of_nonneg_left ile (rabs_nonneg ((v - X) - (X / Y) * (w - Y)))
    have m2 := Rat.mul_le_mul_of_nonneg_right nb (Rat.le_of_lt iB0)
    grind
  obtain ⟨q1, q2⟩ := rabs_le.1 hq
  obtain ⟨M1, M2⟩ := rabs_le.1 hM
  obtain ⟨r, r1, r2⟩ := div_val (s := s) (t := t) (m := m) (n := n) (i := i) (j := j) K hK h1 g1 hn (by rw [hv, hw]; grind) (by rw [hv, hw]; grind)
  rw [hv, hw] at r2
  exact ⟨r, r1, (r2.move (Y := X / Y) (d := (a + M * b) / B) (by grind) (by grind)).mono (by grind)⟩
/-- A step of Horner's rule, for greater numbers. -/
theorem hstep {acc zz c : Nat} {A Z V e d : Rat} (α : Rat) (ha : Ap acc A e) (hz : Ap zz Z d) (hc : Ap c V 0) (a1 : rabs A ≤ α) (z0 : 0 ≤ Z) (z1 : Z ≤ 45/100) (hα : α ≤ 800) (hv : rabs V ≤ 500) (he : e ≤ 1 / 100000000000) (hd : d ≤ 1 / 100000000000000) :
    ∃ m r, double.mul acc zz = some m ∧ double.add m c = some r ∧ Ap r (A * Z + V) (45/100 * e + α * d + 1 / 4000000000000) ∧ rabs (A * Z + V) ≤ 45/100 * α + rabs V := by
  have e0 := ha.pos
  have d0 := hz.pos
  have nn : p2 (((10 : Nat) : Int) - 53) ≤ 12 / 100000000000000 := by decide +kernel
  have p0 : p2 ((10 : Nat) : Int) = 1024 := by decide +kernel
  have A1 := rabs_le.1 a1
  have V1 := rabs_le.1 hv
  have ed := Rat.mul_le_mul_of_nonneg_right he d0
  have α0 : 0 ≤ α := by have := rabs_nonneg A; grind
  have ad := Rat.mul_le_mul_of_nonneg_left hd α0
  have AZ := rabs_le.1 (mul_rabs a1 (show rabs Z ≤ 45/100 from rabs_le.2 ⟨z1, by grind⟩))
  generalize hu : p2 (((10 : Nat) : Int) - 53) = u at *
  obtain ⟨m, m1, m2⟩ := mul_ap α (45/100) 10 (by omega) ha hz A1.1 A1.2 z1 (by grind) (by rw [p0]; grind)
  rw [hu] at m2
  obtain ⟨r, r1, r2⟩ := add_ap 10 (by omega) m2 hc (by rw [p0]; grind) (by rw [p0]; grind)
  rw [hu] at r2
  refine ⟨m, r, m1, r1, r2.mono (by grind), ?_⟩
  have h3 := rabs_add (A * Z) V
  have h4 := mul_rabs a1 (show rabs Z ≤ 45/100 from rabs_le.2 ⟨z1, by grind⟩)
  grind
/-- What math.xatan runs through. -/
def XatP (x r : Nat) : Prop := ∃ z m1 h1 m2 h2 m3 h3 m4 h4 n k0 l1 k1 l2 k2 l3 k3 l4 k4 d e,
  double.mul x x = some z ∧ double.mul aP0 z = some m1 ∧ double.add m1 aP1 = some h1 ∧ double.mul h1 z = some m2 ∧ double.add m2 aP2 = some h2 ∧ double.mul h2 z = some m3 ∧ double.add m3 aP3 = some h3 ∧ double.mul h3 z = some m4 ∧ double.add m4 aP4 = some h4 ∧ double.mul z h4 = some n ∧
  double.add z aQ0 = some k0 ∧ double.mul k0 z = some l1 ∧ double.add l1 aQ1 = some k1 ∧ double.mul k1 z = some l2 ∧ double.add l2 aQ2 = some k2 ∧ double.mul k2 z = some l3 ∧ double.add l3 aQ3 = some k3 ∧ double.mul k3 z = some l4 ∧ double.add l4 aQ4 = some k4 ∧
  double.div n k4 = some d ∧ double.mul x d = some e ∧ double.add e x = some r
theorem aC : Ap aP0 (cv aP0) 0 ∧ Ap aP1 (cv aP1) 0 ∧ Ap aP2 (cv aP2) 0 ∧ Ap aP3 (cv aP3) 0 ∧ Ap aP4 (cv aP4) 0 ∧ Ap aQ0 (cv aQ0) 0 ∧ Ap aQ1 (cv aQ1) 0 ∧ Ap aQ2 (cv aQ2) 0 ∧ Ap aQ3 (cv aQ3) 0 ∧ Ap aQ4 (cv aQ4) 0 :=
  ⟨cv_ap (by decide +kernel), cv_ap (by decide +kernel), cv_ap (by decide +kernel), cv_ap (by decide +kernel), cv_ap (by decide +kernel), cv_ap (by decide +kernel), cv_ap (by decide +kernel), cv_ap (by decide +kernel), cv_ap (by decide +kernel), cv_ap (by decide +kernel)⟩
theorem aB : rabs (cv aP0) ≤ 1 ∧ rabs (cv aP1) ≤ 17 ∧ rabs (cv aP2) ≤ 76 ∧ rabs (cv aP3) ≤ 123 ∧ rabs (cv aP4) ≤ 65 ∧ rabs (cv aQ0) ≤ 25 ∧ rabs (cv aQ1) ≤ 166 ∧ rabs (cv aQ2) ≤ 433 ∧ rabs (cv aQ3) ≤ 486 ∧ rabs (cv aQ4) ≤ 195 := by decide +kernel
theorem pChain {z : Nat} {Z d : Rat} (hz : Ap z Z d) (z0 : 0 ≤ Z) (z1 : Z ≤ 45/100) (hd : d ≤ 6 / 1000000000000000) :
    ∃ m1 h1 m2 h2 m3 h3 m4 h4 n, double.mul aP0 z = some m1 ∧ double.add m1 aP1 = some h1 ∧ double.mul h1 z = some m2 ∧ double.add m2 aP2 = some h2 ∧ double.mul h2 z = some m3 ∧ double.add m3 aP3 = some h3 ∧ double.mul h3 z = some m4 ∧ double.add m4 aP4 = some h4 ∧ double.mul z h4 = some n ∧
      Ap n (Z * ((((cv aP0 * Z + cv aP1) * Z + cv aP2) * Z + cv aP3) * Z + cv aP4)) (3 / 1000000000000) ∧ rabs ((((cv aP0 * Z + cv aP1) * Z + cv aP2) * Z + cv aP3) * Z + cv aP4) ≤ 138 := by
  obtain ⟨c0, c1, c2, c3, c4, -⟩ := aC
  obtain ⟨b0, b1, b2, b3, b4, -⟩ := aB
  have d0 := hz.pos
  have hd' : d ≤ 1 / 100000000000000 := by grind
  have p10 : p2 ((10 : Nat) : Int) = 1024 := by decide +kernel
  have nn10 : p2 (((10 : Nat) : Int) - 53) ≤ 12 / 100000000000000 := by decide +kernel
  obtain ⟨m1, h1, f2, f3, g2, u2⟩ := hstep 1 c0 hz c1 b0 z0 z1 (by grind) (by clear c0 c1 c2 c3 c4; grind) (by grind) hd'
  generalize cv aP0 * Z + cv aP1 = H1 at *
  clear c0 c1 b0
  have g2 := g2.mono (e' := 1 / 3000000000000) (by grind)
  have u2 : rabs H1 ≤ 18 := by grind
  obtain ⟨m2, h2, f4, f5, g3, u3⟩ := hstep 18 g2 hz c2 u2 z0 z1 (by grind) (by clear c2 c3 c4; grind) (by grind) hd'
  generalize H1 * Z + cv aP2 = H2 at *
  clear c2 b1 u2 g2
  have g3 := g3.mono (e' := 1 / 1000000000000) (by grind)
  have u3 : rabs H2 ≤ 85 := by grind
  obtain ⟨m3, h3, f6, f7, g4, u4⟩ := hstep 85 g3 hz c3 u3 z0 z1 (by grind) (by clear c3 c4; grind) (by grind) hd'
  generalize H2 * Z + cv aP3 = H3 at *
  clear c3 b2 u3 g3
  have g4 := g4.mono (e' := 2 / 1000000000000) (by grind)
  have u4 : rabs H3 ≤ 162 := by grind
  obtain ⟨m4, h4, f8, f9, g5, u5⟩ := hstep 162 g4 hz c4 u4 z0 z1 (by grind) (by clear c4; grind) (by grind) hd'
  generalize H3 * Z + cv aP4 = H4 at *
  clear c4 b3 u4 g4
  have g5 := g5.mono (e' := 3 / 1000000000000) (by grind)
  have u5 : rabs H4 ≤ 138 := by grind
  clear b4
  have P1 := rabs_le.1 u5
  obtain ⟨n, f10, g6⟩ := mul_ap (45/100) 138 10 (by omega) hz g5 z1 (by grind) P1.1 P1.2 (by rw [p10]; grind)
  have g6 := g6.mono (e' := 3 / 1000000000000) (by grind)
  exact ⟨m1, h1, m2, h2, m3, h3, m4, h4, n, f2, f3, f4, f5, f6, f7, f8, f9, f10, g6, u5⟩
theorem qChain {z : Nat} {Z d : Rat} (hz : Ap z Z d) (z0 : 0 ≤ Z) (z1 : Z ≤ 45/100) (hd : d ≤ 6 / 1000000000000000) :
    ∃ k0 l1 k1 l2 k2 l3 k3 l4 k4, double.add z aQ0 = some k0 ∧ double.mul k0 z = some l1 ∧ double.add l1 aQ1 = some k1 ∧ double.mul k1 z = some l2 ∧ double.add l2 aQ2 = some k2 ∧ double.mul k2 z = some l3 ∧ double.add l3 aQ3 = some k3 ∧ double.mul k3 z = some l4 ∧ double.add l4 aQ4 = some k4 ∧
      Ap k4 (((((Z + cv aQ0) * Z + cv aQ1) * Z + cv aQ2) * Z + cv aQ3) * Z + cv aQ4) (8 / 1000000000000) := by
  obtain ⟨-, -, -, -, -, q0, q1, q2, q3, q4⟩ := aC
  obtain ⟨-, -, -, -, -, b0, b1, b2, b3, b4⟩ := aB
  have d0 := hz.pos
  have hd' : d ≤ 1 / 100000000000000 := by grind
  have p10 : p2 ((10 : Nat) : Int) = 1024 := by decide +kernel
  have nn10 : p2 (((10 : Nat) : Int) - 53) ≤ 12 / 100000000000000 := by decide +kernel
  have B0 := rabs_le.1 b0
  obtain ⟨k0, f1, g1⟩ := add_ap 10 (by omega) hz q0 (by rw [p10]; grind) (by rw [p10]; grind)
  have u1 : rabs (Z + cv aQ0) ≤ 26 := rabs_le.2 ⟨by grind, by grind⟩
  generalize Z + cv aQ0 = H0 at *
  clear q0 b0 B0
  have g1 := g1.mono (e' := 1 / 3000000000000) (by grind)
  obtain ⟨m1, h1, f2, f3, g2, u2⟩ := hstep 26 g1 hz q1 u1 z0 z1 (by grind) (by clear q1 q2 q3 q4; grind) (by grind) hd'
  generalize H0 * Z + cv aQ1 = H1 at *
  clear q1 g1 u1
  have g2 := g2.mono (e' := 1 / 1000000000000) (by grind)
  have u2 : rabs H1 ≤ 178 := by grind
  obtain ⟨m2, h2, f4, f5, g3, u3⟩ := hstep 178 g2 hz q2 u2 z0 z1 (by grind) (by clear q2 q3 q4; grind) (by grind) hd'
  generalize H1 * Z + cv aQ2 = H2 at *
  clear q2 b1 u2 g2
  have g3 := g3.mono (e' := 2 / 1000000000000) (by grind)
  have u3 : rabs H2 ≤ 514 := by grind
  obtain ⟨m3, h3, f6, f7, g4, u4⟩ := hstep 514 g3 hz q3 u3 z0 z1 (by grind) (by clear q3 q4; grind) (by grind) hd'
  generalize H2 * Z + cv aQ3 = H3 at *
  clear q3 b2 u3 g3
  have g4 := g4.mono (e' := 5 / 1000000000000) (by grind)
  have u4 : rabs H3 ≤ 720 := by grind
  obtain ⟨m4, h4, f8, f9, g5, u5⟩ := hstep 720 g4 hz q4 u4 z0 z1 (by grind) (by clear q4; grind) (by grind) hd'
  generalize H3 * Z + cv aQ4 = H4 at *
  exact ⟨k0, m1, h1, m2, h2, m3, h3, m4, h4, f1, f2, f3, f4, f5, f6, f7, f8, f9, g5.mono (by clear q4 b3 b4 u5; grind)⟩
theorem xat_run {x : Nat} {X e : Rat} (hx : Ap x X e) (hX : rabs X ≤ 67/100) (he : e ≤ 4 / 1000000000000000) :
    ∃ r R, XatP x r ∧ Ap r R (1 / 10000000000000) ∧ rabs (S R - X * C R) ≤ 2 / 1000000000000 ∧ rabs R ≤ 133/100 * rabs X ∧ (0 ≤ X → 0 ≤ R) ∧ (X ≤ 0 → R ≤ 0) := by
  have e0 := hx.pos
  have X1 := rabs_le.1 hX
  have p0 : p2 ((0 : Nat) : Int) = 1 := by decide +kernel
  have nn : p2 (((0 : Nat) : Int) - 53) ≤ 12 / 100000000000000000 := by decide +kernel
  have nn1 : p2 (((0 : Nat) : Int) - 54) ≤ 12 / 100000000000000000 := by decide +kernel
  have p1 : p2 ((1 : Nat) : Int) = 2 := by decide +kernel
  have nm1 : p2 (((1 : Nat) : Int) - 53) ≤ 24 / 100000000000000000 := by decide +kernel
  have z0 : 0 ≤ X * X := by
    by_cases q : 0 ≤ X
    · exact Rat.mul_nonneg q q
    · have := Rat.mul_nonneg (show 0 ≤ -X by grind) (show 0 ≤ -X by grind); grind
  have z1 : X * X ≤ 45/100 := by
    have := Rat.mul_nonneg (show 0 ≤ 67/100 - X by grind) (show 0 ≤ 67/100 + X by grind); grind
  have ee := Rat.mul_le_mul_of_nonneg_left he e0
  obtain ⟨z, f1, g1⟩ := mul_ap (67/100) (67/100) 0 (by omega) hx hx X1.1 X1.2 X1.1 X1.2 (by rw [p0]; grind)
  have hz := g1.mono (e' := 6 / 1000000000000000) (by grind)
  clear g1
  obtain ⟨m1, h1, m2, h2, m3, h3, m4, h4, n, f2, f3, f4, f5, f6, f7, f8, f9, f10, g6, u5⟩ := pChain hz z0 z1 (by grind)
  obtain ⟨k0, l1, k1, l2, k2, l3, k3, l4, k4, f11, f12, f13, f14, f15, f16, f17, f18, f19, g11⟩ := qChain hz z0 z1 (by grind)
  have eQ : pv xQ X = ((((X * X + cv aQ0) * (X * X) + cv aQ1) * (X * X) + cv aQ2) * (X * X) + cv aQ3) * (X * X) + cv aQ4 := by
    unfold xQ
    simp only [pv_cons]
    have e0 : pv [] X = 0 := rfl
    rw [e0]
    grind
  have eN : pv xN X = X * (pv xQ X + X * X * ((((cv aP0 * (X * X) + cv aP1) * (X * X) + cv aP2) * (X * X) + cv aP3) * (X * X) + cv aP4)) := by
    unfold xN
    rw [pv_cons, pv_add]
    simp only [pv_cons]
    have e0 : pv [] X = 0 := rfl
    rw [e0]
    grind
  have hQ := xQ_ge X
  rw [eQ] at hQ
  rw [eQ] at eN
  generalize hPP : (((cv aP0 * (X * X) + cv aP1) * (X * X) + cv aP2) * (X * X) + cv aP3) * (X * X) + cv aP4 = PP at *
  generalize hQQ : ((((X * X + cv aQ0) * (X * X) + cv aQ1) * (X * X) + cv aQ2) * (X * X) + cv aQ3) * (X * X) + cv aQ4 = QQ at *
  clear hPP hQQ
  have QQ0 : QQ ≠ 0 := by grind
  have hZP := rabs_le.1 (mul_rabs (show rabs (X * X) ≤ 45/100 from rabs_le.2 ⟨z1, by grind⟩) u5)
  have hM : rabs (X * X * PP / QQ) ≤ 32033/100000 := by
    have iq : QQ * QQ⁻¹ = 1 := Rat.mul_inv_cancel QQ QQ0
    have iq0 : 0 < QQ⁻¹ := Rat.inv_pos.2 (by grind)
    have iq1 : QQ⁻¹ ≤ 1/194 := by
      have := Rat.mul_nonneg (show 0 ≤ QQ - 194 by grind) (Rat.le_of_lt iq0); grind
    rw [Rat.div_def]
    have m := mul_rabs (show rabs (X * X * PP) ≤ 45/100 * 138 from rabs_le.2 hZP) (show rabs QQ⁻¹ ≤ 1/194 from rabs_le.2 ⟨iq1, by grind⟩)
    grind
  have M1 := rabs_le.1 hM
  clear hZP
  obtain ⟨d, f20, g12⟩ := div_ap 193 (32033/100000) 0 (by omega) g6 g11 (by grind) (by grind) hM (by rw [p0]; grind)
  have hRR : X * (1 + X * X * PP / QQ) * pv xQ X = pv xN X := by
    rw [eN, eQ]
    have : X * X * PP / QQ * QQ = X * X * PP := Rat.div_mul_cancel QQ0
    clear f1 f2 f3 f4 f5 f6 f7 f8 f9 f10 f11 f12 f13 f14 f15 f16 f17 f18 f19 f20
    grind
  obtain ⟨t1, -⟩ := at_near (x := X) (by grind) hRR
  clear hRR eN eQ
  generalize X * X * PP / QQ = W at *
  clear g6 g11 hQ QQ0 u5
  have g12 := g12.mono (e' := 5 / 100000000000000) (by grind)
  obtain ⟨w, f21, g13⟩ := mul_ap (67/100) (32033/100000) 0 (by omega) hx g12 X1.1 X1.2 M1.1 M1.2 (by rw [p0]; grind)
  have g13 := g13.mono (e' := 5 / 100000000000000) (by grind)
  have hXM := rabs_le.1 (mul_rabs hX hM)
  obtain ⟨r, f22, g14⟩ := add_ap 1 (by omega) g13 hx (by rw [p1]; grind) (by rw [p1]; grind)
  have g14 := g14.mono (e' := 1 / 10000000000000) (by grind)
  have eR : X * W + X = X * (1 + W) := by grind
  rw [eR] at g14
  refine ⟨r, _, ⟨z, m1, h1, m2, h2, m3, h3, m4, h4, n, k0, l1, k1, l2, k2, l3, k3, l4, k4, d, w, f1, f2, f3, f4, f5, f6, f7, f8, f9, f10, f11, f12, f13, f14, f15, f16, f17, f18, f19, f20, f21, f22⟩, g14, t1, ?_⟩
  have n1 : rabs (1 + W) ≤ 133/100 := rabs_le.2 ⟨by grind, by grind⟩
  have m := mul_rabs (show rabs X ≤ rabs X from Rat.le_refl) n1
  have w0 : 0 ≤ 1 + W := by grind
  refine ⟨by grind, fun h => Rat.mul_nonneg h w0, fun h => ?_⟩
  have := Rat.mul_nonneg (show 0 ≤ -X by grind) w0
  grind
end Go.Proofs.YtffnmfcaoldlhaaDoor
