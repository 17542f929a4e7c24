/- The polynomials of math.sin in floating point, up to an error. No program in sight. -/
import Derived.Test.YtffnmfcaoldlhaaDoorPlainAp2
import Derived.Test.YtffnmfcaoldlhaaDoorPlainPoly
set_option linter.unusedVariables false
set_option linter.unusedSimpArgs false
namespace Go.Proofs.YtffnmfcaoldlhaaDoor
open Ieee
/-- What a word stands for. -/
def cv (w : Nat) : Rat := match double.read w with
  | .number s m e => rv s m e
  | _ => 0
def isNum (w : Nat) : Bool := match double.read w with
  | .number _ _ _ => true
  | _ => false
theorem cv_ap {w : Nat} (h : isNum w = true) : Ap w (cv w) 0 := by
  unfold isNum at h
  unfold cv
  cases hr : double.read w with
  | number s m e => exact ⟨s, m, e, hr, by simp; grind, by simp; grind⟩
  | infinity s => rw [hr] at h; cases h
  | nan s t => rw [hr] at h; cases h
theorem horner {acc zz c : Nat} {A Z V e d : Rat} (ha : Ap acc A e) (hz : Ap zz Z d) (hc : Ap c V 0) (a1 : A ≤ 1/100) (a2 : -(1/100) ≤ A) (z1 : Z ≤ 5/8) (z2 : -(5/8) ≤ Z) (v1 : V ≤ 3/16) (v2 : -(3/16) ≤ V) (he : e ≤ 2 / 1000000000000000) (hd : d ≤ 2 / 100000000000000) :
    ∃ m r, double.mul acc zz = some m ∧ double.add m c = some r ∧ Ap r (A * Z + V) (5/8 * e + 5 / 10000000000000000) := by
  have e0 := ha.pos
  have d0 := hz.pos
  have ed := Rat.mul_le_mul_of_nonneg_right he d0
  have nn : p2 (((0 : Nat) : Int) - 53) ≤ 12 / 100000000000000000 := by decide +kernel
  have p0 : p2 ((0 : Nat) : Int) = 1 := by decide +kernel
  obtain ⟨b1, b2⟩ := (show A * Z ≤ 1/100 * (5/8) ∧ -(1/100 * (5/8)) ≤ A * Z from by
    have p1 := Rat.mul_nonneg (show 0 ≤ 1/100 - A by grind) (show 0 ≤ 5/8 + Z by grind)
    have p2 := Rat.mul_nonneg (show 0 ≤ 1/100 + A by grind) (show 0 ≤ 5/8 - Z by grind)
    have p3 := Rat.mul_nonneg (show 0 ≤ 1/100 - A by grind) (show 0 ≤ 5/8 - Z by grind)
    have p4 := Rat.mul_nonneg (show 0 ≤ 1/100 + A by grind) (show 0 ≤ 5/8 + Z by grind)
    constructor <;> grind)
  generalize hu : p2 (((0 : Nat) : Int) - 53) = u at *
  obtain ⟨m, m1, m2⟩ := mul_ap (1/100) (5/8) 0 (by omega) ha hz a1 a2 z1 z2 (by rw [p0]; grind)
  rw [hu] at m2
  obtain ⟨r, r1, r2⟩ := add_ap 0 (by omega) m2 hc (by rw [p0]; grind) (by rw [p0]; grind)
  rw [hu] at r2
  exact ⟨m, r, m1, r1, r2.mono (by grind)⟩
/-- The next factor stays small. -/
theorem horner_bd {A Z V : Rat} (α v b : Rat) (a1 : A ≤ α) (a2 : -α ≤ A) (z1 : Z ≤ 5/8) (z2 : 0 ≤ Z) (v1 : V ≤ v) (v2 : -v ≤ V) (hb : 5/8 * α + v ≤ b) : A * Z + V ≤ b ∧ -b ≤ A * Z + V := by
  have p1 := Rat.mul_nonneg (show 0 ≤ α - A by grind) z2
  have p2 := Rat.mul_nonneg (show 0 ≤ α + A by grind) z2
  have p3 := Rat.mul_nonneg (show 0 ≤ α by grind) (show 0 ≤ 5/8 - Z by grind)
  constructor <;> grind
/-- Five steps of Horner's rule. -/
theorem poly5 {c0 c1 c2 c3 c4 c5 zz : Nat} {V0 V1 V2 V3 V4 V5 Z d : Rat} (h0 : Ap c0 V0 0) (g1 : Ap c1 V1 0) (g2 : Ap c2 V2 0) (g3 : Ap c3 V3 0) (g4 : Ap c4 V4 0) (g5 : Ap c5 V5 0)
    (b0 : V0 ≤ 1 / 1000000 ∧ -(1 / 1000000) ≤ V0) (b1 : V1 ≤ 1 / 10000000 ∧ -(1 / 10000000) ≤ V1) (b2 : V2 ≤ 3 / 1000000 ∧ -(3 / 1000000) ≤ V2) (b3 : V3 ≤ 2 / 10000 ∧ -(2 / 10000) ≤ V3) (b4 : V4 ≤ 84 / 10000 ∧ -(84 / 10000) ≤ V4) (b5 : V5 ≤ 1667 / 10000 ∧ -(1667 / 10000) ≤ V5)
    (hz : Ap zz Z d) (z1 : Z ≤ 5/8) (z2 : 0 ≤ Z) (hd : d ≤ 2 / 100000000000000) :
    ∃ m1 h1 m2 h2 m3 h3 m4 h4 m5 h5, double.mul c0 zz = some m1 ∧ double.add m1 c1 = some h1 ∧ double.mul h1 zz = some m2 ∧ double.add m2 c2 = some h2 ∧ double.mul h2 zz = some m3 ∧ double.add m3 c3 = some h3 ∧ double.mul h3 zz = some m4 ∧ double.add m4 c4 = some h4 ∧ double.mul h4 zz = some m5 ∧ double.add m5 c5 = some h5 ∧
      Ap h5 (((((V0 * Z + V1) * Z + V2) * Z + V3) * Z + V4) * Z + V5) (14 / 10000000000000000) ∧ ((((V0 * Z + V1) * Z + V2) * Z + V3) * Z + V4) * Z + V5 ≤ 173 / 1000 ∧ -(173 / 1000) ≤ ((((V0 * Z + V1) * Z + V2) * Z + V3) * Z + V4) * Z + V5 := by
  obtain ⟨m1, h1, e1, f1, a1'⟩ := horner h0 hz g1 (by grind) (by grind) z1 (by grind) (by grind) (by grind) (by grind) hd
  have a1 := a1'.mono (e' := 5 / 10000000000000000) (by grind)
  obtain ⟨u1, l1⟩ := horner_bd (1 / 1000000) (1 / 10000000) (1 / 1000000) b0.1 b0.2 z1 z2 b1.1 b1.2 (by grind)
  generalize V0 * Z + V1 = H1 at *
  obtain ⟨m2, h2, e2, f2, a2'⟩ := horner a1 hz g2 (by grind) (by grind) z1 (by grind) (by grind) (by grind) (by grind) hd
  have a2 := a2'.mono (e' := 9 / 10000000000000000) (by grind)
  obtain ⟨u2, l2⟩ := horner_bd (1 / 1000000) (3 / 1000000) (4 / 1000000) u1 l1 z1 z2 b2.1 b2.2 (by grind)
  generalize H1 * Z + V2 = H2 at *
  obtain ⟨m3, h3, e3, f3, a3'⟩ := horner a2 hz g3 (by grind) (by grind) z1 (by grind) (by grind) (by grind) (by grind) hd
  have a3 := a3'.mono (e' := 11 / 10000000000000000) (by grind)
  obtain ⟨u3, l3⟩ := horner_bd (4 / 1000000) (2 / 10000) (21 / 100000) u2 l2 z1 z2 b3.1 b3.2 (by grind)
  generalize H2 * Z + V3 = H3 at *
  obtain ⟨m4, h4, e4, f4, a4'⟩ := horner a3 hz g4 (by grind) (by grind) z1 (by grind) (by grind) (by grind) (by grind) hd
  have a4 := a4'.mono (e' := 12 / 10000000000000000) (by grind)
  obtain ⟨u4, l4⟩ := horner_bd (21 / 100000) (84 / 10000) (86 / 10000) u3 l3 z1 z2 b4.1 b4.2 (by grind)
  generalize H3 * Z + V4 = H4 at *
  obtain ⟨m5, h5, e5, f5, a5'⟩ := horner a4 hz g5 (by grind) (by grind) z1 (by grind) (by grind) (by grind) (by grind) hd
  have a5 := a5'.mono (e' := 14 / 10000000000000000) (by grind)
  obtain ⟨u5, l5⟩ := horner_bd (86 / 10000) (1667 / 10000) (173 / 1000) u4 l4 z1 z2 b5.1 b5.2 (by grind)
  exact ⟨m1, h1, m2, h2, m3, h3, m4, h4, m5, h5, e1, f1, e2, f2, e3, f3, e4, f4, e5, f5, a5, u5, l5⟩
theorem bil2 {u v c d : Rat} (u1 : -c ≤ u) (u2 : u ≤ c) (v1 : -d ≤ v) (v2 : v ≤ d) : u * v ≤ c * d ∧ -(c * d) ≤ u * v := by
  have p1 := Rat.mul_nonneg (show 0 ≤ c - u by grind) (show 0 ≤ d + v by grind)
  have p2 := Rat.mul_nonneg (show 0 ≤ c + u by grind) (show 0 ≤ d - v by grind)
  have p3 := Rat.mul_nonneg (show 0 ≤ c - u by grind) (show 0 ≤ d - v by grind)
  have p4 := Rat.mul_nonneg (show 0 ≤ c + u by grind) (show 0 ≤ d + v by grind)
  constructor <;> grind

def sC0 : Nat := 4460209587652500685
def sC1 : Nat := 13716528389658582877
def sC2 : Nat := 4523617212962785441
def sC3 : Nat := 13774824197404483331
def sC4 : Nat := 4575957461383575504
def sC5 : Nat := 13818544856648471880
def cC0 : Nat := 13666448263388469915
def cC1 : Nat := 4477121864728985349
def cC2 : Nat := 13732177093698800582
def cC3 : Nat := 4537941361668146421
def cC4 : Nat := 13787419979223748497
def cC5 : Nat := 4586165620538955083
def wOne : Nat := 4607182418800017408
def wHalf : Nat := 4602678819172646912

/-- What the polynomial of the sine runs through. -/
def SinP (z y : Nat) : Prop := ∃ zz m1 h1 m2 h2 m3 h3 m4 h4 m5 h5 t p, double.mul z z = some zz ∧ double.mul sC0 zz = some m1 ∧ double.add m1 sC1 = some h1 ∧ double.mul h1 zz = some m2 ∧ double.add m2 sC2 = some h2 ∧ double.mul h2 zz = some m3 ∧ double.add m3 sC3 = some h3 ∧ double.mul h3 zz = some m4 ∧ double.add m4 sC4 = some h4 ∧ double.mul h4 zz = some m5 ∧ double.add m5 sC5 = some h5 ∧ double.mul z zz = some t ∧ double.mul t h5 = some p ∧ double.add z p = some y
def CosP (z y : Nat) : Prop := ∃ zz m1 h1 m2 h2 m3 h3 m4 h4 m5 h5 v w t p, double.mul z z = some zz ∧ double.mul cC0 zz = some m1 ∧ double.add m1 cC1 = some h1 ∧ double.mul h1 zz = some m2 ∧ double.add m2 cC2 = some h2 ∧ double.mul h2 zz = some m3 ∧ double.add m3 cC3 = some h3 ∧ double.mul h3 zz = some m4 ∧ double.add m4 cC4 = some h4 ∧ double.mul h4 zz = some m5 ∧ double.add m5 cC5 = some h5 ∧ double.mul wHalf zz = some v ∧ double.sub wOne v = some w ∧ double.mul zz zz = some t ∧ double.mul t h5 = some p ∧ double.add w p = some y
/-- The sine of a small angle. -/
theorem sin_poly {z : Nat} {Z e : Rat} (hz : Ap z Z e) (z1 : Z ≤ 393/500) (z2 : -(393/500) ≤ Z) (he : e ≤ 12 / 1000000000000000) :
    ∃ y, SinP z y ∧ Ap y (Z + Z * (Z * Z) * (((((cv sC0 * (Z * Z) + cv sC1) * (Z * Z) + cv sC2) * (Z * Z) + cv sC3) * (Z * Z) + cv sC4) * (Z * Z) + cv sC5)) (18 / 1000000000000000) := by
  have p0 : p2 ((0 : Nat) : Int) = 1 := by decide +kernel
  have nn : p2 (((0 : Nat) : Int) - 53) ≤ 12 / 100000000000000000 := by decide +kernel
  have n0 := Rat.le_of_lt (p2_pos (((0 : Nat) : Int) - 53))
  have p1 : p2 ((1 : Nat) : Int) = 2 := by decide +kernel
  have nn1 : p2 (((1 : Nat) : Int) - 53) ≤ 23 / 100000000000000000 := by decide +kernel
  have n1 := Rat.le_of_lt (p2_pos (((1 : Nat) : Int) - 53))
  have e0 := hz.pos
  have q1 := Rat.mul_nonneg (show 0 ≤ 393/500 - Z by grind) (show 0 ≤ 393/500 + Z by grind)
  have q2 : 0 ≤ Z * Z := by
    by_cases q : 0 ≤ Z
    · exact Rat.mul_nonneg q q
    · have := Rat.mul_nonneg (show 0 ≤ -Z by grind) (show 0 ≤ -Z by grind); grind
  have z3 : Z * Z ≤ 5/8 := by grind
  have z4 : -(5/8) ≤ Z * Z := by grind
  have ee := Rat.mul_le_mul_of_nonneg_left he e0
  obtain ⟨zz, k1, k2⟩ := mul_ap (393/500) (393/500) 0 (by omega) hz hz z1 z2 z1 z2 (by rw [p0]; grind)
  have hzz := k2.mono (e' := 191 / 10000000000000000) (by grind)
  clear k2
  have b0 : cv sC0 ≤ 1 / 1000000 ∧ -(1 / 1000000) ≤ cv sC0 := by decide +kernel
  have b1 : cv sC1 ≤ 1 / 10000000 ∧ -(1 / 10000000) ≤ cv sC1 := by decide +kernel
  have b2 : cv sC2 ≤ 3 / 1000000 ∧ -(3 / 1000000) ≤ cv sC2 := by decide +kernel
  have b3 : cv sC3 ≤ 2 / 10000 ∧ -(2 / 10000) ≤ cv sC3 := by decide +kernel
  have b4 : cv sC4 ≤ 84 / 10000 ∧ -(84 / 10000) ≤ cv sC4 := by decide +kernel
  have b5 : cv sC5 ≤ 1667 / 10000 ∧ -(1667 / 10000) ≤ cv sC5 := by decide +kernel
  obtain ⟨m1, h1, m2, h2, m3, h3, m4, h4, m5, h5, e1, f1, e2, f2, e3, f3, e4, f4, e5, f5, a5, u5, l5⟩ := poly5 (cv_ap (show isNum sC0 = true by decide +kernel)) (cv_ap (show isNum sC1 = true by decide +kernel)) (cv_ap (show isNum sC2 = true by decide +kernel)) (cv_ap (show isNum sC3 = true by decide +kernel)) (cv_ap (show isNum sC4 = true by decide +kernel)) (cv_ap (show isNum sC5 = true by decide +kernel)) b0 b1 b2 b3 b4 b5 hzz z3 q2 (by grind)
  obtain ⟨t, g1, g2⟩ := mul_ap (393/500) (5/8) 0 (by omega) hz hzz z1 z2 z3 z4 (by rw [p0]; grind)
  have ht := g2.mono (e' := 23 / 1000000000000000) (by grind)
  clear g2
  have tb : Z * (Z * Z) ≤ 1/2 ∧ -(1/2) ≤ Z * (Z * Z) := by
    have r1 := Rat.mul_nonneg (show 0 ≤ 393/500 - Z by grind) (show 0 ≤ 5/8 - Z * Z by grind)
    have r2 := Rat.mul_nonneg (show 0 ≤ 393/500 + Z by grind) (show 0 ≤ 5/8 - Z * Z by grind)
    have r3 := Rat.mul_nonneg (show 0 ≤ 393/500 - Z by grind) q2
    have r4 := Rat.mul_nonneg (show 0 ≤ 393/500 + Z by grind) q2
    constructor <;> grind
  generalize hH : ((((cv sC0 * (Z * Z) + cv sC1) * (Z * Z) + cv sC2) * (Z * Z) + cv sC3) * (Z * Z) + cv sC4) * (Z * Z) + cv sC5 = H at *
  obtain ⟨p, i1, i2⟩ := mul_ap (1/2) (173/1000) 0 (by omega) ht a5 tb.1 tb.2 u5 l5 (by rw [p0]; grind)
  have hp := i2.mono (e' := 49 / 10000000000000000) (by grind)
  clear i2
  have pb := bil2 tb.2 tb.1 l5 u5
  obtain ⟨y, j1, j2⟩ := add_ap 1 (by omega) hz hp (by rw [p1]; grind) (by rw [p1]; grind)
  exact ⟨y, ⟨zz, m1, h1, m2, h2, m3, h3, m4, h4, m5, h5, t, p, k1, e1, f1, e2, f2, e3, f3, e4, f4, e5, f5, g1, i1, j1⟩, j2.mono (by grind)⟩
/-- The cosine of a small angle. -/
theorem cos_poly {z : Nat} {Z e : Rat} (hz : Ap z Z e) (z1 : Z ≤ 393/500) (z2 : -(393/500) ≤ Z) (he : e ≤ 12 / 1000000000000000) :
    ∃ y, CosP z y ∧ Ap y (1 - 1/2 * (Z * Z) + Z * Z * (Z * Z) * (((((cv cC0 * (Z * Z) + cv cC1) * (Z * Z) + cv cC2) * (Z * Z) + cv cC3) * (Z * Z) + cv cC4) * (Z * Z) + cv cC5)) (18 / 1000000000000000) := by
  have p0 : p2 ((0 : Nat) : Int) = 1 := by decide +kernel
  have nn : p2 (((0 : Nat) : Int) - 53) ≤ 12 / 100000000000000000 := by decide +kernel
  have n0 := Rat.le_of_lt (p2_pos (((0 : Nat) : Int) - 53))
  have p1 : p2 ((1 : Nat) : Int) = 2 := by decide +kernel
  have nn1 : p2 (((1 : Nat) : Int) - 53) ≤ 23 / 100000000000000000 := by decide +kernel
  have n1 := Rat.le_of_lt (p2_pos (((1 : Nat) : Int) - 53))
  have e0 := hz.pos
  have q1 := Rat.mul_nonneg (show 0 ≤ 393/500 - Z by grind) (show 0 ≤ 393/500 + Z by grind)
  have q2 : 0 ≤ Z * Z := by
    by_cases q : 0 ≤ Z
    · exact Rat.mul_nonneg q q
    · have := Rat.mul_nonneg (show 0 ≤ -Z by grind) (show 0 ≤ -Z by grind); grind
  have z3 : Z * Z ≤ 5/8 := by grind
  have z4 : -(5/8) ≤ Z * Z := by grind
  have ee := Rat.mul_le_mul_of_nonneg_left he e0
  obtain ⟨zz, k1, k2⟩ := mul_ap (393/500) (393/500) 0 (by omega) hz hz z1 z2 z1 z2 (by rw [p0]; grind)
  have hzz := k2.mono (e' := 191 / 10000000000000000) (by grind)
  clear k2
  have b0 : cv cC0 ≤ 1 / 1000000 ∧ -(1 / 1000000) ≤ cv cC0 := by decide +kernel
  have b1 : cv cC1 ≤ 1 / 10000000 ∧ -(1 / 10000000) ≤ cv cC1 := by decide +kernel
  have b2 : cv cC2 ≤ 3 / 1000000 ∧ -(3 / 1000000) ≤ cv cC2 := by decide +kernel
  have b3 : cv cC3 ≤ 2 / 10000 ∧ -(2 / 10000) ≤ cv cC3 := by decide +kernel
  have b4 : cv cC4 ≤ 84 / 10000 ∧ -(84 / 10000) ≤ cv cC4 := by decide +kernel
  have b5 : cv cC5 ≤ 1667 / 10000 ∧ -(1667 / 10000) ≤ cv cC5 := by decide +kernel
  obtain ⟨m1, h1, m2, h2, m3, h3, m4, h4, m5, h5, e1, f1, e2, f2, e3, f3, e4, f4, e5, f5, a5, u5, l5⟩ := poly5 (cv_ap (show isNum cC0 = true by decide +kernel)) (cv_ap (show isNum cC1 = true by decide +kernel)) (cv_ap (show isNum cC2 = true by decide +kernel)) (cv_ap (show isNum cC3 = true by decide +kernel)) (cv_ap (show isNum cC4 = true by decide +kernel)) (cv_ap (show isNum cC5 = true by decide +kernel)) b0 b1 b2 b3 b4 b5 hzz z3 q2 (by grind)
  have ho := cv_ap (show isNum wOne = true by decide +kernel)
  have hh := cv_ap (show isNum wHalf = true by decide +kernel)
  have ho1 : cv wOne = 1 := by decide +kernel
  have hh1 : cv wHalf = 1/2 := by decide +kernel
  rw [ho1] at ho
  rw [hh1] at hh
  obtain ⟨v, v1, v2⟩ := mul_ap (1/2) (5/8) 0 (by omega) hh hzz (by grind) (by grind) z3 z4 (by rw [p0]; grind)
  have hv := v2.mono (e' := 97 / 10000000000000000) (by grind)
  clear v2
  obtain ⟨w, w1, w2⟩ := sub_ap 1 (by omega) ho hv (by rw [p1]; grind) (by rw [p1]; grind)
  have hw := w2.mono (e' := 100 / 10000000000000000) (by grind)
  clear w2
  obtain ⟨t, g1, g2⟩ := mul_ap (5/8) (5/8) 0 (by omega) hzz hzz z3 z4 z3 z4 (by rw [p0]; grind)
  have ht := g2.mono (e' := 24 / 1000000000000000) (by grind)
  clear g2
  have tb : Z * Z * (Z * Z) ≤ 1/2 ∧ -(1/2) ≤ Z * Z * (Z * Z) := by
    have r1 := Rat.mul_nonneg (show 0 ≤ 5/8 - Z * Z by grind) q2
    have r2 := Rat.mul_nonneg q2 q2
    constructor <;> grind
  generalize hH : ((((cv cC0 * (Z * Z) + cv cC1) * (Z * Z) + cv cC2) * (Z * Z) + cv cC3) * (Z * Z) + cv cC4) * (Z * Z) + cv cC5 = H at *
  obtain ⟨p, i1, i2⟩ := mul_ap (1/2) (173/1000) 0 (by omega) ht a5 tb.1 tb.2 u5 l5 (by rw [p0]; grind)
  have hp := i2.mono (e' := 50 / 10000000000000000) (by grind)
  clear i2
  have pb := bil2 tb.2 tb.1 l5 u5
  obtain ⟨y, j1, j2⟩ := add_ap 1 (by omega) hw hp (by rw [p1]; grind) (by rw [p1]; grind)
  exact ⟨y, ⟨zz, m1, h1, m2, h2, m3, h3, m4, h4, m5, h5, v, w, t, p, k1, e1, f1, e2, f2, e3, f3, e4, f4, e5, f5, v1, w1, g1, i1, j1⟩, j2.mono (by grind)⟩
end Go.Proofs.YtffnmfcaoldlhaaDoor
