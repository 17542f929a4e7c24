/- Polynomials over the rational numbers, as lists of coefficients. No program in sight. The polynomials of math.sin in floating point, up to an error. No program in sight. The polynomials of math.sin are near the sine and the cosine. No program in sight. The reduction of an angle to an octant in floating point. No program in sight. math.sin's answer by octants is near the sine. No program in sight. -/
import Derived.Test.YtcgnhnmigmdalaaGreatDoorFltA
set_option linter.unusedVariables false
set_option linter.unusedSimpArgs false
namespace Go.Proofs.YtcgnhnmigmdalaaGreatDoor
section
/-- The value at a number. -/
def pv (p : List Rat) (x : Rat) : Rat := p.foldr (fun c a => c + x * a) 0
def padd : List Rat → List Rat → List Rat
  | [], q => q
  | p, [] => p
  | a :: p, b :: q => (a + b) :: padd p q
def pscale (c : Rat) (p : List Rat) : List Rat := p.map (c * ·)
def pmul : List Rat → List Rat → List Rat
  | [], _ => []
  | a :: p, q => padd (pscale a q) (0 :: pmul p q)
/-- p at x + h. -/
def pshift (h : Rat) : List Rat → List Rat
  | [] => []
  | a :: p => padd [a] (pmul [h, 1] (pshift h p))
/-- p at h x. -/
def pstretch (h : Rat) : Rat → List Rat → List Rat
  | _, [] => []
  | k, a :: p => (a * k) :: pstretch h (k * h) p
def rabs (x : Rat) : Rat := if 0 ≤ x then x else -x
/-- A bound of the values from -R to R. -/
def pbd (p : List Rat) (R : Rat) : Rat := p.foldr (fun c a => rabs c + R * a) 0
theorem pv_cons (a : Rat) (p : List Rat) (x : Rat) : pv (a :: p) x = a + x * pv p x := rfl
theorem pv_add : ∀ (p q : List Rat) (x : Rat), pv (padd p q) x = pv p x + pv q x
  | [], q, x => by unfold padd pv; simp; grind
  | a :: p, [], x => by unfold padd pv; simp; grind
  | a :: p, b :: q, x => by
    unfold padd
    rw [pv_cons, pv_cons, pv_cons, pv_add p q x]
    grind
theorem pv_scale (c : Rat) : ∀ (p : List Rat) (x : Rat), pv (pscale c p) x = c * pv p x
  | [], x => by unfold pscale pv; simp
  | a :: p, x => by
    have := pv_scale c p x
    unfold pscale at this ⊢
    rw [List.map_cons, pv_cons, pv_cons, this]
    grind
theorem pv_mul : ∀ (p q : List Rat) (x : Rat), pv (pmul p q) x = pv p x * pv q x
  | [], q, x => by unfold pmul pv; simp
  | a :: p, q, x => by
    unfold pmul
    rw [pv_add, pv_scale, pv_cons, pv_cons, pv_mul p q x]
    grind
theorem pv_shift (h : Rat) : ∀ (p : List Rat) (x : Rat), pv (pshift h p) x = pv p (x + h)
  | [], x => rfl
  | a :: p, x => by
    unfold pshift
    rw [pv_add, pv_mul, pv_shift h p x, pv_cons a p (x + h)]
    have e1 : pv [a] x = a := by unfold pv; simp; grind
    have e2 : pv [h, 1] x = x + h := by unfold pv; simp; grind
    rw [e1, e2]
theorem pv_stretch (h : Rat) : ∀ (p : List Rat) (k x : Rat), pv (pstretch h k p) x = k * pv p (h * x)
  | [], k, x => by unfold pstretch pv; simp
  | a :: p, k, x => by
    unfold pstretch
    rw [pv_cons, pv_cons, pv_stretch h p (k * h) x]
    grind
theorem rabs_le {x b : Rat} : rabs x ≤ b ↔ x ≤ b ∧ -b ≤ x := by
  unfold rabs
  split <;> constructor <;> intro h <;> first | (constructor <;> grind) | grind
theorem rabs_nonneg (x : Rat) : 0 ≤ rabs x := by unfold rabs; split <;> grind
theorem rabs_mul (x y : Rat) : rabs (x * y) = rabs x * rabs y := by
  have key : ∀ a b : Rat, 0 ≤ a → 0 ≤ b → 0 ≤ a * b := fun a b => Rat.mul_nonneg
  unfold rabs
  by_cases h1 : 0 ≤ x <;> by_cases h2 : 0 ≤ y
  · rw [if_pos h1, if_pos h2, if_pos (key _ _ h1 h2)]
  · rw [if_pos h1, if_neg h2]
    have := key x (-y) h1 (by grind)
    split <;> grind
  · rw [if_neg h1, if_pos h2]
    have := key (-x) y (by grind) h2
    split <;> grind
  · rw [if_neg h1, if_neg h2]
    have := key (-x) (-y) (by grind) (by grind)
    split <;> grind
theorem rabs_add (x y : Rat) : rabs (x + y) ≤ rabs x + rabs y := by
  unfold rabs; split <;> split <;> split <;> grind
theorem pbd_nonneg {R : Rat} (hR : 0 ≤ R) : ∀ p : List Rat, 0 ≤ pbd p R
  | [] => by unfold pbd; simp
  | a :: p => by
    have h1 := pbd_nonneg hR p
    have h2 := Rat.mul_nonneg hR h1
    have h3 := rabs_nonneg a
    show 0 ≤ rabs a + R * pbd p R
    grind
theorem pv_bd {R x : Rat} (hx : rabs x ≤ R) : ∀ p : List Rat, rabs (pv p x) ≤ pbd p R
  | [] => by unfold pv pbd rabs; simp
  | a :: p => by
    have h0 := rabs_nonneg x
    have h1 := pv_bd hx p
    have h2 := pbd_nonneg (R := R) (by grind) p
    have h3 := rabs_add a (x * pv p x)
    rw [rabs_mul] at h3
    have h4 := Rat.mul_le_mul_of_nonneg_left h1 h0
    have h5 := Rat.mul_le_mul_of_nonneg_right hx h2
    show rabs (a + x * pv p x) ≤ rabs a + R * pbd p R
    grind
/-- Two polynomials are near where the bound of their difference is small. -/
theorem pv_near {R x e : Rat} (hx : rabs x ≤ R) (p q : List Rat) (hb : pbd (padd p (pscale (-1) q)) R ≤ e) : pv p x ≤ pv q x + e ∧ pv q x ≤ pv p x + e := by
  have h := pv_bd hx (padd p (pscale (-1) q))
  rw [pv_add, pv_scale] at h
  obtain ⟨h1, h2⟩ := rabs_le.1 (show rabs (pv p x + -1 * pv q x) ≤ e by grind)
  constructor <;> grind
/-- Taylor's polynomials of the sine and the cosine. -/
def tayF : Nat → Nat → Rat → List Rat
  | 0, _, _ => []
  | n + 1, k, c => c :: tayF n (k + 1) (c / ((k + 1 : Nat) : Rat))
def signs : Nat → List Rat → List Rat
  | _, [] => []
  | k, a :: p => (if k % 4 = 0 then 0 else if k % 4 = 1 then a else if k % 4 = 2 then 0 else -a) :: signs (k + 1) p
def sT : List Rat := signs 0 (tayF 48 0 1)
def cT : List Rat := signs 1 (tayF 48 0 1)
def S (x : Rat) : Rat := pv sT x
def C (x : Rat) : Rat := pv cT x
theorem double_sin : pbd (padd (pstretch 2 1 sT) (pscale (-1) (pscale 2 (pmul sT cT)))) (16/5) ≤ 1 / 10 ^ 18 := by decide +kernel
theorem double_cos : pbd (padd (pstretch 2 1 cT) (pscale (-1) (padd [1] (pscale (-2) (pmul sT sT))))) (16/5) ≤ 1 / 10 ^ 18 := by decide +kernel
/-- The half of a turn, to forty digits. -/
def piQ : Rat := 31415926535897932384626433832795028841971 / 10 ^ 40
theorem quart1s : pbd (padd (pshift (piQ / 2) sT) (pscale (-1) cT)) (4/5) ≤ 1 / 10 ^ 18 := by decide +kernel
theorem quart2s : pbd (padd (pshift piQ sT) (pscale (-1) (pscale (-1) sT))) (4/5) ≤ 1 / 10 ^ 18 := by decide +kernel
theorem quart3s : pbd (padd (pshift (3 * piQ / 2) sT) (pscale (-1) (pscale (-1) cT))) (4/5) ≤ 1 / 10 ^ 18 := by decide +kernel
theorem quart4s : pbd (padd (pshift (2 * piQ) sT) (pscale (-1) sT)) (4/5) ≤ 1 / 10 ^ 18 := by decide +kernel
theorem circle : pbd (padd (padd (pmul sT sT) (pmul cT cT)) [-1]) (16/5) ≤ 1 / 10 ^ 18 := by decide +kernel
theorem sin_cos_le {y : Rat} (hy : rabs y ≤ 16/5) : (S y ≤ 1 + 1 / 10 ^ 18 ∧ -(1 + 1 / 10 ^ 18) ≤ S y) ∧ C y ≤ 1 + 1 / 10 ^ 18 ∧ -(1 + 1 / 10 ^ 18) ≤ C y := by
  have h := pv_bd hy (padd (padd (pmul sT sT) (pmul cT cT)) [-1])
  rw [pv_add, pv_add, pv_mul, pv_mul] at h
  have e1 : pv [-1] y = -1 := by unfold pv; simp; grind
  rw [e1] at h
  obtain ⟨h1, h2⟩ := rabs_le.1 (show rabs (S y * S y + C y * C y + -1) ≤ 1 / 10 ^ 18 by have := circle; unfold S C; grind)
  have sq : ∀ a : Rat, 0 ≤ a * a := fun a => by
    by_cases q : 0 ≤ a
    · exact Rat.mul_nonneg q q
    · have := Rat.mul_nonneg (show 0 ≤ -a by grind) (show 0 ≤ -a by grind); grind
  have key : ∀ a : Rat, a * a ≤ 1 + 1 / 10 ^ 18 → a ≤ 1 + 1 / 10 ^ 18 ∧ -(1 + 1 / 10 ^ 18) ≤ a := by
    intro a ha
    constructor
    · by_cases q : a ≤ 1 + 1 / 10 ^ 18
      · exact q
      · have := Rat.mul_nonneg (show 0 ≤ a - (1 + 1 / 10 ^ 18) by grind) (show 0 ≤ a by grind)
        grind
    · by_cases q : -(1 + 1 / 10 ^ 18) ≤ a
      · exact q
      · have := Rat.mul_nonneg (show 0 ≤ -a - (1 + 1 / 10 ^ 18) by grind) (show 0 ≤ -a by grind)
        grind
  have q1 := sq (S y)
  have q2 := sq (C y)
  exact ⟨key (S y) (by grind), key (C y) (by grind)⟩
theorem sin_double {y : Rat} (hy : rabs y ≤ 16/5) : S (2 * y) ≤ 2 * S y * C y + 1 / 10 ^ 18 ∧ 2 * S y * C y ≤ S (2 * y) + 1 / 10 ^ 18 := by
  have h := pv_near hy _ _ double_sin
  rw [pv_stretch, pv_scale, pv_mul] at h
  unfold S C
  constructor <;> grind
theorem cos_double {y : Rat} (hy : rabs y ≤ 16/5) : C (2 * y) ≤ 1 - 2 * S y * S y + 1 / 10 ^ 18 ∧ 1 - 2 * S y * S y ≤ C (2 * y) + 1 / 10 ^ 18 := by
  have h := pv_near hy _ _ double_cos
  rw [pv_stretch, pv_add, pv_scale, pv_mul] at h
  have e1 : pv [1] y = 1 := by unfold pv; simp; grind
  rw [e1] at h
  unfold S C
  constructor <;> grind
end
section
open Ieee
/-- What a word stands for. -/
def cv (w : Nat) : Rat := match double.read w with
  | .number s m e => rv s m e
  | _ => 0
def isNum (w : Nat) : Bool := match double.read w with
  | .number _ _ _ => true
  | _ => false
theorem cv_ap {w : Nat} (h : isNum w = true) : Ap w (cv w) 0 := by
  unfold isNum at h
  unfold cv
  cases hr : double.read w with
  | number s m e => exact ⟨s, m, e, hr, by simp; grind, by simp; grind⟩
  | infinity s => rw [hr] at h; cases h
  | nan s t => rw [hr] at h; cases h
theorem horner {acc zz c : Nat} {A Z V e d : Rat} (ha : Ap acc A e) (hz : Ap zz Z d) (hc : Ap c V 0) (a1 : A ≤ 1/100) (a2 : -(1/100) ≤ A) (z1 : Z ≤ 5/8) (z2 : -(5/8) ≤ Z) (v1 : V ≤ 3/16) (v2 : -(3/16) ≤ V) (he : e ≤ 2 / 1000000000000000) (hd : d ≤ 2 / 100000000000000) :
    ∃ m r, double.mul acc zz = some m ∧ double.add m c = some r ∧ Ap r (A * Z + V) (5/8 * e + 5 / 10000000000000000) := by
  have e0 := ha.pos
  have d0 := hz.pos
  have ed := Rat.mul_le_mul_of_nonneg_right he d0
  have nn : p2 (((0 : Nat) : Int) - 53) ≤ 12 / 100000000000000000 := by decide +kernel
  have p0 : p2 ((0 : Nat) : Int) = 1 := by decide +kernel
  obtain ⟨b1, b2⟩ := (show A * Z ≤ 1/100 * (5/8) ∧ -(1/100 * (5/8)) ≤ A * Z from by
    have p1 := Rat.mul_nonneg (show 0 ≤ 1/100 - A by grind) (show 0 ≤ 5/8 + Z by grind)
    have p2 := Rat.mul_nonneg (show 0 ≤ 1/100 + A by grind) (show 0 ≤ 5/8 - Z by grind)
    have p3 := Rat.mul_nonneg (show 0 ≤ 1/100 - A by grind) (show 0 ≤ 5/8 - Z by grind)
    have p4 := Rat.mul_nonneg (show 0 ≤ 1/100 + A by grind) (show 0 ≤ 5/8 + Z by grind)
    constructor <;> grind)
  generalize hu : p2 (((0 : Nat) : Int) - 53) = u at *
  obtain ⟨m, m1, m2⟩ := mul_ap (1/100) (5/8) 0 (by omega) ha hz a1 a2 z1 z2 (by rw [p0]; grind)
  rw [hu] at m2
  obtain ⟨r, r1, r2⟩ := add_ap 0 (by omega) m2 hc (by rw [p0]; grind) (by rw [p0]; grind)
  rw [hu] at r2
  exact ⟨m, r, m1, r1, r2.mono (by grind)⟩
/-- The next factor stays small. -/
theorem horner_bd {A Z V : Rat} (α v b : Rat) (a1 : A ≤ α) (a2 : -α ≤ A) (z1 : Z ≤ 5/8) (z2 : 0 ≤ Z) (v1 : V ≤ v) (v2 : -v ≤ V) (hb : 5/8 * α + v ≤ b) : A * Z + V ≤ b ∧ -b ≤ A * Z + V := by
  have p1 := Rat.mul_nonneg (show 0 ≤ α - A by grind) z2
  have p2 := Rat.mul_nonneg (show 0 ≤ α + A by grind) z2
  have p3 := Rat.mul_nonneg (show 0 ≤ α by grind) (show 0 ≤ 5/8 - Z by grind)
  constructor <;> grind
/-- Five steps of Horner's rule. -/
theorem poly5 {c0 c1 c2 c3 c4 c5 zz : Nat} {V0 V1 V2 V3 V4 V5 Z d : Rat} (h0 : Ap c0 V0 0) (g1 : Ap c1 V1 0) (g2 : Ap c2 V2 0) (g3 : Ap c3 V3 0) (g4 : Ap c4 V4 0) (g5 : Ap c5 V5 0)
    (b0 : V0 ≤ 1 / 1000000 ∧ -(1 / 1000000) ≤ V0) (b1 : V1 ≤ 1 / 10000000 ∧ -(1 / 10000000) ≤ V1) (b2 : V2 ≤ 3 / 1000000 ∧ -(3 / 1000000) ≤ V2) (b3 : V3 ≤ 2 / 10000 ∧ -(2 / 10000) ≤ V3) (b4 : V4 ≤ 84 / 10000 ∧ -(84 / 10000) ≤ V4) (b5 : V5 ≤ 1667 / 10000 ∧ -(1667 / 10000) ≤ V5)
    (hz : Ap zz Z d) (z1 : Z ≤ 5/8) (z2 : 0 ≤ Z) (hd : d ≤ 2 / 100000000000000) :
    ∃ m1 h1 m2 h2 m3 h3 m4 h4 m5 h5, double.mul c0 zz = some m1 ∧ double.add m1 c1 = some h1 ∧ double.mul h1 zz = some m2 ∧ double.add m2 c2 = some h2 ∧ double.mul h2 zz = some m3 ∧ double.add m3 c3 = some h3 ∧ double.mul h3 zz = some m4 ∧ double.add m4 c4 = some h4 ∧ double.mul h4 zz = some m5 ∧ double.add m5 c5 = some h5 ∧
      Ap h5 (((((V0 * Z + V1) * Z + V2) * Z + V3) * Z + V4) * Z + V5) (14 / 10000000000000000) ∧ ((((V0 * Z + V1) * Z + V2) * Z + V3) * Z + V4) * Z + V5 ≤ 173 / 1000 ∧ -(173 / 1000) ≤ ((((V0 * Z + V1) * Z + V2) * Z + V3) * Z + V4) * Z + V5 := by
  obtain ⟨m1, h1, e1, f1, a1'⟩ := horner h0 hz g1 (by grind) (by grind) z1 (by grind) (by grind) (by grind) (by grind) hd
  have a1 := a1'.mono (e' := 5 / 10000000000000000) (by grind)
  obtain ⟨u1, l1⟩ := horner_bd (1 / 1000000) (1 / 10000000) (1 / 1000000) b0.1 b0.2 z1 z2 b1.1 b1.2 (by grind)
  generalize V0 * Z + V1 = H1 at *
  obtain ⟨m2, h2, e2, f2, a2'⟩ := horner a1 hz g2 (by grind) (by grind) z1 (by grind) (by grind) (by grind) (by grind) hd
  have a2 := a2'.mono (e' := 9 / 10000000000000000) (by grind)
  obtain ⟨u2, l2⟩ := horner_bd (1 / 1000000) (3 / 1000000) (4 / 1000000) u1 l1 z1 z2 b2.1 b2.2 (by grind)
  generalize H1 * Z + V2 = H2 at *
  obtain ⟨m3, h3, e3, f3, a3'⟩ := horner a2 hz g3 (by grind) (by grind) z1 (by grind) (by grind) (by grind) (by grind) hd
  have a3 := a3'.mono (e' := 11 / 10000000000000000) (by grind)
  obtain ⟨u3, l3⟩ := horner_bd (4 / 1000000) (2 / 10000) (21 / 100000) u2 l2 z1 z2 b3.1 b3.2 (by grind)
  generalize H2 * Z + V3 = H3 at *
  obtain ⟨m4, h4, e4, f4, a4'⟩ := horner a3 hz g4 (by grind) (by grind) z1 (by grind) (by grind) (by grind) (by grind) hd
  have a4 := a4'.mono (e' := 12 / 10000000000000000) (by grind)
  obtain ⟨u4, l4⟩ := horner_bd (21 / 100000) (84 / 10000) (86 / 10000) u3 l3 z1 z2 b4.1 b4.2 (by grind)
  generalize H3 * Z + V4 = H4 at *
  obtain ⟨m5, h5, e5, f5, a5'⟩ := horner a4 hz g5 (by grind) (by grind) z1 (by grind) (by grind) (by grind) (by grind) hd
  have a5 := a5'.mono (e' := 14 / 10000000000000000) (by grind)
  obtain ⟨u5, l5⟩ := horner_bd (86 / 10000) (1667 / 10000) (173 / 1000) u4 l4 z1 z2 b5.1 b5.2 (by grind)
  exact ⟨m1, h1, m2, h2, m3, h3, m4, h4, m5, h5, e1, f1, e2, f2, e3, f3, e4, f4, e5, f5, a5, u5, l5⟩
theorem bil2 {u v c d : Rat} (u1 : -c ≤ u) (u2 : u ≤ c) (v1 : -d ≤ v) (v2 : v ≤ d) : u * v ≤ c * d ∧ -(c * d) ≤ u * v := by
  have p1 := Rat.mul_nonneg (show 0 ≤ c - u by grind) (show 0 ≤ d + v by grind)
  have p2 := Rat.mul_nonneg (show 0 ≤ c + u by grind) (show 0 ≤ d - v by grind)
  have p3 := Rat.mul_nonneg (show 0 ≤ c - u by grind) (show 0 ≤ d - v by grind)
  have p4 := Rat.mul_nonneg (show 0 ≤ c + u by grind) (show 0 ≤ d + v by grind)
  constructor <;> grind

def sC0 : Nat := 4460209587652500685
def sC1 : Nat := 13716528389658582877
def sC2 : Nat := 4523617212962785441
def sC3 : Nat := 13774824197404483331
def sC4 : Nat := 4575957461383575504
def sC5 : Nat := 13818544856648471880
def cC0 : Nat := 13666448263388469915
def cC1 : Nat := 4477121864728985349
def cC2 : Nat := 13732177093698800582
def cC3 : Nat := 4537941361668146421
def cC4 : Nat := 13787419979223748497
def cC5 : Nat := 4586165620538955083
def wOne : Nat := 4607182418800017408
def wHalf : Nat := 4602678819172646912

/-- What the polynomial of the sine runs through. -/
def SinP (z y : Nat) : Prop := ∃ zz m1 h1 m2 h2 m3 h3 m4 h4 m5 h5 t p, double.mul z z = some zz ∧ double.mul sC0 zz = some m1 ∧ double.add m1 sC1 = some h1 ∧ double.mul h1 zz = some m2 ∧ double.add m2 sC2 = some h2 ∧ double.mul h2 zz = some m3 ∧ double.add m3 sC3 = some h3 ∧ double.mul h3 zz = some m4 ∧ double.add m4 sC4 = some h4 ∧ double.mul h4 zz = some m5 ∧ double.add m5 sC5 = some h5 ∧ double.mul z zz = some t ∧ double.mul t h5 = some p ∧ double.add z p = some y
def CosP (z y : Nat) : Prop := ∃ zz m1 h1 m2 h2 m3 h3 m4 h4 m5 h5 v w t p, double.mul z z = some zz ∧ double.mul cC0 zz = some m1 ∧ double.add m1 cC1 = some h1 ∧ double.mul h1 zz = some m2 ∧ double.add m2 cC2 = some h2 ∧ double.mul h2 zz = some m3 ∧ double.add m3 cC3 = some h3 ∧ double.mul h3 zz = some m4 ∧ double.add m4 cC4 = some h4 ∧ double.mul h4 zz = some m5 ∧ double.add m5 cC5 = some h5 ∧ double.mul wHalf zz = some v ∧ double.sub wOne v = some w ∧ double.mul zz zz = some t ∧ double.mul t h5 = some p ∧ double.add w p = some y
/-- The sine of a small angle. -/
theorem sin_poly {z : Nat} {Z e : Rat} (hz : Ap z Z e) (z1 : Z ≤ 393/500) (z2 : -(393/500) ≤ Z) (he : e ≤ 12 / 1000000000000000) :
    ∃ y, SinP z y ∧ Ap y (Z + Z * (Z * Z) * (((((cv sC0 * (Z * Z) + cv sC1) * (Z * Z) + cv sC2) * (Z * Z) + cv sC3) * (Z * Z) + cv sC4) * (Z * Z) + cv sC5)) (18 / 1000000000000000) := by
  have p0 : p2 ((0 : Nat) : Int) = 1 := by decide +kernel
  have nn : p2 (((0 : Nat) : Int) - 53) ≤ 12 / 100000000000000000 := by decide +kernel
  have n0 := Rat.le_of_lt (p2_pos (((0 : Nat) : Int) - 53))
  have p1 : p2 ((1 : Nat) : Int) = 2 := by decide +kernel
  have nn1 : p2 (((1 : Nat) : Int) - 53) ≤ 23 / 100000000000000000 := by decide +kernel
  have n1 := Rat.le_of_lt (p2_pos (((1 : Nat) : Int) - 53))
  have e0 := hz.pos
  have q1 := Rat.mul_nonneg (show 0 ≤ 393/500 - Z by grind) (show 0 ≤ 393/500 + Z by grind)
  have q2 : 0 ≤ Z * Z := by
    by_cases q : 0 ≤ Z
    · exact Rat.mul_nonneg q q
    · have := Rat.mul_nonneg (show 0 ≤ -Z by grind) (show 0 ≤ -Z by grind); grind
  have z3 : Z * Z ≤ 5/8 := by grind
  have z4 : -(5/8) ≤ Z * Z := by grind
  have ee := Rat.mul_le_mul_of_nonneg_left he e0
  obtain ⟨zz, k1, k2⟩ := mul_ap (393/500) (393/500) 0 (by omega) hz hz z1 z2 z1 z2 (by rw [p0]; grind)
  have hzz := k2.mono (e' := 191 / 10000000000000000) (by grind)
  clear k2
  have b0 : cv sC0 ≤ 1 / 1000000 ∧ -(1 / 1000000) ≤ cv sC0 := by decide +kernel
  have b1 : cv sC1 ≤ 1 / 10000000 ∧ -(1 / 10000000) ≤ cv sC1 := by decide +kernel
  have b2 : cv sC2 ≤ 3 / 1000000 ∧ -(3 / 1000000) ≤ cv sC2 := by decide +kernel
  have b3 : cv sC3 ≤ 2 / 10000 ∧ -(2 / 10000) ≤ cv sC3 := by decide +kernel
  have b4 : cv sC4 ≤ 84 / 10000 ∧ -(84 / 10000) ≤ cv sC4 := by decide +kernel
  have b5 : cv sC5 ≤ 1667 / 10000 ∧ -(1667 / 10000) ≤ cv sC5 := by decide +kernel
  obtain ⟨m1, h1, m2, h2, m3, h3, m4, h4, m5, h5, e1, f1, e2, f2, e3, f3, e4, f4, e5, f5, a5, u5, l5⟩ := poly5 (cv_ap (show isNum sC0 = true by decide +kernel)) (cv_ap (show isNum sC1 = true by decide +kernel)) (cv_ap (show isNum sC2 = true by decide +kernel)) (cv_ap (show isNum sC3 = true by decide +kernel)) (cv_ap (show isNum sC4 = true by decide +kernel)) (cv_ap (show isNum sC5 = true by decide +kernel)) b0 b1 b2 b3 b4 b5 hzz z3 q2 (by grind)
  obtain ⟨t, g1, g2⟩ := mul_ap (393/500) (5/8) 0 (by omega) hz hzz z1 z2 z3 z4 (by rw [p0]; grind)
  have ht := g2.mono (e' := 23 / 1000000000000000) (by grind)
  clear g2
  have tb : Z * (Z * Z) ≤ 1/2 ∧ -(1/2) ≤ Z * (Z * Z) := by
    have r1 := Rat.mul_nonneg (show 0 ≤ 393/500 - Z by grind) (show 0 ≤ 5/8 - Z * Z by grind)
    have r2 := Rat.mul_nonneg (show 0 ≤ 393/500 + Z by grind) (show 0 ≤ 5/8 - Z * Z by grind)
    have r3 := Rat.mul_nonneg (show 0 ≤ 393/500 - Z by grind) q2
    have r4 := Rat.mul_nonneg (show 0 ≤ 393/500 + Z by grind) q2
    constructor <;> grind
  generalize hH : ((((cv sC0 * (Z * Z) + cv sC1) * (Z * Z) + cv sC2) * (Z * Z) + cv sC3) * (Z * Z) + cv sC4) * (Z * Z) + cv sC5 = H at *
  obtain ⟨p, i1, i2⟩ := mul_ap (1/2) (173/1000) 0 (by omega) ht a5 tb.1 tb.2 u5 l5 (by rw [p0]; grind)
  have hp := i2.mono (e' := 49 / 10000000000000000) (by grind)
  clear i2
  have pb := bil2 tb.2 tb.1 l5 u5
  obtain ⟨y, j1, j2⟩ := add_ap 1 (by omega) hz hp (by rw [p1]; grind) (by rw [p1]; grind)
  exact ⟨y, ⟨zz, m1, h1, m2, h2, m3, h3, m4, h4, m5, h5, t, p, k1, e1, f1, e2, f2, e3, f3, e4, f4, e5, f5, g1, i1, j1⟩, j2.mono (by grind)⟩
/-- The cosine of a small angle. -/
theorem cos_poly {z : Nat} {Z e : Rat} (hz : Ap z Z e) (z1 : Z ≤ 393/500) (z2 : -(393/500) ≤ Z) (he : e ≤ 12 / 1000000000000000) :
    ∃ y, CosP z y ∧ Ap y (1 - 1/2 * (Z * Z) + Z * Z * (Z * Z) * (((((cv cC0 * (Z * Z) + cv cC1) * (Z * Z) + cv cC2) * (Z * Z) + cv cC3) * (Z * Z) + cv cC4) * (Z * Z) + cv cC5)) (18 / 1000000000000000) := by
  have p0 : p2 ((0 : Nat) : Int) = 1 := by decide +kernel
  have nn : p2 (((0 : Nat) : Int) - 53) ≤ 12 / 100000000000000000 := by decide +kernel
  have n0 := Rat.le_of_lt (p2_pos (((0 : Nat) : Int) - 53))
  have p1 : p2 ((1 : Nat) : Int) = 2 := by decide +kernel
  have nn1 : p2 (((1 : Nat) : Int) - 53) ≤ 23 / 100000000000000000 := by decide +kernel
  have n1 := Rat.le_of_lt (p2_pos (((1 : Nat) : Int) - 53))
  have e0 := hz.pos
  have q1 := Rat.mul_nonneg (show 0 ≤ 393/500 - Z by grind) (show 0 ≤ 393/500 + Z by grind)
  have q2 : 0 ≤ Z * Z := by
    by_cases q : 0 ≤ Z
    · exact Rat.mul_nonneg q q
    · have := Rat.mul_nonneg (show 0 ≤ -Z by grind) (show 0 ≤ -Z by grind); grind
  have z3 : Z * Z ≤ 5/8 := by grind
  have z4 : -(5/8) ≤ Z * Z := by grind
  have ee := Rat.mul_le_mul_of_nonneg_left he e0
  obtain ⟨zz, k1, k2⟩ := mul_ap (393/500) (393/500) 0 (by omega) hz hz z1 z2 z1 z2 (by rw [p0]; grind)
  have hzz := k2.mono (e' := 191 / 10000000000000000) (by grind)
  clear k2
  have b0 : cv cC0 ≤ 1 / 1000000 ∧ -(1 / 1000000) ≤ cv cC0 := by decide +kernel
  have b1 : cv cC1 ≤ 1 / 10000000 ∧ -(1 / 10000000) ≤ cv cC1 := by decide +kernel
  have b2 : cv cC2 ≤ 3 / 1000000 ∧ -(3 / 1000000) ≤ cv cC2 := by decide +kernel
  have b3 : cv cC3 ≤ 2 / 10000 ∧ -(2 / 10000) ≤ cv cC3 := by decide +kernel
  have b4 : cv cC4 ≤ 84 / 10000 ∧ -(84 / 10000) ≤ cv cC4 := by decide +kernel
  have b5 : cv cC5 ≤ 1667 / 10000 ∧ -(1667 / 10000) ≤ cv cC5 := by decide +kernel
  obtain ⟨m1, h1, m2, h2, m3, h3, m4, h4, m5, h5, e1, f1, e2, f2, e3, f3, e4, f4, e5, f5, a5, u5, l5⟩ := poly5 (cv_ap (show isNum cC0 = true by decide +kernel)) (cv_ap (show isNum cC1 = true by decide +kernel)) (cv_ap (show isNum cC2 = true by decide +kernel)) (cv_ap (show isNum cC3 = true by decide +kernel)) (cv_ap (show isNum cC4 = true by decide +kernel)) (cv_ap (show isNum cC5 = true by decide +kernel)) b0 b1 b2 b3 b4 b5 hzz z3 q2 (by grind)
  have ho := cv_ap (show isNum wOne = true by decide +kernel)
  have hh := cv_ap (show isNum wHalf = true by decide +kernel)
  have ho1 : cv wOne = 1 := by decide +kernel
  have hh1 : cv wHalf = 1/2 := by decide +kernel
  rw [ho1] at ho
  rw [hh1] at hh
  obtain ⟨v, v1, v2⟩ := mul_ap (1/2) (5/8) 0 (by omega) hh hzz (by grind) (by grind) z3 z4 (by rw [p0]; grind)
  have hv := v2.mono (e' := 97 / 10000000000000000) (by grind)
  clear v2
  obtain ⟨w, w1, w2⟩ := sub_ap 1 (by omega) ho hv (by rw [p1]; grind) (by rw [p1]; grind)
  have hw := w2.mono (e' := 100 / 10000000000000000) (by grind)
  clear w2
  obtain ⟨t, g1, g2⟩ := mul_ap (5/8) (5/8) 0 (by omega) hzz hzz z3 z4 z3 z4 (by rw [p0]; grind)
  have ht := g2.mono (e' := 24 / 1000000000000000) (by grind)
  clear g2
  have tb : Z * Z * (Z * Z) ≤ 1/2 ∧ -(1/2) ≤ Z * Z * (Z * Z) := by
    have r1 := Rat.mul_nonneg (show 0 ≤ 5/8 - Z * Z by grind) q2
    have r2 := Rat.mul_nonneg q2 q2
    constructor <;> grind
  generalize hH : ((((cv cC0 * (Z * Z) + cv cC1) * (Z * Z) + cv cC2) * (Z * Z) + cv cC3) * (Z * Z) + cv cC4) * (Z * Z) + cv cC5 = H at *
  obtain ⟨p, i1, i2⟩ := mul_ap (1/2) (173/1000) 0 (by omega) ht a5 tb.1 tb.2 u5 l5 (by rw [p0]; grind)
  have hp := i2.mono (e' := 50 / 10000000000000000) (by grind)
  clear i2
  have pb := bil2 tb.2 tb.1 l5 u5
  obtain ⟨y, j1, j2⟩ := add_ap 1 (by omega) hw hp (by rw [p1]; grind) (by rw [p1]; grind)
  exact ⟨y, ⟨zz, m1, h1, m2, h2, m3, h3, m4, h4, m5, h5, v, w, t, p, k1, e1, f1, e2, f2, e3, f3, e4, f4, e5, f5, v1, w1, g1, i1, j1⟩, j2.mono (by grind)⟩
end
section
def sinL : List Rat := [0, 1, 0, cv sC5, 0, cv sC4, 0, cv sC3, 0, cv sC2, 0, cv sC1, 0, cv sC0]
def cosL : List Rat := [1, 0, -1/2, 0, cv cC5, 0, cv cC4, 0, cv cC3, 0, cv cC2, 0, cv cC1, 0, cv cC0]
/-- Two polynomials are near on an interval around a centre. -/
theorem near_on {p q : List Rat} {c r e x : Rat} (h : pbd (pshift c (padd p (pscale (-1) q))) r ≤ e) (hx : rabs (x - c) ≤ r) : pv p x ≤ pv q x + e ∧ pv q x ≤ pv p x + e := by
  have g := pv_bd hx (pshift c (padd p (pscale (-1) q)))
  rw [pv_shift, show x - c + c = x by grind, pv_add, pv_scale] at g
  obtain ⟨h1, h2⟩ := rabs_le.1 (show rabs (pv p x + -1 * pv q x) ≤ e by grind)
  constructor <;> grind
/-- Near on each of n intervals of the half width r, from a on. -/
def nearAll (p q : List Rat) (r e : Rat) : Nat → Rat → Bool
  | 0, _ => true
  | n + 1, a => decide (pbd (pshift (a + r) (padd p (pscale (-1) q))) r ≤ e) && nearAll p q r e n (a + 2 * r)
theorem near_all {p q : List Rat} {r e : Rat} (hr : 0 ≤ r) : ∀ (n : Nat) (a x : Rat), nearAll p q r e n a = true → a ≤ x → x ≤ a + 2 * r * (n : Rat) → n ≠ 0 → pv p x ≤ pv q x + e ∧ pv q x ≤ pv p x + e
  | 0, _, _, _, _, _, h => absurd rfl h
  | n + 1, a, x, h, h1, h2, _ => by
    unfold nearAll at h
    simp only [Bool.and_eq_true, decide_eq_true_eq] at h
    by_cases c : x ≤ a + 2 * r
    · exact near_on h.1 (by rw [rabs_le]; constructor <;> grind)
    · refine near_all hr n (a + 2 * r) x h.2 (by grind) (by push_cast at h2; grind) ?_
      intro h0
      subst h0
      apply c
      have e1 : ((0 + 1 : Nat) : Rat) = 1 := by decide +kernel
      rw [e1] at h2
      grind
theorem sinL_near : nearAll sinL sT (393/8000) (1 / 1000000000000000) 16 (-393/500) = true := by decide +kernel
theorem cosL_near : nearAll cosL cT (393/8000) (1 / 1000000000000000) 16 (-393/500) = true := by decide +kernel
theorem near_z {p q : List Rat} {e Z : Rat} (h : nearAll p q (393/8000) e 16 (-393/500) = true) (hz : rabs Z ≤ 393/500) : pv p Z ≤ pv q Z + e ∧ pv q Z ≤ pv p Z + e := by
  obtain ⟨z1, z2⟩ := rabs_le.1 hz
  have e16 : ((16 : Nat) : Rat) = 16 := rfl
  exact near_all (by decide +kernel) 16 _ Z h (by grind) (by rw [e16]; grind) (by decide)
theorem sinP_near {Z : Rat} (hz : rabs Z ≤ 393/500) : Z + Z * (Z * Z) * (((((cv sC0 * (Z * Z) + cv sC1) * (Z * Z) + cv sC2) * (Z * Z) + cv sC3) * (Z * Z) + cv sC4) * (Z * Z) + cv sC5) ≤ S Z + 1 / 1000000000000000 ∧ S Z ≤ Z + Z * (Z * Z) * (((((cv sC0 * (Z * Z) + cv sC1) * (Z * Z) + cv sC2) * (Z * Z) + cv sC3) * (Z * Z) + cv sC4) * (Z * Z) + cv sC5) + 1 / 1000000000000000 := by
  have h := near_z sinL_near hz
  have e : pv sinL Z = Z + Z * (Z * Z) * (((((cv sC0 * (Z * Z) + cv sC1) * (Z * Z) + cv sC2) * (Z * Z) + cv sC3) * (Z * Z) + cv sC4) * (Z * Z) + cv sC5) := by
    unfold pv sinL
    simp only [List.foldr_cons, List.foldr_nil]
    grind
  rw [← e]
  exact h
theorem cosP_near {Z : Rat} (hz : rabs Z ≤ 393/500) : 1 - 1/2 * (Z * Z) + Z * Z * (Z * Z) * (((((cv cC0 * (Z * Z) + cv cC1) * (Z * Z) + cv cC2) * (Z * Z) + cv cC3) * (Z * Z) + cv cC4) * (Z * Z) + cv cC5) ≤ C Z + 1 / 1000000000000000 ∧ C Z ≤ 1 - 1/2 * (Z * Z) + Z * Z * (Z * Z) * (((((cv cC0 * (Z * Z) + cv cC1) * (Z * Z) + cv cC2) * (Z * Z) + cv cC3) * (Z * Z) + cv cC4) * (Z * Z) + cv cC5) + 1 / 1000000000000000 := by
  have h := near_z cosL_near hz
  have e : pv cosL Z = 1 - 1/2 * (Z * Z) + Z * Z * (Z * Z) * (((((cv cC0 * (Z * Z) + cv cC1) * (Z * Z) + cv cC2) * (Z * Z) + cv cC3) * (Z * Z) + cv cC4) * (Z * Z) + cv cC5) := by
    unfold pv cosL
    simp only [List.foldr_cons, List.foldr_nil]
    grind
  rw [← e]
  exact h
end
section
open Ieee
def wPA : Nat := 4605249456957292544
def wPB : Nat := 4495793288086814720
def wPC : Nat := 4388835458085048688
theorem pi4_parts : cv wPA + cv wPB + cv wPC ≤ piQ / 4 + 1 / 10 ^ 30 ∧ piQ / 4 ≤ cv wPA + cv wPB + cv wPC + 1 / 10 ^ 30 := by decide +kernel
theorem reduce {x yk : Nat} {X e k : Rat} (hx : Ap x X e) (hy : Ap yk k 0) (k0 : 0 ≤ k) (k8 : k ≤ 8) (x0 : 0 ≤ X) (x7 : X ≤ 7) (he : e ≤ 7 / 1000000000000000) :
    ∃ a1 b1 a2 b2 a3 z, double.mul yk wPA = some a1 ∧ double.sub x a1 = some b1 ∧ double.mul yk wPB = some a2 ∧ double.sub b1 a2 = some b2 ∧ double.mul yk wPC = some a3 ∧ double.sub b2 a3 = some z ∧ Ap z (X - k * (piQ / 4)) (12 / 1000000000000000) := by
  have e0 := hx.pos
  have p3 : p2 ((3 : Nat) : Int) = 8 := by decide +kernel
  have n3 : p2 (((3 : Nat) : Int) - 53) ≤ 9 / 10000000000000000 := by decide +kernel
  have n30 := Rat.le_of_lt (p2_pos (((3 : Nat) : Int) - 53))
  have p0 : p2 ((0 : Nat) : Int) = 1 := by decide +kernel
  have n0 : p2 (((0 : Nat) : Int) - 53) ≤ 2 / 10000000000000000 := by decide +kernel
  have n00 := Rat.le_of_lt (p2_pos (((0 : Nat) : Int) - 53))
  have cA : 0 ≤ cv wPA ∧ cv wPA ≤ 4/5 := by decide +kernel
  have cB : 0 ≤ cv wPB ∧ cv wPB ≤ 1/100000 := by decide +kernel
  have cC : 0 ≤ cv wPC ∧ cv wPC ≤ 1/100000 := by decide +kernel
  have pp := pi4_parts
  have t30 : (1 : Rat) / 10 ^ 30 ≤ 1 / 100000000000000000000 := by decide +kernel
  have t30' : (0 : Rat) ≤ 1 / 10 ^ 30 := by decide +kernel
  have hA := cv_ap (show isNum wPA = true by decide +kernel)
  have hB := cv_ap (show isNum wPB = true by decide +kernel)
  have hC := cv_ap (show isNum wPC = true by decide +kernel)
  generalize (1 : Rat) / 10 ^ 30 = d30 at *
  generalize cv wPA = A at *
  generalize cv wPB = B at *
  generalize cv wPC = D at *
  generalize piQ / 4 = P at *
  generalize hu3 : p2 (((3 : Nat) : Int) - 53) = u3 at *
  generalize hu0 : p2 (((0 : Nat) : Int) - 53) = u0 at *
  obtain ⟨a1, e1, g1⟩ := mul_ap 8 (4/5) 3 (by omega) hy hA k8 (by grind) cA.2 (by grind) (by rw [p3]; grind)
  obtain ⟨a2, e2, g2⟩ := mul_ap 8 (1/100000) 0 (by omega) hy hB k8 (by grind) cB.2 (by grind) (by rw [p0]; grind)
  obtain ⟨a3, e3, g3⟩ := mul_ap 8 (1/100000) 0 (by omega) hy hC k8 (by grind) cC.2 (by grind) (by rw [p0]; grind)
  rw [hu3] at g1
  rw [hu0] at g2 g3
  have kA0 := Rat.mul_nonneg k0 cA.1
  have kB0 := Rat.mul_nonneg k0 cB.1
  have kC0 := Rat.mul_nonneg k0 cC.1
  have kA := Rat.mul_le_mul_of_nonneg_right k8 cA.1
  have kB := Rat.mul_le_mul_of_nonneg_right k8 cB.1
  have kC := Rat.mul_le_mul_of_nonneg_right k8 cC.1
  have s1 := Rat.mul_le_mul_of_nonneg_left pp.1 k0
  have s2 := Rat.mul_le_mul_of_nonneg_left pp.2 k0
  have s3 := Rat.mul_le_mul_of_nonneg_right k8 t30'
  have w1 : k * (A + B + D) = k * A + k * B + k * D := by grind
  have w2 : k * (P + d30) = k * P + k * d30 := by grind
  have w3 : k * (A + B + D + d30) = k * A + k * B + k * D + k * d30 := by grind
  rw [w1, w2] at s1
  rw [w3] at s2
  generalize k * A = zA at *
  generalize k * B = zB at *
  generalize k * D = zC at *
  generalize k * P = zP at *
  generalize k * d30 = zd at *
  obtain ⟨b1, f1, h1⟩ := sub_ap 3 (by omega) hx g1 (by rw [p3]; grind) (by rw [p3]; grind)
  rw [hu3] at h1
  obtain ⟨b2, f2, h2⟩ := sub_ap 3 (by omega) h1 g2 (by rw [p3]; grind) (by rw [p3]; grind)
  rw [hu3] at h2
  obtain ⟨z, f3, h3⟩ := sub_ap 3 (by omega) h2 g3 (by rw [p3]; grind) (by rw [p3]; grind)
  rw [hu3] at h3
  refine ⟨a1, b1, a2, b2, a3, z, e1, f1, e2, f2, e3, f3, ?_⟩
  exact (h3.move (Y := X - zP) (d := 1 / 10000000000000000) (by grind) (by grind)).mono (by grind)
end
section
open Ieee
theorem ap_sin {y : Nat} {Z : Rat} (hz : rabs Z ≤ 393/500) (h : Ap y (Z + Z * (Z * Z) * (((((cv sC0 * (Z * Z) + cv sC1) * (Z * Z) + cv sC2) * (Z * Z) + cv sC3) * (Z * Z) + cv sC4) * (Z * Z) + cv sC5)) (18 / 1000000000000000)) : Ap y (S Z) (19 / 1000000000000000) := by
  obtain ⟨a, b⟩ := sinP_near hz
  exact (h.move a b).mono (by decide +kernel)
theorem ap_cos {y : Nat} {Z : Rat} (hz : rabs Z ≤ 393/500) (h : Ap y (1 - 1/2 * (Z * Z) + Z * Z * (Z * Z) * (((((cv cC0 * (Z * Z) + cv cC1) * (Z * Z) + cv cC2) * (Z * Z) + cv cC3) * (Z * Z) + cv cC4) * (Z * Z) + cv cC5)) (18 / 1000000000000000)) : Ap y (C Z) (19 / 1000000000000000) := by
  obtain ⟨a, b⟩ := cosP_near hz
  exact (h.move a b).mono (by decide +kernel)
theorem quart {Z : Rat} (hz : rabs Z ≤ 393/500) : (S (Z + piQ / 2) ≤ C Z + 1 / 10 ^ 18 ∧ C Z ≤ S (Z + piQ / 2) + 1 / 10 ^ 18) ∧ (S (Z + piQ) ≤ -S Z + 1 / 10 ^ 18 ∧ -S Z ≤ S (Z + piQ) + 1 / 10 ^ 18) ∧
    (S (Z + 3 * piQ / 2) ≤ -C Z + 1 / 10 ^ 18 ∧ -C Z ≤ S (Z + 3 * piQ / 2) + 1 / 10 ^ 18) ∧ (S (Z + 2 * piQ) ≤ S Z + 1 / 10 ^ 18 ∧ S Z ≤ S (Z + 2 * piQ) + 1 / 10 ^ 18) := by
  have hz' : rabs Z ≤ 4/5 := by grind
  have h1 := pv_near hz' _ _ quart1s
  have h2 := pv_near hz' _ _ quart2s
  have h3 := pv_near hz' _ _ quart3s
  have h4 := pv_near hz' _ _ quart4s
  rw [pv_shift] at h1 h2 h3 h4
  rw [pv_scale] at h2 h3
  unfold S C
  refine ⟨h1, ?_, ?_, h4⟩
  · constructor <;> grind
  · constructor <;> grind
theorem Ap.neg {w : Nat} {X e : Rat} (h : Ap w X e) : ∃ s m p, Reads w s m p ∧ rv (!s) m p ≤ -X + e ∧ -X ≤ rv (!s) m p + e := by
  obtain ⟨s, m, p, h1, h2, h3⟩ := h
  exact ⟨s, m, p, h1, by rw [rv_neg]; grind, by rw [rv_neg]; grind⟩
end
end Go.Proofs.YtcgnhnmigmdalaaGreatDoor
