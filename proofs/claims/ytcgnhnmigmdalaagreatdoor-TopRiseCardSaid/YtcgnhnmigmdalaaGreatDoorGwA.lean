/- How sums grow between two instants. No program in sight. The longitude of the sun between two instants, and its passages. No program in sight. The time that the sun needs by its mean speed, in floating point. No program in sight. -/
import Derived.Test.YtcgnhnmigmdalaaGreatDoorEqA
import Derived.Test.YtcgnhnmigmdalaaGreatDoorFltD
import Derived.Test.YtcgnhnmigmdalaaGreatDoorSlA
import Derived.Test.YtcgnhnmigmdalaaGreatDoorWkD
import Derived.Test.YtcgnhnmigmdalaaGreatDoorNrA
import Derived.Test.YtcgnhnmigmdalaaGreatDoorSmA
import Derived.Test.YtcgnhnmigmdalaaGreatDoorTrA
set_option linter.unusedVariables false
set_option linter.unusedSimpArgs false
namespace Go.Proofs.YtcgnhnmigmdalaaGreatDoor
section
open Ieee
/-- The angle of a term in units, not brought into a turn. -/
def uA (t : Tm) (i : Int) : Rat := (t.ph : Rat) + ((t.rt * i : Int) : Rat) * (1 / 86400000000000)
theorem partA_u (t : Tm) (i : Int) : ∃ j : Int, partA t i + (j : Rat) * 1000000000 = uA t i := by
  have e1 := Int.emod_add_mul_ediv (t.rt * i) 86400000000000
  have e2 := Int.emod_add_mul_ediv (t.ph + grQ t.rt i) 1000000000
  refine ⟨(t.ph + grQ t.rt i) / 1000000000, ?_⟩
  unfold partA grR uA
  unfold grQ at *
  have dv : ((t.rt * i % 86400000000000 : Int) : Rat) / 86400000000000 = ((t.rt * i % 86400000000000 : Int) : Rat) * (1 / 86400000000000) := by rw [Rat.div_def, Rat.div_def]; grind
  rw [dv]
  generalize t.rt * i % 86400000000000 = r at *
  generalize t.rt * i / 86400000000000 = q at *
  generalize (t.ph + q) % 1000000000 = n at *
  generalize (t.ph + q) / 1000000000 = k at *
  have f1 : (r : Rat) + 86400000000000 * (q : Rat) = ((t.rt * i : Int) : Rat) := by rw [← e1]; push_cast; rfl
  have f2 : (n : Rat) + 1000000000 * (k : Rat) = (t.ph : Rat) + (q : Rat) := by
    have := congrArg (fun z : Int => (z : Rat)) e2
    push_cast at this
    exact this
  push_cast at f1
  push_cast
  grind
theorem siU_step (n : Int) : rabs (siU (n + 1) - siU n) ≤ 64 / 10000000000 := by
  have h := rabs_le.1 (siU_lip (m := n) (n := n + 1) (by omega))
  have e : ((n + 1 - n : Int) : Rat) = 1 := by rw [show n + 1 - n = 1 by omega]; rfl
  rw [e] at h
  rw [rabs_le]
  constructor <;> grind
/-- The sine at an angle is near that at the whole number below. -/
theorem siU_floor {n k : Int} {z : Rat} (z0 : 0 ≤ z) (z1 : z ≤ 1000000000) (h0 : (n : Rat) ≤ z + (k : Rat) * 1000000000) (h1 : z + (k : Rat) * 1000000000 < (n : Rat) + 1) : rabs (S (tq * z) - siU n) ≤ 65 / 10000000000 := by
  have ea : ((n - k * 1000000000 : Int) : Rat) = (n : Rat) - (k : Rat) * 1000000000 := by push_cast; rfl
  obtain ⟨a, ha⟩ : ∃ a : Int, a = n - k * 1000000000 := ⟨_, rfl⟩
  rw [← ha] at ea
  have cancel : ∀ {a b : Int}, (a : Rat) < (b : Rat) → a < b := fun h => Rat.intCast_lt_intCast.1 h
  have canc : ∀ {a b : Int}, (a : Rat) ≤ (b : Rat) → a ≤ b := fun h => Rat.intCast_le_intCast.1 h
  have a0 : 0 ≤ a := by
    have : (-1 : Int) < a := cancel (by push_cast; grind)
    omega
  have a1 : a ≤ 1000000000 := canc (by push_cast; grind)
  have A0 : (0 : Rat) ≤ (a : Rat) := by exact_mod_cast a0
  have A1 : (a : Rat) ≤ 1000000000 := by
    have := Rat.intCast_le_intCast.2 a1
    exact this
  have na := (siU_near (n := n) (k := k) (z := (a : Rat)) (μ := 0) A0 A1 (by
    have q : (a : Rat) + (k : Rat) * 1000000000 - (n : Rat) = 0 := by grind
    rw [q]; decide +kernel) (by decide +kernel)).1
  clear cancel canc
  by_cases hz : a = 1000000000
  · have hz' : (a : Rat) = 1000000000 := by rw [hz]; rfl
    have ez : z = (a : Rat) := by grind
    rw [ez]
    have na := rabs_le.1 na
    rw [rabs_le]
    constructor <;> grind
  · have B1 : (a : Rat) + 1 ≤ 1000000000 := by
      have := Rat.intCast_le_intCast.2 (show a + 1 ≤ 1000000000 by omega)
      push_cast at this
      exact this
    have nb := (siU_near (n := n + 1) (k := k) (z := (a : Rat) + 1) (μ := 0) (by grind) B1 (by
      have q : (a : Rat) + 1 + (k : Rat) * 1000000000 - ((n + 1 : Int) : Rat) = 0 := by push_cast; grind
      rw [q]; decide +kernel) (by decide +kernel)).1
    have li := (sc_line (a := (a : Rat)) (lam := z - (a : Rat)) A0 A1 (by grind) (by grind)).1
    have ez : (a : Rat) + (z - (a : Rat)) = z := by grind
    rw [ez] at li
    have st := siU_step n
    have lam1 : rabs (z - (a : Rat)) ≤ 1 := rabs_le.2 ⟨by grind, by grind⟩
    have df : rabs (S (tq * ((a : Rat) + 1)) - S (tq * (a : Rat))) ≤ 6410 / 1000000000000 := by
      have na := rabs_le.1 na
      have nb := rabs_le.1 nb
      have st := rabs_le.1 st
      rw [rabs_le]
      constructor <;> grind
    have m := rabs_le.1 (mul_rabs lam1 df)
    have na := rabs_le.1 na
    have li := rabs_le.1 li
    generalize S (tq * z) = sz at *
    generalize S (tq * (a : Rat)) = sa at *
    generalize S (tq * ((a : Rat) + 1)) = sb at *
    generalize siU n = sn at *
    generalize z - (a : Rat) = lam at *
    clear lam1 df st nb h0 h1 ea ha ez
    have m1 := m.1
    have m2 := m.2
    have k1 : lam * (sb - sa) = lam * sb - lam * sa := by grind
    have k2 : (1 - lam) * sa + lam * sb = sa + (lam * sb - lam * sa) := by grind
    rw [k1] at m1 m2
    rw [k2] at li
    generalize lam * sb - lam * sa = q at *
    rw [rabs_le]
    constructor <;> grind
theorem siU_lip_abs (m n : Int) : rabs (siU n - siU m) ≤ (628320 / 100000000000000) * rabs ((n : Rat) - (m : Rat)) + 1 / 100000000000 := by
  rcases Int.le_total m n with h | h
  · have l := siU_lip h
    have e : ((n - m : Int) : Rat) = (n : Rat) - (m : Rat) := by push_cast; rfl
    have p : (0 : Rat) ≤ (n : Rat) - (m : Rat) := by have := Rat.intCast_le_intCast.2 h; grind
    have r : rabs ((n : Rat) - (m : Rat)) = (n : Rat) - (m : Rat) := by unfold rabs; rw [if_pos p]
    rw [e] at l
    rw [r]
    exact l
  · have l := siU_lip h
    have e : ((m - n : Int) : Rat) = (m : Rat) - (n : Rat) := by push_cast; rfl
    have p : (0 : Rat) ≤ (m : Rat) - (n : Rat) := by have := Rat.intCast_le_intCast.2 h; grind
    have r := rabs_le.1 (show rabs ((n : Rat) - (m : Rat)) ≤ rabs ((n : Rat) - (m : Rat)) from Rat.le_refl)
    rw [e] at l
    have l := rabs_le.1 l
    rw [rabs_le]
    constructor <;> grind
/-- A term between two instants, up to whole turns j of its angle. -/
theorem term_lip (t : Tm) (x y j : Int) : rabs (S (tq * partA t y) - S (tq * partA t x)) ≤ (628320 / 100000000000000) * rabs (uA t y - uA t x - (j : Rat) * 1000000000) + 2 / 100000000 := by
  obtain ⟨kx, hx⟩ := partA_u t x
  obtain ⟨ky, hy⟩ := partA_u t y
  obtain ⟨x0, x1⟩ := partA_bd t x
  obtain ⟨y0, y1⟩ := partA_bd t y
  obtain ⟨n, n0, n1⟩ := floor_ex (uA t x)
  obtain ⟨m, m0, m1⟩ := floor_ex (uA t y)
  have fx := rabs_le.1 (siU_floor (n := n) (k := kx) x0 x1 (by grind) (by grind))
  have fy := rabs_le.1 (siU_floor (n := m) (k := ky) y0 y1 (by grind) (by grind))
  have e : siU (m - j * 1000000000) = siU m := by
    rw [show m - j * 1000000000 = m + 1000000000 * (-j) by omega]; exact siU_turn m (-j)
  have l := siU_lip_abs n (m - j * 1000000000)
  rw [e] at l
  have c : ((m - j * 1000000000 : Int) : Rat) = (m : Rat) - (j : Rat) * 1000000000 := by push_cast; rfl
  rw [c] at l
  have l := rabs_le.1 l
  have r : rabs ((m : Rat) - (j : Rat) * 1000000000 - (n : Rat)) ≤ rabs (uA t y - uA t x - (j : Rat) * 1000000000) + 1 := by
    have r := rabs_le.1 (show rabs (uA t y - uA t x - (j : Rat) * 1000000000) ≤ rabs (uA t y - uA t x - (j : Rat) * 1000000000) from Rat.le_refl)
    rw [rabs_le]
    constructor <;> grind
  generalize rabs ((m : Rat) - (j : Rat) * 1000000000 - (n : Rat)) = A at *
  generalize rabs (uA t y - uA t x - (j : Rat) * 1000000000) = B at *
  generalize S (tq * partA t y) = sy at *
  generalize S (tq * partA t x) = sx at *
  rw [rabs_le]
  constructor <;> grind
theorem uA_diff (t : Tm) (x y : Int) : uA t y - uA t x = (t.rt : Rat) * ((y - x : Int) : Rat) * (1 / 86400000000000) := by
  unfold uA
  push_cast
  grind
theorem termX_tq (t : Tm) (i : Int) : termX i t = t.amp * S (tq * partA t i) := by
  unfold termX
  rw [show 2 * piQ * partA t i / 1000000000 = tq * partA t i by unfold tq; rw [Rat.div_def, Rat.div_def]; grind]
theorem termX_lip (t : Tm) (x y : Int) (h : x ≤ y) : rabs (termX y t - termX x t) ≤ rabs t.amp * (rabs t.rt * ((628320 / 100000000000000) * (1 / 86400000000000) * ((y - x : Int) : Rat)) + 2 / 100000000) := by
  have l := term_lip t x y 0
  have z : ((0 : Int) : Rat) * 1000000000 = 0 := by decide +kernel
  rw [z, uA_diff] at l
  have p : (0 : Rat) ≤ ((y - x : Int) : Rat) := by exact_mod_cast (show 0 ≤ y - x by omega)
  generalize hd : ((y - x : Int) : Rat) = d at *
  have r : rabs ((t.rt : Rat) * d * (1 / 86400000000000) - 0) ≤ rabs t.rt * (d * (1 / 86400000000000)) := by
    have m := mul_rabs (a := (t.rt : Rat)) (b := d * (1 / 86400000000000)) (A := rabs t.rt) (B := d * (1 / 86400000000000)) Rat.le_refl (rabs_le.2 ⟨Rat.le_refl, by grind⟩)
    rw [show (t.rt : Rat) * d * (1 / 86400000000000) - 0 = (t.rt : Rat) * (d * (1 / 86400000000000)) by grind]
    exact m
  rw [termX_tq, termX_tq, show (t.amp : Rat) * S (tq * partA t y) - t.amp * S (tq * partA t x) = t.amp * (S (tq * partA t y) - S (tq * partA t x)) by grind]
  refine mul_rabs Rat.le_refl (Rat.le_trans l ?_)
  grind
def aR (l : List Tm) (k : Nat) : Rat := (l.take k).foldl (fun v t => v + rabs t.amp * rabs t.rt) 0
def aS (l : List Tm) (k : Nat) : Rat := (l.take k).foldl (fun v t => v + rabs t.amp) 0
theorem aR_snoc (l : List Tm) (k : Nat) (h : k < l.length) : aR l (k + 1) = aR l k + rabs l[k].amp * rabs l[k].rt := by
  unfold aR; rw [fe_take l k h, List.foldl_append]; rfl
theorem aS_snoc (l : List Tm) (k : Nat) (h : k < l.length) : aS l (k + 1) = aS l k + rabs l[k].amp := by
  unfold aS; rw [fe_take l k h, List.foldl_append]; rfl
theorem xAt_lip (l : List Tm) (x y : Int) (h : x ≤ y) : ∀ k, k ≤ l.length → rabs (xAt l y k - xAt l x k) ≤ aR l k * ((628320 / 100000000000000) * (1 / 86400000000000) * ((y - x : Int) : Rat)) + aS l k * (2 / 100000000)
  | 0, _ => by
    have e : xAt l y 0 - xAt l x 0 = 0 := by show (0 : Rat) - 0 = 0; grind
    have e2 : aR l 0 = 0 := rfl
    have e3 : aS l 0 = 0 := rfl
    rw [e, e2, e3, rabs_le]
    constructor <;> grind
  | k + 1, hk => by
    have ih := rabs_le.1 (xAt_lip l x y h k (by omega))
    have t := rabs_le.1 (termX_lip l[k] x y h)
    rw [xAt_snoc l y k (by omega), xAt_snoc l x k (by omega), aR_snoc l k (by omega), aS_snoc l k (by omega)]
    generalize (628320 / 100000000000000) * (1 / 86400000000000) * ((y - x : Int) : Rat) = d at *
    generalize rabs (l[k].amp : Rat) = A at *
    generalize rabs (l[k].rt : Rat) = R at *
    rw [rabs_le]
    constructor <;> grind
theorem sin_one (t : Tm) (i : Int) : rabs (S (tq * partA t i)) ≤ 1 + 1 / 100000000 := by
  obtain ⟨kx, hx⟩ := partA_u t i
  obtain ⟨x0, x1⟩ := partA_bd t i
  obtain ⟨n, n0, n1⟩ := floor_ex (uA t i)
  have fx := rabs_le.1 (siU_floor (n := n) (k := kx) x0 x1 (by grind) (by grind))
  have b := siU_bd n
  rw [rabs_le]
  constructor <;> grind
theorem xAt_amp (l : List Tm) (i : Int) : ∀ k, k ≤ l.length → rabs (xAt l i k) ≤ aS l k * (1 + 1 / 100000000)
  | 0, _ => by
    have e : xAt l i 0 = 0 := rfl
    have e3 : aS l 0 = 0 := rfl
    rw [e, e3, rabs_le]
    constructor <;> grind
  | k + 1, hk => by
    have ih := rabs_le.1 (xAt_amp l i k (by omega))
    have t := rabs_le.1 (mul_rabs (a := (l[k].amp : Rat)) (A := rabs l[k].amp) Rat.le_refl (sin_one l[k] i))
    rw [xAt_snoc l i k (by omega), aS_snoc l k (by omega), termX_tq]
    generalize rabs (l[k].amp : Rat) = A at *
    rw [rabs_le]
    constructor <;> grind
/-- The bounds of an angle, not brought into a turn. -/
def lfLo (m r : Int) (l : List Tm) (s i : Int) : Int := valLo m l s i + grQ r i
def lfHi (m r : Int) (l : List Tm) (s i : Int) : Int := (if 0 < grR r i then valHi m l s i + 1 else valHi m l s i) + grQ r i
theorem lf_ang (m r : Int) (l : List Tm) (s i : Int) : angLo m r l s i = lfLo m r l s i % 1000000000 ∧ angHi m r l s i - angLo m r l s i = lfHi m r l s i - lfLo m r l s i := by
  unfold angHi angLo lfLo lfHi
  constructor <;> omega
theorem grQ_bd (r i : Int) : ((grQ r i : Int) : Rat) ≤ ((r * i : Int) : Rat) * (1 / 86400000000000) ∧ ((r * i : Int) : Rat) * (1 / 86400000000000) < ((grQ r i : Int) : Rat) + 1 := by
  have e := Int.emod_add_mul_ediv (r * i) 86400000000000
  have r0 : 0 ≤ r * i % 86400000000000 := Int.emod_nonneg _ (by omega)
  have r1 : r * i % 86400000000000 < 86400000000000 := Int.emod_lt_of_pos _ (by omega)
  unfold grQ
  generalize r * i / 86400000000000 = q at *
  generalize r * i % 86400000000000 = p at *
  rw [← e]
  have p0 : (0 : Rat) ≤ (p : Rat) := by exact_mod_cast r0
  have p1 : (p : Rat) < 86400000000000 := by
    have := Rat.intCast_lt_intCast.2 r1
    exact this
  push_cast
  constructor <;> grind
theorem lf_width {m r : Int} {l : List Tm} {s i : Int} (hv : SumOk m r l s) : 2 * s ≤ lfHi m r l s i - lfLo m r l s i ∧ lfHi m r l s i - lfLo m r l s i ≤ 2 * s + 3 := by
  obtain ⟨-, w2, w3⟩ := val_width (inst := i) hv
  unfold lfHi lfLo
  split <;> omega
theorem val_at {m r : Int} {l : List Tm} {s i : Int} (hv : SumOk m r l s) : (valLo m l s i : Rat) ≤ (m : Rat) + xAt l i l.length - (s : Rat) + 1 / 1000 ∧ (m : Rat) + xAt l i l.length - (s : Rat) - 1 - 3 / 1000 ≤ (valLo m l s i : Rat) ∧
    (m : Rat) + xAt l i l.length + (s : Rat) - 1 / 1000 ≤ (valHi m l s i : Rat) ∧ (valHi m l s i : Rat) ≤ (m : Rat) + xAt l i l.length + (s : Rat) + 1 + 3 / 1000 := by
  unfold valLo valHi
  by_cases h0 : l.length = 0
  · rw [if_pos h0, if_pos h0]
    have e : xAt l i l.length = 0 := by rw [h0]; rfl
    rw [e]
    push_cast
    refine ⟨by grind, by grind, by grind, by grind⟩
  · rw [if_neg h0, if_neg h0]
    obtain ⟨f1, f2, X1, X2, -, -, -, -, -, -, -, -, -, -, b1, b2, b3, b4⟩ := val_around (inst := i) hv.len hv.tm
    push_cast
    refine ⟨by grind, by grind, by grind, by grind⟩
/-- The growth of the lower bound: L is what the terms can change a day (a bound of aR 2 pi / 10^9 ..), A what the sum of amplitudes is. -/
theorem lf_grow {m r : Int} {l : List Tm} {s x y : Int} {L : Rat} (hv : SumOk m r l s) (h : x ≤ y) (hL : aR l l.length * (628320 / 100000000000000) ≤ L) (hA : aS l l.length * (2 / 100000000) ≤ 9 / 10) :
    ((r : Rat) - L) * ((y - x : Int) : Rat) * (1 / 86400000000000) - 3 ≤ ((lfLo m r l s y - lfLo m r l s x : Int) : Rat) ∧ ((lfLo m r l s y - lfLo m r l s x : Int) : Rat) ≤ ((r : Rat) + L) * ((y - x : Int) : Rat) * (1 / 86400000000000) + 3 := by
  obtain ⟨x1, x2, -, -⟩ := val_at (i := x) hv
  obtain ⟨y1, y2, -, -⟩ := val_at (i := y) hv
  obtain ⟨g1, g2⟩ := grQ_bd r x
  obtain ⟨g3, g4⟩ := grQ_bd r y
  have li := rabs_le.1 (xAt_lip l x y h l.length (Nat.le_refl _))
  have p : (0 : Rat) ≤ ((y - x : Int) : Rat) := by exact_mod_cast (show 0 ≤ y - x by omega)
  have hLm : aR l l.length * (628320 / 100000000000000) * ((1 / 86400000000000) * ((y - x : Int) : Rat)) ≤ L * ((1 / 86400000000000) * ((y - x : Int) : Rat)) := Rat.mul_le_mul_of_nonneg_right hL (by grind)
  unfold lfLo
  push_cast
  push_cast at g1 g2 g3 g4 li p hLm
  generalize xAt l x l.length = a at *
  generalize xAt l y l.length = b at *
  constructor <;> grind
/-- The lower bound and the mean motion. -/
theorem lf_mean {m r : Int} {l : List Tm} {s i : Int} {A : Rat} (hv : SumOk m r l s) (hA : aS l l.length * (1 + 1 / 100000000) ≤ A) :
    (m : Rat) + ((r * i : Int) : Rat) * (1 / 86400000000000) - A - (s : Rat) - 3 ≤ (lfLo m r l s i : Rat) ∧ (lfLo m r l s i : Rat) ≤ (m : Rat) + ((r * i : Int) : Rat) * (1 / 86400000000000) + A - (s : Rat) + 1 := by
  obtain ⟨x1, x2, -, -⟩ := val_at (i := i) hv
  obtain ⟨g1, g2⟩ := grQ_bd r i
  have a := rabs_le.1 (xAt_amp l i l.length (Nat.le_refl _))
  unfold lfLo
  push_cast
  push_cast at g1 g2
  generalize xAt l i l.length = a at *
  constructor <;> grind
end
section
open Ieee
def sL (t : Int) : Int := lfLo 775342092 2737909333333 sunL 2000 t
def sH (t : Int) : Int := lfHi 775342092 2737909333333 sunL 2000 t
theorem sun_lift (t : Int) : sunLo t = sL t % 1000000000 ∧ sunHi t - sunLo t = sH t - sL t := lf_ang _ _ _ _ _
theorem sun_wd (t : Int) : 4000 ≤ sH t - sL t ∧ sH t - sL t ≤ 4003 := lf_width (i := t) (sumOk_of sun_e)
theorem sun_aR : aR sunL sunL.length * (628320 / 100000000000000) ≤ 93500000000 ∧ aS sunL sunL.length * (2 / 100000000) ≤ 9 / 10 ∧ aS sunL sunL.length * (1 + 1 / 100000000) ≤ 5373876 := by decide +kernel
theorem sun_grow {x y : Int} (h : x ≤ y) : 2644 * (y - x) - 259200 ≤ 86400 * (sL y - sL x) ∧ 86400 * (sL y - sL x) ≤ 2832 * (y - x) + 259200 := by
  obtain ⟨g1, g2⟩ := lf_grow (m := 775342092) (r := 2737909333333) (l := sunL) (s := 2000) (L := 93500000000) (sumOk_of sun_e) h sun_aR.1 sun_aR.2.1
  have p : (0 : Rat) ≤ ((y - x : Int) : Rat) := by exact_mod_cast (show 0 ≤ y - x by omega)
  have e : ((2737909333333 : Int) : Rat) = 2737909333333 := rfl
  rw [e] at g1 g2
  change _ ≤ ((sL y - sL x : Int) : Rat) at g1
  change ((sL y - sL x : Int) : Rat) ≤ _ at g2
  generalize y - x = d at *
  generalize sL y - sL x = D at *
  constructor
  · refine Rat.intCast_le_intCast.1 ?_
    push_cast
    grind
  · refine Rat.intCast_le_intCast.1 ?_
    push_cast
    grind
theorem sun_mean (t : Int) : 2737909333333 * t + 769966213 * 86400000000000 ≤ 86400000000000 * sL t ∧ 86400000000000 * sL t ≤ 2737909333333 * t + 780713969 * 86400000000000 := by
  obtain ⟨g1, g2⟩ := lf_mean (m := 775342092) (r := 2737909333333) (l := sunL) (s := 2000) (i := t) (A := 5373876) (sumOk_of sun_e) sun_aR.2.2
  have e : ((775342092 : Int) : Rat) = 775342092 := rfl
  have e2 : ((2000 : Int) : Rat) = 2000 := rfl
  rw [e, e2] at g1 g2
  change _ ≤ ((sL t : Int) : Rat) at g1
  change ((sL t : Int) : Rat) ≤ _ at g2
  push_cast at g1 g2
  generalize sL t = D at *
  constructor
  · refine Rat.intCast_le_intCast.1 ?_
    push_cast
    grind
  · refine Rat.intCast_le_intCast.1 ?_
    push_cast
    grind
/-- 366 days later the sun has made more than a turn. -/
theorem sun_year (t : Int) : sL t + 1001900000 ≤ sL (t + 31622400000) := by
  obtain ⟨x1, x2, -, -⟩ := val_at (i := t) (sumOk_of sun_e)
  obtain ⟨y1, y2, -, -⟩ := val_at (i := t + 31622400000) (sumOk_of sun_e)
  obtain ⟨g1, g2⟩ := grQ_bd 2737909333333 t
  obtain ⟨g3, g4⟩ := grQ_bd 2737909333333 (t + 31622400000)
  have a := term_lip ⟨5318339, 84888545, 2737778555556⟩ t (t + 31622400000) 1
  have b := term_lip ⟨55536, 169777090, 5475557111112⟩ t (t + 31622400000) 2
  rw [uA_diff] at a b
  have ed : ((t + 31622400000 - t : Int) : Rat) = 31622400000 := by rw [show t + 31622400000 - t = 31622400000 by omega]; rfl
  rw [ed] at a b
  have na : rabs (((2737778555556 : Int) : Rat) * 31622400000 * (1 / 86400000000000) - ((1 : Int) : Rat) * 1000000000) ≤ 2030000 := by decide +kernel
  have nb : rabs (((5475557111112 : Int) : Rat) * 31622400000 * (1 / 86400000000000) - ((2 : Int) : Rat) * 1000000000) ≤ 4060000 := by decide +kernel
  have a := rabs_le.1 (mul_rabs (a := ((5318339 : Int) : Rat)) (A := 5318339) (by decide +kernel) a)
  have b := rabs_le.1 (mul_rabs (a := ((55536 : Int) : Rat)) (A := 55536) (by decide +kernel) b)
  have ex : ∀ i, xAt sunL i sunL.length = ((5318339 : Int) : Rat) * S (tq * partA ⟨5318339, 84888545, 2737778555556⟩ i) + ((55536 : Int) : Rat) * S (tq * partA ⟨55536, 169777090, 5475557111112⟩ i) := by
    intro i
    show 0 + termX i ⟨5318339, 84888545, 2737778555556⟩ + termX i ⟨55536, 169777090, 5475557111112⟩ = _
    rw [termX_tq, termX_tq]
    grind
  rw [ex] at x1 x2 y1 y2
  have e : ((775342092 : Int) : Rat) = 775342092 := rfl
  have e2 : ((2000 : Int) : Rat) = 2000 := rfl
  rw [e, e2] at x1 x2 y1 y2
  refine Rat.intCast_le_intCast.1 ?_
  unfold sL lfLo
  push_cast at g1 g2 g3 g4
  push_cast
  generalize S (tq * partA ⟨5318339, 84888545, 2737778555556⟩ t) = a1 at *
  generalize S (tq * partA ⟨5318339, 84888545, 2737778555556⟩ (t + 31622400000)) = a2 at *
  generalize S (tq * partA ⟨55536, 169777090, 5475557111112⟩ t) = b1 at *
  generalize S (tq * partA ⟨55536, 169777090, 5475557111112⟩ (t + 31622400000)) = b2 at *
  generalize rabs (((2737778555556 : Int) : Rat) * 31622400000 * (1 / 86400000000000) - ((1 : Int) : Rat) * 1000000000) = na' at *
  generalize rabs (((5475557111112 : Int) : Rat) * 31622400000 * (1 / 86400000000000) - ((2 : Int) : Rat) * 1000000000) = nb' at *
  generalize (valLo 775342092 sunL 2000 t : Rat) = v1 at *
  generalize (valLo 775342092 sunL 2000 (t + 31622400000) : Rat) = v2 at *
  push_cast at a b x1 x2 y1 y2
  grind
def sunSide (tg x : Int) : Int := sideV (sunLo x) (sunHi x) tg
theorem side_sun {x T tg : Int} (hT : T % 1000000000 = tg % 1000000000) (h1 : -400000000 < sL x - T) (h2 : sL x - T < 400000000) : sunSide tg x = if sH x < T then -1 else if sL x ≤ T then 0 else 1 := by
  obtain ⟨a, b⟩ := sun_lift x
  have := sun_wd x
  exact side_lift a b hT h1 h2 (by omega) (by omega)
/-- How far the reference's longitude is ahead of a target. -/
theorem sun_ahead {x T tg m : Int} (hm : SLon x m) (hT : T % 1000000000 = tg % 1000000000) (h1 : -400000000 < sL x - T) (h2 : sL x - T < 400000000) :
    (sL x - T) * 1048576 - 2000 ≤ (m - tg * 1048576 + 524288000000000) % 1048576000000000 - 524288000000000 ∧ (m - tg * 1048576 + 524288000000000) % 1048576000000000 - 524288000000000 ≤ (sH x - T) * 1048576 + 2000 := by
  obtain ⟨a, b⟩ := sun_lift x
  have w := sun_wd x
  obtain ⟨f0, f1, f2, f3, f4, f5, f6⟩ := sun_facts x
  obtain ⟨n, n1, n2, rfl⟩ := hm
  have k0 := Int.emod_nonneg (sunW x - 2000 * 1048576 - sunLo x * 1048576 + 2000) (show (1048576000000000 : Int) ≠ 0 by omega)
  obtain ⟨K, hK⟩ : ∃ K, K = (sunW x - 2000 * 1048576 - sunLo x * 1048576 + 2000) % 1048576000000000 := ⟨_, rfl⟩
  rw [← hK] at f2 k0
  have e : ((sunW x + 250 * n * 1048576) % 1048576000000000 - tg * 1048576 + 524288000000000) % 1048576000000000 = ((sL x - T) * 1048576 + (2000 + 250 * n) * 1048576 - 2000 + K + 524288000000000) % 1048576000000000 := by
    have q1 := Int.emod_add_mul_ediv (sL x) 1000000000
    have q2 := Int.emod_add_mul_ediv T 1000000000
    have q3 := Int.emod_add_mul_ediv tg 1000000000
    omega
  rw [e, Int.emod_eq_of_lt (by omega) (by omega)]
  constructor <;> omega
/-- The bounds between which a passage is looked for. -/
def seaLo (t wait : Int) : Int := max t (t + wait - 691200000)
def seaHi (t wait : Int) : Int := t + wait + 691200000
structure SeaOk (tg t wait T : Int) (r : NarR) : Prop where
  tt : T % 1000000000 = tg
  t0 : 0 ≤ T - sL t
  t1 : T - sL t < 1000000000
  ok : NarOk (sunSide tg) 600000 (seaLo t wait) (seaHi t wait) r
  is : r.is = true
  lo : sH r.lo < T
  lo4 : T - 400000000 < sL r.lo
  hi : T < sL r.hi
  hi4 : sL r.hi < T + 400000000
  yr : r.lo < t + 31622400000
  far : t + 25920000000 ≤ r.lo → 700000000 ≤ T - sL t
  und : ∀ x y, seaLo t wait ≤ x → y ≤ seaHi t wait → x + 132000 ≤ y → sunSide tg x ≠ -1 → sunSide tg y = 1
theorem sea_ok {tg t M wait : Int} (h0 : 0 ≤ tg) (h1 : tg < 1000000000) (hM : M = (tg - sunLo t) % 1000000000) (hs : sunSide tg t ≠ 0) (w1 : 864000000 * M - 54758186 ≤ 27379093 * wait) (w2 : 27379093 * wait ≤ 864000000 * M + 54758186) :
    SeaOk tg t wait (sL t + M) (narF (sunSide tg) 600000 62 (seaLo t wait) (seaHi t wait)) := by
  have m0 : 0 ≤ M := by rw [hM]; exact Int.emod_nonneg _ (by omega)
  have m1 : M < 1000000000 := by rw [hM]; exact Int.emod_lt_of_pos _ (by omega)
  have hT : (sL t + M) % 1000000000 = tg := by
    rw [(sun_lift t).1] at hM
    omega
  have hT' : (sL t + M) % 1000000000 = tg % 1000000000 := by omega
  have mt := sun_mean t
  have near : ∀ x, t ≤ x → t + wait - 691200000 ≤ x → x ≤ t + wait + 691200000 → -400000000 < sL x - (sL t + M) ∧ sL x - (sL t + M) < 400000000 := by
    intro x hx h3 h4
    have mx := sun_mean x
    constructor <;> omega
  have lo0 : seaLo t wait = t ∨ (seaLo t wait = t + wait - 691200000 ∧ t ≤ t + wait - 691200000) := by unfold seaLo; omega
  have lo1 : t ≤ seaLo t wait ∧ t + wait - 691200000 ≤ seaLo t wait := by unfold seaLo; omega
  have hi1 : seaHi t wait = t + wait + 691200000 := rfl
  have slo : sunSide tg (seaLo t wait) = -1 := by
    rcases lo0 with e | ⟨e, h⟩
    · have hw : wait ≤ 691200000 := by unfold seaLo at e; omega
      have hq := side_sun hT' (x := t) (by omega) (by omega)
      rw [e]
      rw [hq] at hs ⊢
      by_cases c : sH t < sL t + M
      · rw [if_pos c]
      · rw [if_neg c, if_pos (by omega)] at hs
        exact absurd rfl hs
    · rw [e]
      obtain ⟨n1, n2⟩ := near (t + wait - 691200000) h (by omega) (by omega)
      have mx := sun_mean (t + wait - 691200000)
      have wx := sun_wd (t + wait - 691200000)
      rw [side_sun hT' n1 n2, if_pos (by omega)]
  have hlt : seaLo t wait < seaHi t wait := by unfold seaLo seaHi; omega
  have shi : sunSide tg (seaHi t wait) = 1 := by
    obtain ⟨n1, n2⟩ := near (seaHi t wait) (by omega) (by omega) (by omega)
    have mx := sun_mean (seaHi t wait)
    have wx := sun_wd (seaHi t wait)
    rw [side_sun hT' n1 n2, if_neg (by omega), if_neg (by omega)]
  have hsz : seaHi t wait - seaLo t wait ≤ 2 ^ 62 := by
    rw [show (2 : Int) ^ 62 = 4611686018427387904 from rfl]; omega
  have hund : ∀ x y, seaLo t wait ≤ x → y ≤ seaHi t wait → x + 132000 ≤ y → sunSide tg x ≠ -1 → sunSide tg y = 1 := by
    intro x y h1 h2 h3 h4
    obtain ⟨n1, n2⟩ := near x (by omega) (by omega) (by omega)
    obtain ⟨n3, n4⟩ := near y (by omega) (by omega) (by omega)
    have g := sun_grow (x := x) (y := y) (by omega)
    have wx := sun_wd x
    have wy := sun_wd y
    have hx : ¬ sH x < sL t + M := by
      intro c
      rw [side_sun hT' n1 n2, if_pos c] at h4
      exact h4 rfl
    rw [side_sun hT' n3 n4, if_neg (by omega), if_neg (by omega)]
  obtain ⟨ok, is⟩ := narF_all (s := sunSide tg) (width := 600000) (by omega) 62 (seaLo t wait) (seaHi t wait) hlt hsz hsz slo shi
  have is := is 132000 hund (by omega) (by omega)
  generalize narF (sunSide tg) 600000 62 (seaLo t wait) (seaHi t wait) = r at *
  have oa := ok.a
  have ob := ok.b
  have oc := ok.c
  have om := ok.m
  have op := ok.p
  obtain ⟨n1, n2⟩ := near r.lo (by omega) (by omega) (by omega)
  obtain ⟨n3, n4⟩ := near r.hi (by omega) (by omega) (by omega)
  have clo : sH r.lo < sL t + M := by
    rw [side_sun hT' n1 n2] at om
    by_cases c : sH r.lo < sL t + M
    · exact c
    · rw [if_neg c] at om
      split at om <;> omega
  have chi : sL t + M < sL r.hi := by
    rw [side_sun hT' n3 n4] at op
    by_cases c : sH r.hi < sL t + M
    · rw [if_pos c] at op; omega
    · rw [if_neg c] at op
      split at op <;> omega
  refine ⟨hT, by omega, by omega, ok, is, clo, by omega, chi, by omega, ?_, ?_, hund⟩
  · by_cases c : r.lo < t + 31622400000
    · exact c
    · have g := sun_grow (x := t + 31622400000) (y := r.lo) (by omega)
      have y := sun_year t
      have wx := sun_wd r.lo
      omega
  · intro h
    omega
end
section
open Ieee
def wRate2 : Nat := 4703134026798884454
def wDayF : Nat := 4725570615333879808
def waitW (M : Int) : Nat := fmul (fdiv (fofI M) wRate2) wDayF
def waitF (M : Int) : Int := ((double.read (waitW M)).toInt .zero).getD 0
theorem wait_run {M : Int} (m0 : 0 ≤ M) (m1 : M < 1000000000) : ∃ q, double.div (fofI M) wRate2 = some q ∧ double.mul q wDayF = some (waitW M) ∧ (double.read (waitW M)).toInt .zero = some (waitF M) ∧
    864000000 * M - 54758186 ≤ 27379093 * waitF M ∧ 27379093 * waitF M ≤ 864000000 * M + 54758186 ∧ 0 ≤ waitF M := by
  have M0 : (0 : Rat) ≤ (M : Rat) := by exact_mod_cast m0
  have M1 : (M : Rat) ≤ 1000000000 := by
    have := Rat.intCast_le_intCast.2 (show M ≤ 1000000000 by omega)
    exact this
  have nM := fofI_num M (by omega) (by omega)
  have nR : Num wRate2 (cv wRate2) := cv_num (by decide +kernel)
  have nD : Num wDayF (cv wDayF) := cv_num (by decide +kernel)
  have eD : cv wDayF = 86400000 := by decide +kernel
  have eR : 1 ≤ cv wRate2 ∧ cv wRate2 ≠ 0 := by decide +kernel
  have v0 : (0 : Rat) ≤ (cv wRate2)⁻¹ := by decide +kernel
  have v1 : (cv wRate2)⁻¹ ≤ 1 / 2737909 := by decide +kernel
  have v2 : 27379093 * (cv wRate2)⁻¹ - 10 ≤ 1 / 100000000000000 ∧ -(1 / 100000000000000) ≤ 27379093 * (cv wRate2)⁻¹ - 10 := by decide +kernel
  have ed : (M : Rat) / cv wRate2 = (M : Rat) * (cv wRate2)⁻¹ := Rat.div_def _ _
  have p1 : (M : Rat) * (cv wRate2)⁻¹ ≤ 1000000000 * (cv wRate2)⁻¹ := Rat.mul_le_mul_of_nonneg_right M1 v0
  have p0 : 0 ≤ (M : Rat) * (cv wRate2)⁻¹ := Rat.mul_nonneg M0 v0
  have u9 : p2 ((9 : Nat) : Int) = 512 ∧ p2 (((9 : Nat) : Int) - 54) ≤ 1 / 10000000000000 ∧ p2 (((9 : Nat) : Int) - 53) ≤ 1 / 10000000000000 := by decide +kernel
  have u36 : p2 ((36 : Nat) : Int) = 68719476736 ∧ p2 (((36 : Nat) : Int) - 53) ≤ 1 / 100000 := by decide +kernel
  obtain ⟨q, q1, q2⟩ := div_ap (a := 0) (b := 0) 1 400 9 (by omega) nM.ap nR.ap (by decide +kernel) (by have := eR.1; grind) (by rw [ed]; exact rabs_le.2 ⟨by grind, by grind⟩) (by
    rw [u9.1]
    have h := u9.2.1
    have e : (0 + 400 * (0 : Rat)) / 1 = 0 := by decide +kernel
    rw [e]; grind)
  rw [ed] at q2
  have q3 : Ap q ((M : Rat) * (cv wRate2)⁻¹) (2 / 10000000000000) := q2.mono (by
    have e : (0 + 400 * (0 : Rat)) / 1 = 0 := by decide +kernel
    rw [e]; have := u9.2; grind)
  obtain ⟨r, r1, r2⟩ := mul_ap (b := 0) 400 86400000 36 (by omega) q3 nD.ap (by grind) (by grind) (by rw [eD]; grind) (by rw [eD]; grind) (by rw [u36.1]; grind)
  have hq63 : q < 9223372036854775808 := div_lt63 (fofI_lt63 M m0) (by decide +kernel) nM nR eR.2 q1
  obtain ⟨sq, mq, pq, a1, a2, a3⟩ := q3
  have hr63 : r < 9223372036854775808 := mul_lt63 hq63 (by decide +kernel) ⟨sq, mq, pq, a1, rfl⟩ nD r1
  obtain ⟨s, m, p, b1, b2, b3⟩ := r2
  have hs := sign_of hr63 b1
  subst hs
  obtain ⟨k, k1, k2, k3⟩ := toInt_pos m p
  have ew : waitW M = r := by unfold waitW; rw [fdiv_of q1, fmul_of r1]
  have ei : (double.read r).toInt .zero = some ((k : Nat) : Int) := by
    unfold Reads at b1
    rw [b1]; exact k1
  have ef : waitF M = (k : Int) := by unfold waitF; rw [ew, ei]; rfl
  refine ⟨q, q1, by rw [ew]; exact r1, by rw [ew, ef]; exact ei, ?_, ?_, by rw [ef]; omega⟩
  all_goals
    rw [ef]
    refine Rat.intCast_le_intCast.1 ?_
    rw [eD] at b2 b3
    have u := u36.2
    have t1 := Rat.mul_le_mul_of_nonneg_left v2.1 M0
    have t2 := Rat.mul_le_mul_of_nonneg_left v2.2 M0
    have ek : (((k : Nat) : Int) : Rat) = (k : Rat) := rfl
    push_cast
    generalize (cv wRate2)⁻¹ = v at *
    clear q1 q2 r1 a1 a2 a3 b1 k1 ei ef ew ed nM nR nD u9 eR
    generalize (k : Rat) = kk at *
    generalize rv false m p = z at *
    generalize p2 (((36 : Nat) : Int) - 53) = pp at *
    have e1 : (M : Rat) * (27379093 * v - 10) = 27379093 * ((M : Rat) * v) - 10 * (M : Rat) := by grind
    have e2 : (M : Rat) * -(1 / 100000000000000) = -((M : Rat) * (1 / 100000000000000)) := by grind
    rw [e1] at t1 t2
    rw [e2] at t2
    generalize (M : Rat) * v = mv at *
    grind
end
end Go.Proofs.YtcgnhnmigmdalaaGreatDoor
