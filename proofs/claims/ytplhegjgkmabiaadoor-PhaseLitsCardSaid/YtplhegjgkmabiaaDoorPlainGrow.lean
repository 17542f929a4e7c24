/- How sums grow between two instants. No program in sight. -/
import Derived.Test.YtplhegjgkmabiaaDoorPlainOvR
import Derived.Test.YtplhegjgkmabiaaDoorFltD
import Derived.Test.YtplhegjgkmabiaaDoorPlainSlp3
import Derived.Test.YtplhegjgkmabiaaDoorWkD
set_option linter.unusedVariables false
set_option linter.unusedSimpArgs false
namespace Go.Proofs.YtplhegjgkmabiaaDoor
open Ieee
/-- The angle of a term in units, not brought into a turn. -/
def uA (t : Tm) (i : Int) : Rat := (t.ph : Rat) + ((t.rt * i : Int) : Rat) * (1 / 86400000000000)
theorem partA_u (t : Tm) (i : Int) : ∃ j : Int, partA t i + (j : Rat) * 1000000000 = uA t i := by
  have e1 := Int.emod_add_mul_ediv (t.rt * i) 86400000000000
  have e2 := Int.emod_add_mul_ediv (t.ph + grQ t.rt i) 1000000000
  refine ⟨(t.ph + grQ t.rt i) / 1000000000, ?_⟩
  unfold partA grR uA
  unfold grQ at *
  have dv : ((t.rt * i % 86400000000000 : Int) : Rat) / 86400000000000 = ((t.rt * i % 86400000000000 : Int) : Rat) * (1 / 86400000000000) := by rw [Rat.div_def, Rat.div_def]; grind
  rw [dv]
  generalize t.rt * i % 86400000000000 = r at *
  generalize t.rt * i / 86400000000000 = q at *
  generalize (t.ph + q) % 1000000000 = n at *
  generalize (t.ph + q) / 1000000000 = k at *
  have f1 : (r : Rat) + 86400000000000 * (q : Rat) = ((t.rt * i : Int) : Rat) := by rw [← e1]; push_cast; rfl
  have f2 : (n : Rat) + 1000000000 * (k : Rat) = (t.ph : Rat) + (q : Rat) := by
    have := congrArg (fun z : Int => (z : Rat)) e2
    push_cast at this
    exact this
  push_cast at f1
  push_cast
  grind
theorem siU_step (n : Int) : rabs (siU (n + 1) - siU n) ≤ 64 / 10000000000 := by
  have h := rabs_le.1 (siU_lip (m := n) (n := n + 1) (by omega))
  have e : ((n + 1 - n : Int) : Rat) = 1 := by rw [show n + 1 - n = 1 by omega]; rfl
  rw [e] at h
  rw [rabs_le]
  constructor <;> grind
/-- The sine at an angle is near that at the whole number below. -/
theorem siU_floor {n k : Int} {z : Rat} (z0 : 0 ≤ z) (z1 : z ≤ 1000000000) (h0 : (n : Rat) ≤ z + (k : Rat) * 1000000000) (h1 : z + (k : Rat) * 1000000000 < (n : Rat) + 1) : rabs (S (tq * z) - siU n) ≤ 65 / 10000000000 := by
  have ea : ((n - k * 1000000000 : Int) : Rat) = (n : Rat) - (k : Rat) * 1000000000 := by push_cast; rfl
  obtain ⟨a, ha⟩ : ∃ a : Int, a = n - k * 1000000000 := ⟨_, rfl⟩
  rw [← ha] at ea
  have cancel : ∀ {a b : Int}, (a : Rat) < (b : Rat) → a < b := fun h => Rat.intCast_lt_intCast.1 h
  have canc : ∀ {a b : Int}, (a : Rat) ≤ (b : Rat) → a ≤ b := fun h => Rat.intCast_le_intCast.1 h
  have a0 : 0 ≤ a := by
    have : (-1 : Int) < a := cancel (by push_cast; grind)
    omega
  have a1 : a ≤ 1000000000 := canc (by push_cast; grind)
  have A0 : (0 : Rat) ≤ (a : Rat) := by exact_mod_cast a0
  have A1 : (a : Rat) ≤ 1000000000 := by
    have := Rat.intCast_le_intCast.2 a1
    exact this
  have na := (siU_near (n := n) (k := k) (z := (a : Rat)) (μ := 0) A0 A1 (by
    have q : (a : Rat) + (k : Rat) * 1000000000 - (n : Rat) = 0 := by grind
    rw [q]; decide +kernel) (by decide +kernel)).1
  clear cancel canc
  by_cases hz : a = 1000000000
  · have hz' : (a : Rat) = 1000000000 := by rw [hz]; rfl
    have ez : z = (a : Rat) := by grind
    rw [ez]
    have na := rabs_le.1 na
    rw [rabs_le]
    constructor <;> grind
  · have B1 : (a : Rat) + 1 ≤ 1000000000 := by
      have := Rat.intCast_le_intCast.2 (show a + 1 ≤ 1000000000 by omega)
      push_cast at this
      exact this
    have nb := (siU_near (n := n + 1) (k := k) (z := (a : Rat) + 1) (μ := 0) (by grind) B1 (by
      have q : (a : Rat) + 1 + (k : Rat) * 1000000000 - ((n + 1 : Int) : Rat) = 0 := by push_cast; grind
      rw [q]; decide +kernel) (by decide +kernel)).1
    have li := (sc_line (a := (a : Rat)) (lam := z - (a : Rat)) A0 A1 (by grind) (by grind)).1
    have ez : (a : Rat) + (z - (a : Rat)) = z := by grind
    rw [ez] at li
    have st := siU_step n
    have lam1 : rabs (z - (a : Rat)) ≤ 1 := rabs_le.2 ⟨by grind, by grind⟩
    have df : rabs (S (tq * ((a : Rat) + 1)) - S (tq * (a : Rat))) ≤ 6410 / 1000000000000 := by
      have na := rabs_le.1 na
      have nb := rabs_le.1 nb
      have st := rabs_le.1 st
      rw [rabs_le]
      constructor <;> grind
    have m := rabs_le.1 (mul_rabs lam1 df)
    have na := rabs_le.1 na
    have li := rabs_le.1 li
    generalize S (tq * z) = sz at *
    generalize S (tq * (a : Rat)) = sa at *
    generalize S (tq * ((a : Rat) + 1)) = sb at *
    generalize siU n = sn at *
    generalize z - (a : Rat) = lam at *
    clear lam1 df st nb h0 h1 ea ha ez
    have m1 := m.1
    have m2 := m.2
    have k1 : lam * (sb - sa) = lam * sb - lam * sa := by grind
    have k2 : (1 - lam) * sa + lam * sb = sa + (lam * sb - lam * sa) := by grind
    rw [k1] at m1 m2
    rw [k2] at li
    generalize lam * sb - lam * sa = q at *
    rw [rabs_le]
    constructor <;> grind
theorem siU_lip_abs (m n : Int) : rabs (siU n - siU m) ≤ (628320 / 100000000000000) * rabs ((n : Rat) - (m : Rat)) + 1 / 100000000000 := by
  rcases Int.le_total m n with h | h
  · have l := siU_lip h
    have e : ((n - m : Int) : Rat) = (n : Rat) - (m : Rat) := by push_cast; rfl
    have p : (0 : Rat) ≤ (n : Rat) - (m : Rat) := by have := Rat.intCast_le_intCast.2 h; grind
    have r : rabs ((n : Rat) - (m : Rat)) = (n : Rat) - (m : Rat) := by unfold rabs; rw [if_pos p]
    rw [e] at l
    rw [r]
    exact l
  · have l := siU_lip h
    have e : ((m - n : Int) : Rat) = (m : Rat) - (n : Rat) := by push_cast; rfl
    have p : (0 : Rat) ≤ (m : Rat) - (n : Rat) := by have := Rat.intCast_le_intCast.2 h; grind
    have r := rabs_le.1 (show rabs ((n : Rat) - (m : Rat)) ≤ rabs ((n : Rat) - (m : Rat)) from Rat.le_refl)
    rw [e] at l
    have l := rabs_le.1 l
    rw [rabs_le]
    constructor <;> grind
/-- A term between two instants, up to whole turns j of its angle. -/
theorem term_lip (t : Tm) (x y j : Int) : rabs (S (tq * partA t y) - S (tq * partA t x)) ≤ (628320 / 100000000000000) * rabs (uA t y - uA t x - (j : Rat) * 1000000000) + 2 / 100000000 := by
  obtain ⟨kx, hx⟩ := partA_u t x
  obtain ⟨ky, hy⟩ := partA_u t y
  obtain ⟨x0, x1⟩ := partA_bd t x
  obtain ⟨y0, y1⟩ := partA_bd t y
  obtain ⟨n, n0, n1⟩ := floor_ex (uA t x)
  obtain ⟨m, m0, m1⟩ := floor_ex (uA t y)
  have fx := rabs_le.1 (siU_floor (n := n) (k := kx) x0 x1 (by grind) (by grind))
  have fy := rabs_le.1 (siU_floor (n := m) (k := ky) y0 y1 (by grind) (by grind))
  have e : siU (m - j * 1000000000) = siU m := by
    rw [show m - j * 1000000000 = m + 1000000000 * (-j) by omega]; exact siU_turn m (-j)
  have l := siU_lip_abs n (m - j * 1000000000)
  rw [e] at l
  have c : ((m - j * 1000000000 : Int) : Rat) = (m : Rat) - (j : Rat) * 1000000000 := by push_cast; rfl
  rw [c] at l
  have l := rabs_le.1 l
  have r : rabs ((m : Rat) - (j : Rat) * 1000000000 - (n : Rat)) ≤ rabs (uA t y - uA t x - (j : Rat) * 1000000000) + 1 := by
    have r := rabs_le.1 (show rabs (uA t y - uA t x - (j : Rat) * 1000000000) ≤ rabs (uA t y - uA t x - (j : Rat) * 1000000000) from Rat.le_refl)
    rw [rabs_le]
    constructor <;> grind
  generalize rabs ((m : Rat) - (j : Rat) * 1000000000 - (n : Rat)) = A at *
  generalize rabs (uA t y - uA t x - (j : Rat) * 1000000000) = B at *
  generalize S (tq * partA t y) = sy at *
  generalize S (tq * partA t x) = sx at *
  rw [rabs_le]
  constructor <;> grind
theorem uA_diff (t : Tm) (x y : Int) : uA t y - uA t x = (t.rt : Rat) * ((y - x : Int) : Rat) * (1 / 86400000000000) := by
  unfold uA
  push_cast
  grind
theorem termX_tq (t : Tm) (i : Int) : termX i t = t.amp * S (tq * partA t i) := by
  unfold termX
  rw [show 2 * piQ * partA t i / 1000000000 = tq * partA t i by unfold tq; rw [Rat.div_def, Rat.div_def]; grind]
theorem termX_lip (t : Tm) (x y : Int) (h : x ≤ y) : rabs (termX y t - termX x t) ≤ rabs t.amp * (rabs t.rt * ((628320 / 100000000000000) * (1 / 86400000000000) * ((y - x : Int) : Rat)) + 2 / 100000000) := by
  have l := term_lip t x y 0
  have z : ((0 : Int) : Rat) * 1000000000 = 0 := by decide +kernel
  rw [z, uA_diff] at l
  have p : (0 : Rat) ≤ ((y - x : Int) : Rat) := by exact_mod_cast (show 0 ≤ y - x by omega)
  generalize hd : ((y - x : Int) : Rat) = d at *
  have r : rabs ((t.rt : Rat) * d * (1 / 86400000000000) - 0) ≤ rabs t.rt * (d * (1 / 86400000000000)) := by
    have m := mul_rabs (a := (t.rt : Rat)) (b := d * (1 / 86400000000000)) (A := rabs t.rt) (B := d * (1 / 86400000000000)) Rat.le_refl (rabs_le.2 ⟨Rat.le_refl, by grind⟩)
    rw [show (t.rt : Rat) * d * (1 / 86400000000000) - 0 = (t.rt : Rat) * (d * (1 / 86400000000000)) by grind]
    exact m
  rw [termX_tq, termX_tq, show (t.amp : Rat) * S (tq * partA t y) - t.amp * S (tq * partA t x) = t.amp * (S (tq * partA t y) - S (tq * partA t x)) by grind]
  refine mul_rabs Rat.le_refl (Rat.le_trans l ?_)
  grind
def aR (l : List Tm) (k : Nat) : Rat := (l.take k).foldl (fun v t => v + rabs t.amp * rabs t.rt) 0
def aS (l : List Tm) (k : Nat) : Rat := (l.take k).foldl (fun v t => v + rabs t.amp) 0
theorem aR_snoc (l : List Tm) (k : Nat) (h : k < l.length) : aR l (k + 1) = aR l k + rabs l[k].amp * rabs l[k].rt := by
  unfold aR; rw [fe_take l k h, List.foldl_append]; rfl
theorem aS_snoc (l : List Tm) (k : Nat) (h : k < l.length) : aS l (k + 1) = aS l k + rabs l[k].amp := by
  unfold aS; rw [fe_take l k h, List.foldl_append]; rfl
theorem xAt_lip (l : List Tm) (x y : Int) (h : x ≤ y) : ∀ k, k ≤ l.length → rabs (xAt l y k - xAt l x k) ≤ aR l k * ((628320 / 100000000000000) * (1 / 86400000000000) * ((y - x : Int) : Rat)) + aS l k * (2 / 100000000)
  | 0, _ => by
    have e : xAt l y 0 - xAt l x 0 = 0 := by show (0 : Rat) - 0 = 0; grind
    have e2 : aR l 0 = 0 := rfl
    have e3 : aS l 0 = 0 := rfl
    rw [e, e2, e3, rabs_le]
    constructor <;> grind
  | k + 1, hk => by
    have ih := rabs_le.1 (xAt_lip l x y h k (by omega))
    have t := rabs_le.1 (termX_lip l[k] x y h)
    rw [xAt_snoc l y k (by omega), xAt_snoc l x k (by omega), aR_snoc l k (by omega), aS_snoc l k (by omega)]
    generalize (628320 / 100000000000000) * (1 / 86400000000000) * ((y - x : Int) : Rat) = d at *
    generalize rabs (l[k].amp : Rat) = A at *
    generalize rabs (l[k].rt : Rat) = R at *
    rw [rabs_le]
    constructor <;> grind
theorem sin_one (t : Tm) (i : Int) : rabs (S (tq * partA t i)) ≤ 1 + 1 / 100000000 := by
  obtain ⟨kx, hx⟩ := partA_u t i
  obtain ⟨x0, x1⟩ := partA_bd t i
  obtain ⟨n, n0, n1⟩ := floor_ex (uA t i)
  have fx := rabs_le.1 (siU_floor (n := n) (k := kx) x0 x1 (by grind) (by grind))
  have b := siU_bd n
  rw [rabs_le]
  constructor <;> grind
theorem xAt_amp (l : List Tm) (i : Int) : ∀ k, k ≤ l.length → rabs (xAt l i k) ≤ aS l k * (1 + 1 / 100000000)
  | 0, _ => by
    have e : xAt l i 0 = 0 := rfl
    have e3 : aS l 0 = 0 := rfl
    rw [e, e3, rabs_le]
    constructor <;> grind
  | k + 1, hk => by
    have ih := rabs_le.1 (xAt_amp l i k (by omega))
    have t := rabs_le.1 (mul_rabs (a := (l[k].amp : Rat)) (A := rabs l[k].amp) Rat.le_refl (sin_one l[k] i))
    rw [xAt_snoc l i k (by omega), aS_snoc l k (by omega), termX_tq]
    generalize rabs (l[k].amp : Rat) = A at *
    rw [rabs_le]
    constructor <;> grind
/-- The bounds of an angle, not brought into a turn. -/
def lfLo (m r : Int) (l : List Tm) (s i : Int) : Int := valLo m l s i + grQ r i
def lfHi (m r : Int) (l : List Tm) (s i : Int) : Int := (if 0 < grR r i then valHi m l s i + 1 else valHi m l s i) + grQ r i
theorem lf_ang (m r : Int) (l : List Tm) (s i : Int) : angLo m r l s i = lfLo m r l s i % 1000000000 ∧ angHi m r l s i - angLo m r l s i = lfHi m r l s i - lfLo m r l s i := by
  unfold angHi angLo lfLo lfHi
  constructor <;> omega
theorem grQ_bd (r i : Int) : ((grQ r i : Int) : Rat) ≤ ((r * i : Int) : Rat) * (1 / 86400000000000) ∧ ((r * i : Int) : Rat) * (1 / 86400000000000) < ((grQ r i : Int) : Rat) + 1 := by
  have e := Int.emod_add_mul_ediv (r * i) 86400000000000
  have r0 : 0 ≤ r * i % 86400000000000 := Int.emod_nonneg _ (by omega)
  have r1 : r * i % 86400000000000 < 86400000000000 := Int.emod_lt_of_pos _ (by omega)
  unfold grQ
  generalize r * i / 86400000000000 = q at *
  generalize r * i % 86400000000000 = p at *
  rw [← e]
  have p0 : (0 : Rat) ≤ (p : Rat) := by exact_mod_cast r0
  have p1 : (p : Rat) < 86400000000000 := by
    have := Rat.intCast_lt_intCast.2 r1
    exact this
  push_cast
  constructor <;> grind
theorem lf_width {m r : Int} {l : List Tm} {s i : Int} (hv : SumOk m r l s) : 2 * s ≤ lfHi m r l s i - lfLo m r l s i ∧ lfHi m r l s i - lfLo m r l s i ≤ 2 * s + 3 := by
  obtain ⟨-, w2, w3⟩ := val_width (inst := i) hv
  unfold lfHi lfLo
  split <;> omega
theorem val_at {m r : Int} {l : List Tm} {s i : Int} (hv : SumOk m r l s) : (valLo m l s i : Rat) ≤ (m : Rat) + xAt l i l.length - (s : Rat) + 1 / 1000 ∧ (m : Rat) + xAt l i l.length - (s : Rat) - 1 - 3 / 1000 ≤ (valLo m l s i : Rat) ∧
    (m : Rat) + xAt l i l.length + (s : Rat) - 1 / 1000 ≤ (valHi m l s i : Rat) ∧ (valHi m l s i : Rat) ≤ (m : Rat) + xAt l i l.length + (s : Rat) + 1 + 3 / 1000 := by
  unfold valLo valHi
  by_cases h0 : l.length = 0
  · rw [if_pos h0, if_pos h0]
    have e : xAt l i l.length = 0 := by rw [h0]; rfl
    rw [e]
    push_cast
    refine ⟨by grind, by grind, by grind, by grind⟩
  · rw [if_neg h0, if_neg h0]
    obtain ⟨f1, f2, X1, X2, -, -, -, -, -, -, -, -, -, -, b1, b2, b3, b4⟩ := val_around (inst := i) hv.len hv.tm
    push_cast
    refine ⟨by grind, by grind, by grind, by grind⟩
/-- The growth of the lower bound: L is what the terms can change a day (a bound of aR 2 pi / 10^9 ..), A what the sum of amplitudes is. -/
theorem lf_grow {m r : Int} {l : List Tm} {s x y : Int} {L : Rat} (hv : SumOk m r l s) (h : x ≤ y) (hL : aR l l.length * (628320 / 100000000000000) ≤ L) (hA : aS l l.length * (2 / 100000000) ≤ 9 / 10) :
    ((r : Rat) - L) * ((y - x : Int) : Rat) * (1 / 86400000000000) - 3 ≤ ((lfLo m r l s y - lfLo m r l s x : Int) : Rat) ∧ ((lfLo m r l s y - lfLo m r l s x : Int) : Rat) ≤ ((r : Rat) + L) * ((y - x : Int) : Rat) * (1 / 86400000000000) + 3 := by
  obtain ⟨x1, x2, -, -⟩ := val_at (i := x) hv
  obtain ⟨y1, y2, -, -⟩ := val_at (i := y) hv
  obtain ⟨g1, g2⟩ := grQ_bd r x
  obtain ⟨g3, g4⟩ := grQ_bd r y
  have li := rabs_le.1 (xAt_lip l x y h l.length (Nat.le_refl _))
  have p : (0 : Rat) ≤ ((y - x : Int) : Rat) := by exact_mod_cast (show 0 ≤ y - x by omega)
  have hLm : aR l l.length * (628320 / 100000000000000) * ((1 / 86400000000000) * ((y - x : Int) : Rat)) ≤ L * ((1 / 86400000000000) * ((y - x : Int) : Rat)) := Rat.mul_le_mul_of_nonneg_right hL (by grind)
  unfold lfLo
  push_cast
  push_cast at g1 g2 g3 g4 li p hLm
  generalize xAt l x l.length = a at *
  generalize xAt l y l.length = b at *
  constructor <;> grind
/-- The lower bound and the mean motion. -/
theorem lf_mean {m r : Int} {l : List Tm} {s i : Int} {A : Rat} (hv : SumOk m r l s) (hA : aS l l.length * (1 + 1 / 100000000) ≤ A) :
    (m : Rat) + ((r * i : Int) : Rat) * (1 / 86400000000000) - A - (s : Rat) - 3 ≤ (lfLo m r l s i : Rat) ∧ (lfLo m r l s i : Rat) ≤ (m : Rat) + ((r * i : Int) : Rat) * (1 / 86400000000000) + A - (s : Rat) + 1 := by
  obtain ⟨x1, x2, -, -⟩ := val_at (i := i) hv
  obtain ⟨g1, g2⟩ := grQ_bd r i
  have a := rabs_le.1 (xAt_amp l i l.length (Nat.le_refl _))
  unfold lfLo
  push_cast
  push_cast at g1 g2
  generalize xAt l i l.length = a at *
  constructor <;> grind
end Go.Proofs.YtplhegjgkmabiaaDoor
