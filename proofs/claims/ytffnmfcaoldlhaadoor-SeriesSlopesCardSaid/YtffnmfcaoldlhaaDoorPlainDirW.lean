/- The arc functions as plain functions of words. No program in sight. -/
import Derived.Test.YtffnmfcaoldlhaaDoorPlainAt6
set_option linter.unusedVariables false
set_option linter.unusedSimpArgs false
namespace Go.Proofs.YtffnmfcaoldlhaaDoor
open Ieee
def gt0 (x y : Nat) : Bool := double.order x y == some .gt
def lt0 (x y : Nat) : Bool := double.order x y == some .lt
def eq0 (x y : Nat) : Bool := double.order x y == some .eq
theorem gt0_num {x y : Nat} {X Y : Rat} (hx : Num x X) (hy : Num y Y) : gt0 x y = decide (Y < X) := by
  obtain ⟨a, b, c⟩ := num_order hx hy
  unfold gt0
  by_cases h : Y < X
  · rw [c h, decide_eq_true h]; rfl
  · rw [decide_eq_false h]
    by_cases h2 : X = Y
    · rw [b h2]; rfl
    · rw [a (by grind)]; rfl
theorem lt0_num {x y : Nat} {X Y : Rat} (hx : Num x X) (hy : Num y Y) : lt0 x y = decide (X < Y) := by
  obtain ⟨a, b, c⟩ := num_order hx hy
  unfold lt0
  by_cases h : X < Y
  · rw [a h, decide_eq_true h]; rfl
  · rw [decide_eq_false h]
    by_cases h2 : X = Y
    · rw [b h2]; rfl
    · rw [c (by grind)]; rfl
theorem eq0_num {x y : Nat} {X Y : Rat} (hx : Num x X) (hy : Num y Y) : eq0 x y = decide (X = Y) := by
  obtain ⟨a, b, c⟩ := num_order hx hy
  unfold eq0
  by_cases h : X = Y
  · rw [b h, decide_eq_true h]; rfl
  · rw [decide_eq_false h]
    by_cases h2 : X < Y
    · rw [a h2]; rfl
    · rw [c (by grind)]; rfl
def xatW (x : Nat) : Nat := (fun z => fadd (fmul x (fdiv (fmul z (fadd (fmul (fadd (fmul (fadd (fmul (fadd (fmul aP0 z) aP1) z) aP2) z) aP3) z) aP4)) (fadd (fmul (fadd (fmul (fadd (fmul (fadd (fmul (fadd z aQ0) z) aQ1) z) aQ2) z) aQ3) z) aQ4))) x) (fmul x x)
theorem xatW_of {x r : Nat} (h : XatP x r) : xatW x = r := by
  obtain ⟨z, m1, h1, m2, h2, m3, h3, m4, h4, n, k0, l1, k1, l2, k2, l3, k3, l4, k4, d, v, f1, f2, f3, f4, f5, f6, f7, f8, f9, f10, f11, f12, f13, f14, f15, f16, f17, f18, f19, f20, f21, f22⟩ := h
  unfold xatW
  simp only [fmul_of f1, fmul_of f2, fadd_of f3, fmul_of f4, fadd_of f5, fmul_of f6, fadd_of f7, fmul_of f8, fadd_of f9, fmul_of f10, fadd_of f11, fmul_of f12, fadd_of f13, fmul_of f14, fadd_of f15, fmul_of f16, fadd_of f17, fmul_of f18, fadd_of f19, fdiv_of f20, fmul_of f21, fadd_of f22]
def satW (t : Nat) : Nat := if gt0 t w066 then (if gt0 t wT38 then fadd (fsub wPi2 (xatW (fdiv wOne t))) wMB else fadd (fadd wPi4 (xatW (fdiv (fsub t wOne) (fadd t wOne)))) wMBh) else xatW t
theorem satW_of {t r : Nat} {T : Rat} (hn : Num t T) (h : SatP t T r) : satW t = r := by
  have n1 : Num w066 (cv w066) := cv_num (by decide +kernel)
  have n2 : Num wT38 (cv wT38) := cv_num (by decide +kernel)
  unfold satW
  rw [gt0_num hn n1, gt0_num hn n2]
  rcases h with ⟨h1, h2⟩ | ⟨h1, h2, i, x, a, f1, f2, f3, f4⟩ | ⟨h1, h2, n, d, q, x, a, f1, f2, f3, f4, f5, f6⟩
  · rw [decide_eq_false (by grind), if_neg (by simp), xatW_of h2]
  · rw [decide_eq_true h1, decide_eq_true h2, if_pos rfl, if_pos rfl, fdiv_of f1, xatW_of f2, fsub_of f3, fadd_of f4]
  · rw [decide_eq_true h1, decide_eq_false (by grind), if_pos rfl, if_neg (by simp), fsub_of f1, fadd_of f2, fdiv_of f3, xatW_of f4, fadd_of f5, fadd_of f6]
def atanW (q : Nat) : Nat := if eq0 q 0 then q else if gt0 q 0 then satW q else fneg (satW (fneg q))
theorem atanW_of {q r : Nat} {V : Rat} (hn : Num q V) (h : AtanP q V r) : atanW q = r := by
  unfold atanW
  rw [eq0_num hn num_zero, gt0_num hn num_zero]
  rcases h with ⟨h1, rfl⟩ | ⟨h1, h2⟩ | ⟨h1, s, h2, rfl⟩
  · rw [decide_eq_true h1, if_pos rfl]
  · rw [decide_eq_false (by grind), decide_eq_true h1, if_neg (by simp), if_pos rfl, satW_of hn h2]
  · rw [decide_eq_false (by grind), decide_eq_false (by grind), if_neg (by simp), if_neg (by simp), satW_of (fneg_num hn) h2]
def at2W (y x : Nat) : Nat :=
  if eq0 y 0 then (if lt0 x 0 then wPiA else 0) else if eq0 x 0 then (if gt0 y 0 then wPi2 else fneg wPi2) else
  (fun a => if lt0 x 0 then (if gt0 a 0 then fsub a wPiA else fadd a wPiA) else a) (atanW (fdiv y x))
theorem at2W_of {y x r : Nat} {Y X : Rat} (ny : Num y Y) (nx : Num x X) (h : At2P y Y x X r) : at2W y x = r := by
  unfold at2W
  rw [eq0_num ny num_zero, eq0_num nx num_zero, lt0_num nx num_zero, gt0_num ny num_zero]
  rcases h with ⟨h1, h2, rfl⟩ | ⟨h1, h2, rfl⟩ | ⟨h1, h2, rfl⟩ | ⟨h1, h2, rfl⟩ | ⟨h1, h2, q, V, a, v, f1, f2, f3, f4, f5, f6⟩
  · rw [decide_eq_true h1, decide_eq_false (show ¬ X < 0 by grind)]; rfl
  · rw [decide_eq_true h1, decide_eq_true h2]; rfl
  · rw [decide_eq_false (show ¬ Y = 0 by grind), decide_eq_true h1, decide_eq_true h2]; rfl
  · rw [decide_eq_false (show ¬ Y = 0 by grind), decide_eq_true h1, decide_eq_false (show ¬ 0 < Y by grind)]; rfl
  · rw [decide_eq_false h1, decide_eq_false h2, if_neg (by simp), if_neg (by simp), fdiv_of f1, atanW_of f2 f4]
    dsimp only
    rw [gt0_num f5 num_zero]
    rcases f6 with ⟨k1, rfl⟩ | ⟨k1, k2, k3⟩ | ⟨k1, k2, k3⟩
    · rw [decide_eq_false (show ¬ X < 0 by grind), if_neg (by simp)]
    · rw [decide_eq_true k1, decide_eq_false (show ¬ 0 < v by grind), if_pos rfl, if_neg (by simp), fadd_of k3]
    · rw [decide_eq_true k1, decide_eq_true k2, if_pos rfl, if_pos rfl, fsub_of k3]
/-- The word of the angle of a direction. -/
def dirW (y x : Int) : Nat := fmul (fdiv (at2W (fofI y) (fofI x)) w2Pi) wTurn
/-- The direction of whole numbers. -/
structure HeadI (x y : Int) (D : Rat) : Prop where
  n : rabs ((x : Rat) * S (tq * D) - (y : Rat) * C (tq * D)) ≤ 5 / 100000000000 * (rabs x + rabs y)
  p : (rabs x + rabs y) / 6 ≤ (x : Rat) * C (tq * D) + (y : Rat) * S (tq * D)
  b : rabs D ≤ 500000000 + 1 / 100
theorem Head.int {X Y D : Rat} {x y : Int} (h : Head X Y D) (h1 : rabs (X - (x : Rat)) ≤ 1 / 1000000000000000 * rabs (x : Rat)) (h2 : rabs (Y - (y : Rat)) ≤ 1 / 1000000000000000 * rabs (y : Rat)) : HeadI x y D := by
  obtain ⟨n, p, b⟩ := h
  have tb : rabs (tq * D) ≤ 32/5 := by
    obtain ⟨t1, t2, -, t4, -⟩ := tq_num
    have := mul_rabs (show rabs tq ≤ 628319 / 100000000000000 from rabs_le.2 ⟨by grind, by grind⟩) b
    grind
  have bb := SC_bd tb
  have m1 := rabs_le.1 (mul_rabs h1 bb.1)
  have m2 := rabs_le.1 (mul_rabs h1 bb.2)
  have m3 := rabs_le.1 (mul_rabs h2 bb.1)
  have m4 := rabs_le.1 (mul_rabs h2 bb.2)
  have x0 := rabs_nonneg (x : Rat)
  have y0 := rabs_nonneg (y : Rat)
  have k1 := rabs_add (X - (x : Rat)) x
  have k2 := rabs_add (Y - (y : Rat)) y
  have k3 := rabs_add ((x : Rat) - X) X
  have k4 := rabs_add ((y : Rat) - Y) Y
  have e1 : X - (x : Rat) + x = X := by grind
  have e2 : Y - (y : Rat) + y = Y := by grind
  have e3 : (x : Rat) - X + X = x := by grind
  have e4 : (y : Rat) - Y + Y = y := by grind
  have e5 : rabs ((x : Rat) - X) = rabs (X - (x : Rat)) := by
    have : (x : Rat) - X = -(X - (x : Rat)) := by grind
    rw [this, rabs_neg]
  have e6 : rabs ((y : Rat) - Y) = rabs (Y - (y : Rat)) := by
    have : (y : Rat) - Y = -(Y - (y : Rat)) := by grind
    rw [this, rabs_neg]
  rw [e1] at k1
  rw [e2] at k2
  rw [e3, e5] at k3
  rw [e4, e6] at k4
  have n := rabs_le.1 n
  refine ⟨?_, ?_, b⟩
  all_goals
    clear e1 e2 e3 e4 e5 e6 bb tb b
    generalize S (tq * D) = s at *
    generalize C (tq * D) = c at *
    generalize (x : Rat) = xr at *
    generalize (y : Rat) = yr at *
    generalize rabs (X - xr) = dx at *
    generalize rabs (Y - yr) = dy at *
    generalize rabs X = aX at *
    generalize rabs Y = aY at *
    generalize rabs xr = ax at *
    generalize rabs yr = ay at *
  · rw [rabs_le]
    constructor <;> grind
  · grind
/-- What trig.direction runs through. -/
def DirP (y x : Int) (f : Nat) : Prop := ∃ Y X r d, Num (fofI y) Y ∧ Num (fofI x) X ∧ rabs Y ≤ 9000000000000000000 ∧ rabs X ≤ 9000000000000000000 ∧ (Y = 0 → fofI y = 0) ∧ At2P (fofI y) Y (fofI x) X r ∧ double.div r w2Pi = some d ∧ double.mul d wTurn = some f
theorem dirI_run (y x : Int) (y1 : -2000000000000000000 ≤ y) (y2 : y ≤ 2000000000000000000) (x1 : -2000000000000000000 ≤ x) (x2 : x ≤ 2000000000000000000) (h0 : y ≠ 0 ∨ x ≠ 0) :
    DirP y x (dirW y x) ∧ ∃ D, Num (dirW y x) D ∧ HeadI x y D := by
  obtain ⟨Y, ny, b1, b2, b3, b4⟩ := int_num y y1 y2
  obtain ⟨X, nx, c1, c2, c3, c4⟩ := int_num x x1 x2
  have hX : X = 0 ∨ 1/2 ≤ rabs X := by
    by_cases h : x = 0
    · exact .inl (c2 h).1
    · exact .inr (c3 h)
  have z0 : rabs 0 = 0 := by decide +kernel
  have hz : Y ≠ 0 ∨ X ≠ 0 := by
    rcases h0 with h | h
    · left; intro e; have := b3 h; rw [e, z0] at this; grind
    · right; intro e; have := c3 h; rw [e, z0] at this; grind
  have yz : Y = 0 → fofI y = 0 := by
    intro e
    by_cases h : y = 0
    · exact (b2 h).2
    · have := b3 h; rw [e, z0] at this; grind
  obtain ⟨r, d, f, D, f1, f2, f3, f4, f5⟩ := dir_run ny nx hX (by grind) (by grind) hz
  have e : dirW y x = f := by
    unfold dirW
    rw [at2W_of ny nx f1, fdiv_of f2, fmul_of f3]
  rw [e]
  exact ⟨⟨Y, X, r, d, ny, nx, by grind, by grind, yz, f1, f2, f3⟩, D, f4, f5.int c1 b1⟩
end Go.Proofs.YtffnmfcaoldlhaaDoor
