/- Floating-point numbers compared and cut; the operations as plain functions of words. No program in sight. The reference's sine and cosine by doubling, in plain terms: how far they are from Taylor's polynomials. No program in sight. The start of the reference's doubling, and what SinCos answers. No program in sight. Radians, the interval around a number, and the sine of an angle, as plain functions. No program in sight. The sine of an angle in units of a billionth of a turn. No program in sight. -/
import Derived.Test.YtcgnhnmigmdalaaGreatDoorFltB
set_option linter.unusedVariables false
set_option linter.unusedSimpArgs false
namespace Go.Proofs.YtcgnhnmigmdalaaGreatDoor
section
open Ieee
/-- A word reads as a number. -/
def Num (w : Nat) (X : Rat) : Prop := ∃ s m p, Reads w s m p ∧ rv s m p = X
theorem Num.ap {w : Nat} {X : Rat} (h : Num w X) : Ap w X 0 := by
  obtain ⟨s, m, p, h1, h2⟩ := h
  exact ⟨s, m, p, h1, by grind, by grind⟩
theorem Ap.num {w : Nat} {X e : Rat} (h : Ap w X e) : ∃ Y, Num w Y ∧ Y ≤ X + e ∧ X ≤ Y + e := by
  obtain ⟨s, m, p, h1, h2, h3⟩ := h
  exact ⟨_, ⟨s, m, p, h1, rfl⟩, h2, h3⟩
theorem Ap.num0 {w : Nat} {X : Rat} (h : Ap w X 0) : Num w X := by
  obtain ⟨s, m, p, h1, h2, h3⟩ := h
  exact ⟨s, m, p, h1, by grind⟩
theorem cv_num {w : Nat} (h : isNum w = true) : Num w (cv w) := (cv_ap h).num0
theorem Num.uniq {w : Nat} {X Y : Rat} (h : Num w X) (g : Num w Y) : X = Y := by
  obtain ⟨s, m, p, h1, h2⟩ := h
  obtain ⟨t, n, q, g1, g2⟩ := g
  unfold Reads at h1 g1
  rw [h1] at g1
  simp only [Datum.number.injEq] at g1
  obtain ⟨rfl, rfl, rfl⟩ := g1
  rw [← h2, ← g2]
theorem int_lt_of {A B : Int} {g : Rat} (hg : 0 < g) (h : (A : Rat) * g < (B : Rat) * g) : A < B := by
  have := Rat.lt_of_mul_lt_mul_right h (Rat.le_of_lt hg)
  exact_mod_cast this
theorem int_eq_of {A B : Int} {g : Rat} (hg : 0 < g) (h : (A : Rat) * g = (B : Rat) * g) : A = B := by
  have h1 := Rat.le_of_mul_le_mul_right (show (A : Rat) * g ≤ (B : Rat) * g by grind) hg
  have h2 := Rat.le_of_mul_le_mul_right (show (B : Rat) * g ≤ (A : Rat) * g by grind) hg
  have h1' : A ≤ B := by exact_mod_cast h1
  have h2' : B ≤ A := by exact_mod_cast h2
  omega
theorem cmp_lt {A B : Int} (h : A < B) : compare A B = .lt := by show compareOfLessAndEq A B = _; simp [compareOfLessAndEq, h]
theorem cmp_eq {A B : Int} (h : A = B) : compare A B = .eq := by show compareOfLessAndEq A B = _; simp [compareOfLessAndEq, h]
theorem cmp_gt {A B : Int} (h : B < A) : compare A B = .gt := by
  show compareOfLessAndEq A B = _
  unfold compareOfLessAndEq
  rw [if_neg (by omega), if_neg (by omega)]
theorem num_order {x y : Nat} {X Y : Rat} (hx : Num x X) (hy : Num y Y) : (X < Y → double.order x y = some .lt) ∧ (X = Y → double.order x y = some .eq) ∧ (Y < X → double.order x y = some .gt) := by
  obtain ⟨s, m, i, h1, h2⟩ := hx
  obtain ⟨t, n, j, g1, g2⟩ := hy
  unfold Reads at h1 g1
  unfold Format.order
  rw [h1, g1]
  unfold Datum.order
  dsimp only
  have e1 := signed_rv s m i (min i j) (by omega)
  have e2 := signed_rv t n j (min i j) (by omega)
  rw [h2] at e1
  rw [g2] at e2
  have hp := p2_pos (min i j)
  generalize signed s m (i - min i j).toNat = A at *
  generalize signed t n (j - min i j).toNat = B at *
  refine ⟨fun h => ?_, fun h => ?_, fun h => ?_⟩
  · rw [cmp_lt (int_lt_of hp (by rw [e1, e2]; exact h))]
  · rw [cmp_eq (int_eq_of hp (by rw [e1, e2]; exact h))]
  · rw [cmp_gt (int_lt_of hp (by rw [e1, e2]; exact h))]
theorem num_zero : Num 0 0 := ⟨false, 0, -1074, by unfold Reads; decide +kernel, by unfold rv; simp⟩
/-- What a number is cut to. -/
theorem toInt_cut {t : Nat} {T : Rat} (ht : Num t T) (h : -1 < T) : ∃ k : Nat, (double.read t).toInt .zero = some (k : Int) ∧ ((k : Rat) ≤ T ∨ k = 0) ∧ T < (k : Rat) + 1 := by
  obtain ⟨s, m, p, h1, h2⟩ := ht
  unfold Reads at h1
  rw [h1]
  cases s
  · obtain ⟨k, k1, k2, k3⟩ := toInt_pos m p
    exact ⟨k, k1, .inl (by grind), by grind⟩
  · obtain ⟨k, k1, k2, k3⟩ := toInt_pos m p
    have e : rv true m p = - rv false m p := by have := rv_neg false m p; simp at this; exact this
    have k0 : k = 0 := by
      have : (k : Rat) < ((1 : Nat) : Rat) := by
        have c1 : ((1 : Nat) : Rat) = 1 := rfl
        rw [c1]; grind
      have : k < 1 := by exact_mod_cast this
      omega
    refine ⟨0, ?_, .inr rfl, ?_⟩
    · unfold Datum.toInt at k1 ⊢
      unfold Datum.integral at k1 ⊢
      dsimp only at k1 ⊢
      rw [cut_is _ _ _ _ (by decide)] at k1 ⊢
      dsimp only at k1 ⊢
      unfold signed at k1 ⊢
      simp at k1 ⊢
      rw [k1, k0]
      rfl
    · have c0 : ((0 : Nat) : Rat) = 0 := rfl
      have : (0 : Rat) ≤ (m : Rat) * p2 p := mp_nonneg m p
      unfold rv at h2
      simp at h2
      rw [c0]
      grind
/-- The operations as plain functions. -/
def fadd (x y : Nat) : Nat := (double.add x y).getD 0
def fsub (x y : Nat) : Nat := (double.sub x y).getD 0
def fmul (x y : Nat) : Nat := (double.mul x y).getD 0
def fdiv (x y : Nat) : Nat := (double.div x y).getD 0
def fneg (x : Nat) : Nat := x ^^^ 9223372036854775808
def fcut (x : Nat) : Int := ((double.read x).toInt .zero).getD 0
def fofI (n : Int) : Nat := double.write (.number (decide (n < 0)) n.natAbs 0)
def fflr (x : Nat) : Nat := double.write ((double.read x).integral .down)
def fcei (x : Nat) : Nat := double.write ((double.read x).integral .up)
theorem fadd_of {x y r : Nat} (h : double.add x y = some r) : fadd x y = r := by unfold fadd; rw [h]; rfl
theorem fsub_of {x y r : Nat} (h : double.sub x y = some r) : fsub x y = r := by unfold fsub; rw [h]; rfl
theorem fmul_of {x y r : Nat} (h : double.mul x y = some r) : fmul x y = r := by unfold fmul; rw [h]; rfl
theorem fdiv_of {x y r : Nat} (h : double.div x y = some r) : fdiv x y = r := by unfold fdiv; rw [h]; rfl
theorem fcut_of {x : Nat} {n : Int} (h : (double.read x).toInt .zero = some n) : fcut x = n := by unfold fcut; rw [h]; rfl
/-- math.sin's polynomials, its reduction, and math.sin from nought on. -/
def sinPW (z : Nat) : Nat := (fun zz => fadd z (fmul (fmul z zz) (fadd (fmul (fadd (fmul (fadd (fmul (fadd (fmul (fadd (fmul sC0 zz) sC1) zz) sC2) zz) sC3) zz) sC4) zz) sC5))) (fmul z z)
def cosPW (z : Nat) : Nat := (fun zz => fadd (fsub wOne (fmul wHalf zz)) (fmul (fmul zz zz) (fadd (fmul (fadd (fmul (fadd (fmul (fadd (fmul (fadd (fmul cC0 zz) cC1) zz) cC2) zz) cC3) zz) cC4) zz) cC5))) (fmul z z)
theorem sinPW_of {z y : Nat} (h : SinP z y) : sinPW z = y := by
  obtain ⟨zz, m1, h1, m2, h2, m3, h3, m4, h4, m5, h5, t, p, k1, e1, f1, e2, f2, e3, f3, e4, f4, e5, f5, g1, i1, j1⟩ := h
  unfold sinPW
  simp only [fmul_of k1, fmul_of e1, fadd_of f1, fmul_of e2, fadd_of f2, fmul_of e3, fadd_of f3, fmul_of e4, fadd_of f4, fmul_of e5, fadd_of f5, fmul_of g1, fmul_of i1, fadd_of j1]
theorem cosPW_of {z y : Nat} (h : CosP z y) : cosPW z = y := by
  obtain ⟨zz, m1, h1, m2, h2, m3, h3, m4, h4, m5, h5, v, w, t, p, k1, e1, f1, e2, f2, e3, f3, e4, f4, e5, f5, v1, w1, g1, i1, j1⟩ := h
  unfold cosPW
  simp only [fmul_of k1, fmul_of e1, fadd_of f1, fmul_of e2, fadd_of f2, fmul_of e3, fadd_of f3, fmul_of e4, fadd_of f4, fmul_of e5, fadd_of f5, fmul_of v1, fsub_of w1, fmul_of g1, fmul_of i1, fadd_of j1]
def RedP (x yk z : Nat) : Prop := ∃ a1 b1 a2 b2 a3, double.mul yk wPA = some a1 ∧ double.sub x a1 = some b1 ∧ double.mul yk wPB = some a2 ∧ double.sub b1 a2 = some b2 ∧ double.mul yk wPC = some a3 ∧ double.sub b2 a3 = some z
def redW (x yk : Nat) : Nat := fsub (fsub (fsub x (fmul yk wPA)) (fmul yk wPB)) (fmul yk wPC)
theorem redW_of {x yk z : Nat} (h : RedP x yk z) : redW x yk = z := by
  obtain ⟨a1, b1, a2, b2, a3, e1, f1, e2, f2, e3, f3⟩ := h
  unfold redW
  simp only [fmul_of e1, fsub_of f1, fmul_of e2, fsub_of f2, fmul_of e3, fsub_of f3]
def wC4 : Nat := 4608412980311869571
/-- The words of 0, 2, 4, 6, 8, by halves. -/
def evW : Nat → Nat
  | 0 => 0
  | 1 => 4611686018427387904
  | 2 => 4616189618054758400
  | 3 => 4618441417868443648
  | _ => 4620693217682128896
def pick4 (h a b c d : Nat) : Nat := match h with | 1 => b | 2 => c | 3 => d | _ => a
def sinW (x : Nat) : Nat :=
  if x = 0 then 0 else
  (fun h => (fun z => pick4 h (sinPW z) (cosPW z) (fneg (sinPW z)) (fneg (cosPW z))) (redW x (evW h))) (((fcut (fmul x wC4)).toNat + 1) / 2)
theorem xor63 (x : Nat) : (x ^^^ 9223372036854775808) % 9223372036854775808 = x % 9223372036854775808 ∧ (x ^^^ 9223372036854775808) / 9223372036854775808 % 2 = 1 - x / 9223372036854775808 % 2 := by
  have e : (9223372036854775808 : Nat) = 2 ^ 63 := by decide
  rw [e]
  constructor
  · rw [Nat.xor_mod_two_pow]; simp
  · rw [Nat.xor_div_two_pow]
    have h := Nat.xor_mod_two_pow (a := x / 2 ^ 63) (b := 1) (n := 1)
    simp at h
    rw [Nat.div_self (Nat.two_pow_pos 63), h]
    rcases (show x / 2 ^ 63 % 2 = 0 ∨ x / 2 ^ 63 % 2 = 1 by omega) with q | q <;> rw [q] <;> decide
theorem fneg_reads {x m : Nat} {s : Bool} {p : Int} (h : Reads x s m p) : Reads (fneg x) (!s) m p := by
  obtain ⟨h1, h2⟩ := xor63 x
  have hw : double.signWeight = 9223372036854775808 := by decide +kernel
  unfold Reads Format.read at h ⊢
  unfold fneg
  rw [hw] at h ⊢
  dsimp only at h ⊢
  rw [h1, h2]
  have hb : ((1 - x / 9223372036854775808 % 2) == 1) = !(x / 9223372036854775808 % 2 == 1) := by
    rcases (show x / 9223372036854775808 % 2 = 0 ∨ x / 9223372036854775808 % 2 = 1 by omega) with q | q <;> rw [q] <;> rfl
  rw [hb]
  generalize (x / 9223372036854775808 % 2 == 1) = t at *
  split at h
  · simp only [Datum.number.injEq] at h; obtain ⟨rfl, rfl, rfl⟩ := h; rename_i g; rw [if_pos g]
  · rename_i g
    rw [if_neg g]
    split at h
    · simp only [Datum.number.injEq] at h; obtain ⟨rfl, rfl, rfl⟩ := h; rename_i g2; rw [if_pos g2]
    · rename_i g2
      split at h <;> cases h
theorem fneg_ap {w : Nat} {X e : Rat} (h : Ap w X e) : Ap (fneg w) (-X) e := by
  obtain ⟨s, m, p, g1, g2, g3⟩ := h
  have e1 := rv_neg s m p
  exact ⟨!s, m, p, fneg_reads g1, by rw [e1]; grind, by rw [e1]; grind⟩
theorem reads_pos {x : Nat} {X : Rat} (h : Num x X) (h0 : 0 < X) (hx : x < 18446744073709551616) : x < 9223372036854775808 := by
  obtain ⟨s, m, p, h1, h2⟩ := h
  have hs : s = false := by
    cases s
    · rfl
    · have := mp_nonneg m p
      unfold rv at h2
      simp at h2
      grind
  subst hs
  have hw : double.signWeight = 9223372036854775808 := by decide +kernel
  have hq : (x / 9223372036854775808 % 2 == 1) = false := by
    unfold Reads Format.read at h1
    rw [hw] at h1
    dsimp only at h1
    generalize (x / 9223372036854775808 % 2 == 1) = t at *
    split at h1
    · simp only [Datum.number.injEq] at h1; exact h1.1
    · split at h1
      · simp only [Datum.number.injEq] at h1; exact h1.1
      · split at h1 <;> cases h1
  simp at hq
  omega
theorem ev_num : Num (evW 0) (((0 : Nat) : Rat)) ∧ Num (evW 1) ((2 : Nat) : Rat) ∧ Num (evW 2) ((4 : Nat) : Rat) ∧ Num (evW 3) ((6 : Nat) : Rat) ∧ Num (evW 4) ((8 : Nat) : Rat) := by
  have e0 : cv (evW 0) = ((0 : Nat) : Rat) := by decide +kernel
  have e1 : cv (evW 1) = ((2 : Nat) : Rat) := by decide +kernel
  have e2 : cv (evW 2) = ((4 : Nat) : Rat) := by decide +kernel
  have e3 : cv (evW 3) = ((6 : Nat) : Rat) := by decide +kernel
  have e4 : cv (evW 4) = ((8 : Nat) : Rat) := by decide +kernel
  rw [← e0, ← e1, ← e2, ← e3, ← e4]
  exact ⟨cv_num (by decide +kernel), cv_num (by decide +kernel), cv_num (by decide +kernel), cv_num (by decide +kernel), cv_num (by decide +kernel)⟩
theorem ev_at (h : Nat) (hh : h ≤ 4) : Num (evW h) ((2 * h : Nat) : Rat) := by
  obtain ⟨a, b, c, d, e⟩ := ev_num
  rcases (show h = 0 ∨ h = 1 ∨ h = 2 ∨ h = 3 ∨ h = 4 by omega) with rfl | rfl | rfl | rfl | rfl <;> assumption
theorem S_small {X : Rat} (h1 : X ≤ 8 / 1000000000000000) (h2 : -(8 / 1000000000000000) ≤ X) : S X ≤ 9 / 1000000000000000 ∧ -(9 / 1000000000000000) ≤ S X := by
  have h := pv_bd (R := 8 / 1000000000000000) (x := X) (rabs_le.2 ⟨h1, h2⟩) sT
  have e : pbd sT (8 / 1000000000000000) ≤ 9 / 1000000000000000 := by decide +kernel
  exact rabs_le.1 (show rabs (pv sT X) ≤ _ by grind)
/-- What math.sin runs through at a number from 0 to 7, and how near it comes. -/
theorem sin_run {x : Nat} {X Y e : Rat} (hn : Num x Y) (y0 : 0 < Y) (hx : Ap x X e) (x0 : 0 ≤ X) (x7 : X ≤ 7) (he : e ≤ 7 / 1000000000000000) :
    ∃ t j h z ys yc, double.mul x wC4 = some t ∧ (double.read t).toInt .zero = some ((j : Nat) : Int) ∧ (h : Nat) = (j + 1) / 2 ∧ h ≤ 4 ∧ RedP x (evW h) z ∧ SinP z ys ∧ CosP z yc ∧
      sinW x = pick4 h ys yc (fneg ys) (fneg yc) ∧ Ap (sinW x) (S X) (25 / 1000000000000000) := by
  have e0 := hx.pos
  have p4 : p2 ((4 : Nat) : Int) = 16 := by decide +kernel
  have n4 : p2 (((4 : Nat) : Int) - 53) ≤ 2 / 1000000000000000 := by decide +kernel
  have hc := cv_ap (show isNum wC4 = true by decide +kernel)
  have cb : cv wC4 ≤ 13/10 ∧ -(13/10) ≤ cv wC4 := by decide +kernel
  have cq : cv wC4 * (piQ / 4) ≤ 1 + 1 / 1000000000000000 ∧ 1 ≤ cv wC4 * (piQ / 4) + 1 / 1000000000000000 := by decide +kernel
  have c0 : (0 : Rat) < cv wC4 := by decide +kernel
  have c1 : 1 ≤ cv wC4 := by decide +kernel
  have pq : piQ / 4 ≤ 7854 / 10000 ∧ 7853 / 10000 ≤ piQ / 4 := by decide +kernel
  have tb : X * cv wC4 ≤ 91/10 ∧ 0 ≤ X * cv wC4 := by
    have m1 := Rat.mul_nonneg x0 (Rat.le_of_lt c0)
    have m2 := Rat.mul_le_mul_of_nonneg_right x7 (Rat.le_of_lt c0)
    constructor <;> grind
  obtain ⟨t, t1, t2⟩ := mul_ap 7 (13/10) 4 (by omega) hx hc x7 (by grind) cb.1 cb.2 (by rw [p4]; grind)
  have t3 := t2.mono (e' := 12 / 1000000000000000) (by grind)
  obtain ⟨T, n1, n2, n3⟩ := t3.num
  obtain ⟨j, j1, j2, j3⟩ := toInt_cut n1 (by grind)
  have hxk : sinW x = (fun h => (fun z => pick4 h (sinPW z) (cosPW z) (fneg (sinPW z)) (fneg (cosPW z))) (redW x (evW h))) ((j + 1) / 2) := by
    unfold sinW
    rw [if_neg, fmul_of t1, fcut_of j1]
    · rfl
    · intro h0
      subst h0
      have := hn.uniq num_zero
      grind
  have j9 : j ≤ 9 := by
    rcases j2 with q | q
    · have : (j : Rat) < ((10 : Nat) : Rat) := by
        have c : ((10 : Nat) : Rat) = 10 := rfl
        rw [c]; grind
      have : j < 10 := by exact_mod_cast this
      omega
    · omega
  have hj0 : (0 : Rat) ≤ (j : Rat) := by exact_mod_cast Nat.zero_le j
  have jlo : (j : Rat) * (piQ / 4) ≤ X + 2 / 100000000000000 := by
    have a1 : (j : Rat) ≤ X * cv wC4 + 12 / 1000000000000000 := by
      rcases j2 with q | q
      · grind
      · subst q
        have c : ((0 : Nat) : Rat) = 0 := rfl
        rw [c]; grind
    have a2 := Rat.mul_le_mul_of_nonneg_right a1 (show (0 : Rat) ≤ piQ / 4 by grind)
    have a3 := Rat.mul_le_mul_of_nonneg_left cq.1 x0
    grind
  have jhi : X ≤ ((j : Rat) + 1) * (piQ / 4) + 2 / 100000000000000 := by
    have a1 : X * cv wC4 ≤ (j : Rat) + 1 + 12 / 1000000000000000 := by grind
    have a2 := Rat.mul_le_mul_of_nonneg_right a1 (show (0 : Rat) ≤ piQ / 4 by grind)
    have a3 := Rat.mul_le_mul_of_nonneg_left cq.2 x0
    grind
  have j8 : j ≤ 8 := by
    rcases (show j = 9 ∨ j ≤ 8 by omega) with q | q
    · subst q
      have c : ((9 : Nat) : Rat) = 9 := rfl
      rw [c] at jlo
      grind
    · exact q
  obtain ⟨h, hh⟩ : ∃ h, h = (j + 1) / 2 := ⟨_, rfl⟩
  rw [← hh] at hxk
  have h4 : h ≤ 4 := by omega
  have hk := ev_at h h4
  have kb : ((2 * h : Nat) : Rat) ≤ 8 := by
    have : ((2 * h : Nat) : Rat) ≤ ((8 : Nat) : Rat) := cast_le (by omega)
    exact this
  have k0 : 0 ≤ ((2 * h : Nat) : Rat) := by exact_mod_cast Nat.zero_le _
  obtain ⟨a1, b1, a2, b2, a3, z, r1, r2, r3, r4, r5, r6, r7⟩ := reduce (k := ((2 * h : Nat) : Rat)) hx hk.ap k0 kb x0 x7 he
  have hrp : RedP x (evW h) z := ⟨a1, b1, a2, b2, a3, r1, r2, r3, r4, r5, r6⟩
  have zb : rabs (X - ((2 * h : Nat) : Rat) * (piQ / 4)) ≤ 393/500 := by
    rw [rabs_le]
    rcases (show 2 * h = j ∨ 2 * h = j + 1 by omega) with q | q
    · rw [q]; constructor <;> grind
    · rw [q]
      have c : ((j + 1 : Nat) : Rat) = (j : Rat) + 1 := by push_cast; rfl
      rw [c]; constructor <;> grind
  obtain ⟨zb1, zb2⟩ := rabs_le.1 zb
  obtain ⟨ys, s1, s2⟩ := sin_poly r7 zb1 zb2 (by grind)
  obtain ⟨yc, u1, u2⟩ := cos_poly r7 zb1 zb2 (by grind)
  have ws := ap_sin zb s2
  have wc := ap_cos zb u2
  have hsw : sinW x = pick4 h ys yc (fneg ys) (fneg yc) := by
    rw [hxk]
    simp only [redW_of hrp, sinPW_of s1, cosPW_of u1]
  refine ⟨t, j, h, z, ys, yc, t1, j1, hh, h4, hrp, s1, u1, hsw, ?_⟩
  rw [hsw]
  clear hsw hxk hrp s1 u1 s2 u2 r1 r2 r3 r4 r5 r6 r7
  obtain ⟨⟨q11, q12⟩, ⟨q21, q22⟩, ⟨q31, q32⟩, q41, q42⟩ := quart zb
  obtain ⟨⟨sb1, sb2⟩, cb1, cb2⟩ := sin_cos_le (y := X - ((2 * h : Nat) : Rat) * (piQ / 4)) (by grind)
  have p1 : p2 ((1 : Nat) : Int) = 2 := by decide +kernel
  have n1 : p2 (((1 : Nat) : Int) - 53) ≤ 1 / 1000000000000000 := by decide +kernel
  have t18 : (1 : Rat) / 10 ^ 18 ≤ 1 / 1000000000000000 := by decide +kernel
  generalize (1 : Rat) / 10 ^ 18 = d18 at *
  generalize hZ : X - ((2 * h : Nat) : Rat) * (piQ / 4) = Z at *
  have hXZ : X = Z + ((2 * h : Nat) : Rat) * (piQ / 4) := by grind
  rcases (show h = 0 ∨ h = 1 ∨ h = 2 ∨ h = 3 ∨ h = 4 by omega) with rfl | rfl | rfl | rfl | rfl
  · have c : ((2 * 0 : Nat) : Rat) = 0 := rfl
    have : X = Z := by rw [hXZ, c]; grind
    rw [this]
    exact ws.mono (by grind)
  · have c : ((2 * 1 : Nat) : Rat) = 2 := rfl
    have : X = Z + piQ / 2 := by rw [hXZ, c]; grind
    rw [this]
    exact (wc.move (Y := S (Z + piQ / 2)) (d := d18) q12 q11).mono (by grind)
  · have c : ((2 * 2 : Nat) : Rat) = 4 := rfl
    have : X = Z + piQ := by rw [hXZ, c]; grind
    rw [this]
    have g := fneg_ap ws
    exact (g.move (Y := S (Z + piQ)) (d := d18) q22 q21).mono (by grind)
  · have c : ((2 * 3 : Nat) : Rat) = 6 := rfl
    have : X = Z + 3 * piQ / 2 := by rw [hXZ, c]; grind
    rw [this]
    have g := fneg_ap wc
    exact (g.move (Y := S (Z + 3 * piQ / 2)) (d := d18) q32 q31).mono (by grind)
  · have c : ((2 * 4 : Nat) : Rat) = 8 := rfl
    have : X = Z + 2 * piQ := by rw [hXZ, c]; grind
    rw [this]
    exact (ws.move (Y := S (Z + 2 * piQ)) (d := d18) q42 q41).mono (by grind)
theorem sinW_zero {X e : Rat} (hx : Ap 0 X e) (he : e ≤ 7 / 1000000000000000) : Ap (sinW 0) (S X) (25 / 1000000000000000) := by
  have e0 : sinW 0 = 0 := rfl
  rw [e0]
  obtain ⟨Y, n1, n2, n3⟩ := hx.num
  have := n1.uniq num_zero
  subst this
  obtain ⟨a, b⟩ := S_small (X := X) (by grind) (by grind)
  obtain ⟨s, m, p, h1, h2⟩ := num_zero
  exact ⟨s, m, p, h1, by grind, by grind⟩
end
section
def U60 : Int := 1152921504606846976
/-- The product of two fine numbers. -/
def fm (a b : Int) : Int := (a * b).tdiv U60
def scStep (p : Int × Int) : Int × Int := (2 * fm p.1 (U60 - p.2), 2 * fm p.1 p.1)
def scIter : Nat → Int × Int → Int × Int
  | 0, p => p
  | k + 1, p => scIter k (scStep p)
def scStart (x : Int) : Int × Int := (x - (fm x (fm x x)).tdiv 6 + (fm (fm x (fm x x)) (fm x x)).tdiv 120, (fm x x).tdiv 2 - (fm (fm x x) (fm x x)).tdiv 24)
def scX (arg : Int) : Int := (arg * 7244 + (arg / 1000000 * 19458077) / 1000) / 4096
/-- What SinCos answers for an argument from 0 to a turn. -/
def sc (arg : Int) : Int × Int := ((scIter 12 (scStart (scX arg))).1, U60 - (scIter 12 (scStart (scX arg))).2)
def uQ : Rat := 1152921504606846976
theorem uQ_eq : ((U60 : Int) : Rat) = uQ := rfl
theorem tdiv_near (n d : Int) (hd : 0 < d) : ((n.tdiv d : Int) : Rat) * (d : Rat) ≤ (n : Rat) + (d : Rat) ∧ (n : Rat) ≤ ((n.tdiv d : Int) : Rat) * (d : Rat) + (d : Rat) := by
  have e := Int.tmod_add_tdiv_mul n d
  have h1 := Int.tmod_lt_of_pos n hd
  have h2 := Int.lt_tmod_of_pos n hd
  have a1 : n.tdiv d * d ≤ n + d := by omega
  have a2 : n ≤ n.tdiv d * d + d := by omega
  have b1 : ((n.tdiv d * d : Int) : Rat) ≤ ((n + d : Int) : Rat) := by exact_mod_cast a1
  have b2 : ((n : Int) : Rat) ≤ ((n.tdiv d * d + d : Int) : Rat) := by exact_mod_cast a2
  push_cast at b1 b2
  exact ⟨b1, b2⟩
/-- A product is right up to a unit. -/
theorem fm_near (a b : Int) : (fm a b : Rat) * uQ ≤ (a : Rat) * b + uQ ∧ (a : Rat) * b ≤ (fm a b : Rat) * uQ + uQ := by
  have h := tdiv_near (a * b) U60 (by decide)
  rw [uQ_eq] at h
  push_cast at h
  exact h
/-- Near: a whole number of units and a number. -/
def Nr (n : Int) (X e : Rat) : Prop := (n : Rat) ≤ uQ * X + e ∧ uQ * X ≤ (n : Rat) + e
theorem Nr.mono {n : Int} {X e e' : Rat} (h : Nr n X e) (he : e ≤ e') : Nr n X e' := ⟨by have := h.1; grind, by have := h.2; grind⟩
theorem Nr.move {n : Int} {X Y e d : Rat} (h : Nr n X e) (h1 : X ≤ Y + d) (h2 : Y ≤ X + d) : Nr n Y (e + uQ * d) := by
  obtain ⟨a, b⟩ := h
  have u : (0 : Rat) ≤ uQ := by decide +kernel
  have c1 := Rat.mul_le_mul_of_nonneg_left h1 u
  have c2 := Rat.mul_le_mul_of_nonneg_left h2 u
  constructor <;> grind
theorem bil {u v c d : Rat} (u1 : -c ≤ u) (u2 : u ≤ c) (v1 : -d ≤ v) (v2 : v ≤ d) : u * v ≤ c * d ∧ -(c * d) ≤ u * v := by
  have p1 := Rat.mul_nonneg (show 0 ≤ c - u by grind) (show 0 ≤ d + v by grind)
  have p2 := Rat.mul_nonneg (show 0 ≤ c + u by grind) (show 0 ≤ d - v by grind)
  have p3 := Rat.mul_nonneg (show 0 ≤ c - u by grind) (show 0 ≤ d - v by grind)
  have p4 := Rat.mul_nonneg (show 0 ≤ c + u by grind) (show 0 ≤ d + v by grind)
  constructor <;> grind
theorem fm_nr {a b : Int} {X Y p q A B : Rat} (ha : Nr a X p) (hb : Nr b Y q) (a1 : -A ≤ X) (a2 : X ≤ A) (b1 : -B ≤ Y) (b2 : Y ≤ B) : Nr (fm a b) (X * Y) (A * q + B * p + p * q / uQ + 1) := by
  obtain ⟨h1, h2⟩ := ha
  obtain ⟨g1, g2⟩ := hb
  obtain ⟨f1, f2⟩ := fm_near a b
  have u : (0 : Rat) < uQ := by decide +kernel
  have k1 := bil (u := X) (v := (b : Rat) - uQ * Y) (c := A) (d := q) a1 a2 (by grind) (by grind)
  have k2 := bil (u := (a : Rat) - uQ * X) (v := Y) (c := p) (d := B) (by grind) (by grind) b1 b2
  have k3 := bil (u := (a : Rat) - uQ * X) (v := (b : Rat) - uQ * Y) (c := p) (d := q) (by grind) (by grind) (by grind) (by grind)
  have e : (a : Rat) * b = uQ * (uQ * (X * Y) + X * ((b : Rat) - uQ * Y) + ((a : Rat) - uQ * X) * Y) + ((a : Rat) - uQ * X) * ((b : Rat) - uQ * Y) := by grind
  have e2 : p * q = uQ * (p * q / uQ) := by
    rw [Rat.div_def]
    have := Rat.mul_inv_cancel uQ (by grind)
    grind
  have cancel : ∀ {s t : Rat}, s * uQ ≤ t * uQ → s ≤ t := fun h => Rat.le_of_mul_le_mul_right h u
  constructor
  · refine cancel ?_
    have m1 := Rat.mul_le_mul_of_nonneg_left k1.1 (Rat.le_of_lt u)
    have m2 := Rat.mul_le_mul_of_nonneg_left k2.1 (Rat.le_of_lt u)
    grind
  · refine cancel ?_
    have m1 := Rat.mul_le_mul_of_nonneg_left k1.2 (Rat.le_of_lt u)
    have m2 := Rat.mul_le_mul_of_nonneg_left k2.2 (Rat.le_of_lt u)
    grind
theorem Nr.two {n : Int} {X e : Rat} (h : Nr n X e) : Nr (2 * n) (2 * X) (2 * e) := by
  obtain ⟨a, b⟩ := h
  unfold Nr
  push_cast
  constructor <;> grind
theorem Nr.co {n : Int} {X e : Rat} (h : Nr n X e) : Nr (U60 - n) (1 - X) e := by
  obtain ⟨a, b⟩ := h
  unfold Nr
  push_cast
  rw [uQ_eq]
  constructor <;> grind
theorem Nr.pos {n : Int} {X e : Rat} (h : Nr n X e) : 0 ≤ e := by obtain ⟨a, b⟩ := h; grind
/-- How the errors grow in one doubling. -/
def sg (R : Rat) : Rat := if pbd sT R ≤ 1 then pbd sT R else 1 + 1 / 10 ^ 18
def erS (R : Rat) (p : Rat × Rat) : Rat × Rat := (2 * (sg R * p.2 + (1 + 1 / 10 ^ 18) * p.1 + p.1 * p.2 / uQ + 1) + uQ * (1 / 10 ^ 18), 2 * (sg R * p.1 + sg R * p.1 + p.1 * p.1 / uQ + 1) + uQ * (1 / 10 ^ 18))
theorem sg_le {R y : Rat} (hy : rabs y ≤ R) (hR : R ≤ 16/5) : -sg R ≤ S y ∧ S y ≤ sg R := by
  unfold sg
  split
  · obtain ⟨a, b⟩ := rabs_le.1 (pv_bd hy sT)
    exact ⟨b, a⟩
  · have := (sin_cos_le (y := y) (by grind)).1
    exact ⟨this.2, this.1⟩
theorem step_nr {p : Int × Int} {y R : Rat} {q : Rat × Rat} (hy : rabs y ≤ R) (hR : R ≤ 16/5) (h1 : Nr p.1 (S y) q.1) (h2 : Nr p.2 (1 - C y) q.2) :
    Nr (scStep p).1 (S (2 * y)) (erS R q).1 ∧ Nr (scStep p).2 (1 - C (2 * y)) (erS R q).2 := by
  obtain ⟨s1, s2⟩ := sg_le hy hR
  have hy' : rabs y ≤ 16/5 := by grind
  obtain ⟨c1, c2⟩ := (sin_cos_le hy').2
  obtain ⟨d1, d2⟩ := sin_double hy'
  obtain ⟨e1, e2⟩ := cos_double hy'
  have h3 := h2.co
  have e3 : 1 - (1 - C y) = C y := by grind
  rw [e3] at h3
  have f1 := (fm_nr h1 h3 s1 s2 c2 c1).two
  have f2 := (fm_nr h1 h1 s1 s2 s1 s2).two
  constructor
  · refine (f1.move (Y := S (2 * y)) (d := 1 / 10 ^ 18) ?_ ?_).mono ?_
    · grind
    · grind
    · unfold erS; grind
  · refine (f2.move (Y := 1 - C (2 * y)) (d := 1 / 10 ^ 18) ?_ ?_).mono ?_
    · grind
    · grind
    · unfold erS; grind
def erIt : Nat → Rat → Rat × Rat → Rat × Rat
  | 0, _, q => q
  | k + 1, R, q => erIt k (2 * R) (erS R q)
def okR : Nat → Rat → Bool
  | 0, _ => true
  | k + 1, R => decide (R ≤ 16/5) && okR k (2 * R)
def dbl : Nat → Rat → Rat
  | 0, y => y
  | k + 1, y => dbl k (2 * y)
theorem iter_nr : ∀ (k : Nat) (p : Int × Int) (y R : Rat) (q : Rat × Rat), okR k R = true → rabs y ≤ R → Nr p.1 (S y) q.1 → Nr p.2 (1 - C y) q.2 →
    Nr (scIter k p).1 (S (dbl k y)) (erIt k R q).1 ∧ Nr (scIter k p).2 (1 - C (dbl k y)) (erIt k R q).2
  | 0, _, _, _, _, _, _, h1, h2 => ⟨h1, h2⟩
  | k + 1, p, y, R, q, ho, hy, h1, h2 => by
    unfold okR at ho
    simp at ho
    obtain ⟨g1, g2⟩ := step_nr hy ho.1 h1 h2
    refine iter_nr k (scStep p) (2 * y) (2 * R) (erS R q) ho.2 ?_ g1 g2
    rw [rabs_mul]
    have : rabs 2 = 2 := by decide +kernel
    rw [this]
    grind
theorem er12 : (erIt 12 (63 / 40960) (48, 8)).1 ≤ 3000000 ∧ (erIt 12 (63 / 40960) (48, 8)).2 ≤ 3000000 := by decide +kernel
end
section
/-- The angle of an argument. -/
def ang (arg : Int) : Rat := 2 * piQ * (arg : Rat) / 10 ^ 15
theorem dbl_eq : ∀ (k : Nat) (y : Rat), dbl k y = ((2 ^ k : Nat) : Rat) * y
  | 0, y => by
    have e : ((2 ^ 0 : Nat) : Rat) = 1 := by decide +kernel
    rw [e]
    show y = 1 * y
    grind
  | k + 1, y => by
    show dbl k (2 * y) = _
    rw [dbl_eq k, Nat.pow_succ]
    push_cast
    grind
theorem dbl12 (y : Rat) : dbl 12 y = 4096 * y := by
  have e : ((2 ^ 12 : Nat) : Rat) = 4096 := by decide +kernel
  rw [dbl_eq, e]
theorem ediv_near (n d : Int) (hd : 0 < d) : ((n / d : Int) : Rat) * (d : Rat) ≤ (n : Rat) ∧ (n : Rat) ≤ ((n / d : Int) : Rat) * (d : Rat) + (d : Rat) := by
  have e := Int.emod_add_mul_ediv n d
  have h1 := Int.emod_lt_of_pos n hd
  have h2 := Int.emod_nonneg n (show d ≠ 0 by omega)
  have e' : n / d * d = d * (n / d) := Int.mul_comm _ _
  have a1 : n / d * d ≤ n := by omega
  have a2 : n ≤ n / d * d + d := by omega
  have b1 : ((n / d * d : Int) : Rat) ≤ ((n : Int) : Rat) := by exact_mod_cast a1
  have b2 : ((n : Int) : Rat) ≤ ((n / d * d + d : Int) : Rat) := by exact_mod_cast a2
  push_cast at b1 b2
  exact ⟨b1, b2⟩
theorem scX_near {arg : Int} (h0 : 0 ≤ arg) (h1 : arg ≤ 1000000000000000) : Nr (scX arg) (ang arg / 4096) 40 := by
  obtain ⟨a1, a2⟩ := ediv_near arg 1000000 (by omega)
  obtain ⟨b1, b2⟩ := ediv_near (arg / 1000000 * 19458077) 1000 (by omega)
  obtain ⟨c1, c2⟩ := ediv_near (arg * 7244 + (arg / 1000000 * 19458077) / 1000) 4096 (by omega)
  have r0 : (0 : Rat) ≤ (arg : Rat) := by exact_mod_cast h0
  have r1 : (arg : Rat) ≤ ((1000000000000000 : Int) : Rat) := Rat.intCast_le_intCast.2 h1
  have r2 : ((1000000000000000 : Int) : Rat) = 1000000000000000 := rfl
  rw [r2] at r1
  push_cast at a1 a2 b1 b2 c1 c2
  unfold Nr ang scX
  have k : uQ * (2 * piQ * (arg : Rat) / 10 ^ 15 / 4096) = (arg : Rat) * (uQ * 2 * piQ / 10 ^ 15 / 4096) := by
    simp only [Rat.div_def]; grind
  rw [k]
  have kk : uQ * 2 * piQ / 10 ^ 15 / 4096 ≤ 724401945807713 / 409600000000000 ∧ 724401945807700 / 409600000000000 ≤ uQ * 2 * piQ / 10 ^ 15 / 4096 := by decide +kernel
  have m1 := Rat.mul_le_mul_of_nonneg_left kk.1 r0
  have m2 := Rat.mul_le_mul_of_nonneg_left kk.2 r0
  generalize uQ * 2 * piQ / 10 ^ 15 / 4096 = kap at *
  generalize (arg : Rat) * kap = z at *
  push_cast
  constructor <;> grind
theorem tdiv_nr {n d : Int} {X e : Rat} (hd : 0 < d) (h : Nr n X e) : Nr (n.tdiv d) (X / (d : Rat)) (e / (d : Rat) + 1) := by
  obtain ⟨a, b⟩ := h
  obtain ⟨c1, c2⟩ := tdiv_near n d hd
  have dp : (0 : Rat) < (d : Rat) := by exact_mod_cast hd
  have i := Rat.mul_inv_cancel (d : Rat) (by grind)
  unfold Nr
  generalize n.tdiv d = k at *
  generalize (d : Rat) = D at *
  generalize (n : Rat) = N at *
  generalize (k : Rat) = K at *
  have cancel : ∀ {s t : Rat}, s * D ≤ t * D → s ≤ t := fun h => Rat.le_of_mul_le_mul_right h dp
  rw [Rat.div_def, Rat.div_def]
  generalize D⁻¹ = I at *
  constructor
  · refine cancel ?_
    have e1 : (uQ * (X * I) + (e * I + 1)) * D = uQ * X + e + D := by grind
    rw [e1]; grind
  · refine cancel ?_
    have e1 : uQ * (X * I) * D = uQ * X := by grind
    have e2 : (K + (e * I + 1)) * D = K * D + e + D := by grind
    rw [e1, e2]; grind
/-- The first terms are near Taylor's polynomials where the angle is small. -/
theorem start_sin : pbd (padd sT (pscale (-1) [0, 1, 0, -1/6, 0, 1/120])) (63 / 40960) ≤ 1 / 10 ^ 18 := by decide +kernel
theorem start_cos : pbd (padd (padd [1] (pscale (-1) cT)) (pscale (-1) [0, 0, 1/2, 0, -1/24])) (63 / 40960) ≤ 1 / 10 ^ 18 := by decide +kernel
theorem start_near {x : Int} {y : Rat} (hy : rabs y ≤ 63 / 40960) (h : Nr x y 40) : Nr (scStart x).1 (S y) 48 ∧ Nr (scStart x).2 (1 - C y) 8 := by
  obtain ⟨y1, y2⟩ := rabs_le.1 hy
  have n1 := fm_nr h h y2 y1 y2 y1
  have b2 := bil y2 y1 y2 y1
  have q1 : Nr (fm x x) (y * y) 2 := n1.mono (by decide +kernel)
  have n2 := fm_nr (A := 63 / 40960) (B := 1 / 100000) h q1 y2 y1 (by grind) (by grind)
  have q2 : Nr (fm x (fm x x)) (y * (y * y)) 2 := n2.mono (by decide +kernel)
  have b3 := bil (u := y) (v := y * y) (c := 63 / 40960) (d := 1 / 100000) y2 y1 (by grind) (by grind)
  have n3 := fm_nr (A := 1 / 100000) (B := 1 / 100000) q2 q1 (by grind) (by grind) (by grind) (by grind)
  have q3 : Nr (fm (fm x (fm x x)) (fm x x)) (y * (y * y) * (y * y)) 2 := n3.mono (by decide +kernel)
  have n4 := fm_nr (A := 1 / 100000) (B := 1 / 100000) q1 q1 (by grind) (by grind) (by grind) (by grind)
  have q4 : Nr (fm (fm x x) (fm x x)) (y * y * (y * y)) 2 := n4.mono (by decide +kernel)
  have t1 := tdiv_nr (d := 6) (by omega) q2
  have t2 := tdiv_nr (d := 120) (by omega) q3
  have t3 := tdiv_nr (d := 2) (by omega) q1
  have t4 := tdiv_nr (d := 24) (by omega) q4
  have p1 := pv_near hy _ _ start_sin
  have p2 := pv_near hy _ _ start_cos
  have e1 : pv [0, 1, 0, -1/6, 0, 1/120] y = y - y * (y * y) / 6 + y * (y * y) * (y * y) / 120 := by unfold pv; simp; grind
  have e2 : pv [0, 0, 1/2, 0, -1/24] y = y * y / 2 - y * y * (y * y) / 24 := by unfold pv; simp; grind
  rw [e1] at p1
  rw [pv_add, pv_scale, e2] at p2
  have e3 : pv [1] y = 1 := by unfold pv; simp; grind
  rw [e3] at p2
  have hu : uQ * (1 / 10 ^ 18) ≤ 2 := by decide +kernel
  have up : (0 : Rat) ≤ uQ := by decide +kernel
  obtain ⟨h1, h2⟩ := h
  obtain ⟨t11, t12⟩ := t1
  obtain ⟨t21, t22⟩ := t2
  obtain ⟨t31, t32⟩ := t3
  obtain ⟨t41, t42⟩ := t4
  have m1 := Rat.mul_le_mul_of_nonneg_left p1.1 up
  have m2 := Rat.mul_le_mul_of_nonneg_left p1.2 up
  have m3 := Rat.mul_le_mul_of_nonneg_left p2.1 up
  have m4 := Rat.mul_le_mul_of_nonneg_left p2.2 up
  have c6 : ((6 : Int) : Rat) = 6 := rfl
  have c120 : ((120 : Int) : Rat) = 120 := rfl
  have c2 : ((2 : Int) : Rat) = 2 := rfl
  have c24 : ((24 : Int) : Rat) = 24 := rfl
  rw [c6] at t11 t12
  rw [c120] at t21 t22
  rw [c2] at t31 t32
  rw [c24] at t41 t42
  unfold S C
  clear n1 n2 n3 n4 q1 q2 q3 q4 b2 b3 hy
  unfold Nr scStart
  push_cast
  generalize (fm x (fm x x)).tdiv 6 = k1 at *
  generalize (fm (fm x (fm x x)) (fm x x)).tdiv 120 = k2 at *
  generalize (fm x x).tdiv 2 = k3 at *
  generalize (fm (fm x x) (fm x x)).tdiv 24 = k4 at *
  generalize y * (y * y) / 6 = z1 at *
  generalize y * (y * y) * (y * y) / 120 = z2 at *
  generalize y * y / 2 = z3 at *
  generalize y * y * (y * y) / 24 = z4 at *
  generalize pv sT y = s0 at *
  generalize pv cT y = c0 at *
  generalize uQ = u at *
  generalize (x : Rat) = xr at *
  generalize (k1 : Rat) = r1 at *
  generalize (k2 : Rat) = r2 at *
  generalize (k3 : Rat) = r3 at *
  generalize (k4 : Rat) = r4 at *
  have w1 : u * (y - z1 + z2 + 1 / 10 ^ 18) = u * y - u * z1 + u * z2 + u * (1 / 10 ^ 18) := by grind
  have w2 : u * (s0 + 1 / 10 ^ 18) = u * s0 + u * (1 / 10 ^ 18) := by grind
  have w3 : u * (z3 - z4 + 1 / 10 ^ 18) = u * z3 - u * z4 + u * (1 / 10 ^ 18) := by grind
  have w4 : u * (1 + -1 * c0 + 1 / 10 ^ 18) = u * (1 - c0) + u * (1 / 10 ^ 18) := by grind
  have w5 : u * (1 + -1 * c0) = u * (1 - c0) := by grind
  rw [w1] at m1
  rw [w2] at m2
  rw [w3, w5] at m3
  rw [w4] at m4
  have w6 : u * (y - z1 + z2) = u * y - u * z1 + u * z2 := by grind
  have w7 : u * (z3 - z4) = u * z3 - u * z4 := by grind
  rw [w6] at m2
  rw [w7] at m4
  generalize u * (1 / 10 ^ 18) = ue at *
  generalize u * y = uy at *
  generalize u * z1 = uz1 at *
  generalize u * z2 = uz2 at *
  generalize u * z3 = uz3 at *
  generalize u * z4 = uz4 at *
  generalize u * s0 = us at *
  generalize u * (1 - c0) = uc at *
  clear p1 p2 w1 w2 w3 w4 w5 w6 w7 e1 e2 e3
  refine ⟨⟨?_, ?_⟩, ?_, ?_⟩
  all_goals grind
/-- SinCos answers the sine and the cosine of the angle, up to 3 / 10^12. -/
theorem sc_near {arg : Int} (h0 : 0 ≤ arg) (h1 : arg ≤ 1000000000000000) : Nr (sc arg).1 (S (ang arg)) 3000000 ∧ Nr (sc arg).2 (C (ang arg)) 3000000 := by
  have hx := scX_near h0 h1
  have r0 : (0 : Rat) ≤ (arg : Rat) := by exact_mod_cast h0
  have r1 : (arg : Rat) ≤ ((1000000000000000 : Int) : Rat) := Rat.intCast_le_intCast.2 h1
  have r2 : ((1000000000000000 : Int) : Rat) = 1000000000000000 := rfl
  rw [r2] at r1
  have hy : rabs (ang arg / 4096) ≤ 63 / 40960 := by
    have e : ang arg / 4096 = (arg : Rat) * (2 * piQ / 10 ^ 15 / 4096) := by unfold ang; simp only [Rat.div_def]; grind
    have k : 0 ≤ 2 * piQ / 10 ^ 15 / 4096 ∧ 2 * piQ / 10 ^ 15 / 4096 ≤ 63 / 40960 / 1000000000000000 := by decide +kernel
    rw [e, rabs_le]
    generalize 2 * piQ / 10 ^ 15 / 4096 = c at *
    have m1 := Rat.mul_nonneg r0 k.1
    have m2 := Rat.mul_le_mul_of_nonneg_left k.2 r0
    have m3 := Rat.mul_le_mul_of_nonneg_right r1 (show (0 : Rat) ≤ 63 / 40960 / 1000000000000000 by decide +kernel)
    have m4 : (1000000000000000 : Rat) * (63 / 40960 / 1000000000000000) = 63 / 40960 := by decide +kernel
    constructor <;> grind
  obtain ⟨s1, s2⟩ := start_near hy hx
  obtain ⟨i1, i2⟩ := iter_nr 12 _ _ _ (48, 8) (by decide +kernel) hy s1 s2
  have ed : dbl 12 (ang arg / 4096) = ang arg := by rw [dbl12]; simp only [Rat.div_def]; grind
  rw [ed] at i1 i2
  refine ⟨i1.mono er12.1, ?_⟩
  have := (i2.mono er12.2).co
  rw [show 1 - (1 - C (ang arg)) = C (ang arg) by grind] at this
  exact this
end
section
open Ieee
/-- A word that reads as a whole number is cut to it. -/
theorem cut_int {w : Nat} {n : Int} (h : Num w (n : Rat)) : (double.read w).toInt .zero = some n := by
  obtain ⟨s, m, p, h1, h2⟩ := h
  unfold Reads at h1
  rw [h1]
  unfold Datum.toInt Datum.integral
  dsimp only
  rw [cut_is _ _ _ _ (by decide)]
  dsimp only
  have e := shift_rv s m p
  rw [h2] at e
  have hp := Nat.two_pow_pos (-p).toNat
  generalize m <<< p.toNat = N at *
  generalize 2 ^ (-p).toNat = g at *
  have e2 : n * (g : Int) = (if s then -1 else 1) * (N : Int) := by
    have : ((n * (g : Int) : Int) : Rat) = (((if s then -1 else 1) * (N : Int) : Int) : Rat) := by
      push_cast
      rw [e]
      cases s <;> simp
    exact_mod_cast this
  have hN : N = n.natAbs * g := by
    have a := congrArg Int.natAbs e2
    rw [Int.natAbs_mul] at a
    cases s
    · simp at a; omega
    · simp at a; omega
  have hq : N / g = n.natAbs := by rw [hN]; exact Nat.mul_div_cancel _ hp
  rw [hq]
  unfold signed
  congr 1
  cases s
  · simp at e2 ⊢
    have : 0 ≤ n := by
      by_cases q : 0 ≤ n
      · exact q
      · have := Int.mul_neg_of_neg_of_pos (show n < 0 by omega) (show (0 : Int) < g by omega)
        omega
    omega
  · simp at e2 ⊢
    have : n ≤ 0 := by
      by_cases q : n ≤ 0
      · exact q
      · have := Int.mul_pos (show 0 < n by omega) (show (0 : Int) < g by omega)
        omega
    omega
/-- A whole number of at most 53 digits in floating point. -/
theorem fofI_num (n : Int) (h1 : -9007199254740992 < n) (h2 : n < 9007199254740992) : Num (fofI n) (n : Rat) := by
  obtain ⟨m, p, g1, g2⟩ := write_whole (decide (n < 0)) n.natAbs (by omega)
  refine ⟨_, m, p, g1, ?_⟩
  rw [g2, total_rv n 0 (decide (n < 0)) (fun _ => rfl), p2_zero, Rat.mul_one]
theorem fofI_ap (n : Int) (K : Nat) (hK : K ≤ 900) (h1 : (n : Rat) ≤ p2 K) (h2 : -p2 K ≤ (n : Rat)) : Ap (fofI n) (n : Rat) (p2 (K - 53)) := nearest_ap n K hK h1 h2
theorem signed_nat (s : Bool) (k : Nat) (h : k < 2 ^ 53) : -9007199254740992 < signed s k 0 ∧ signed s k 0 < 9007199254740992 ∧ (signed s k 0).natAbs = k := by
  unfold signed
  cases s <;> simp <;> omega
theorem sg_abs (s : Bool) (k : Nat) : rv s k 0 = ((signed s k 0 : Int) : Rat) := by
  unfold rv signed
  rw [p2_zero]
  cases s
  · simp [Rat.intCast_natCast]
  · simp [Rat.intCast_natCast]; grind
theorem small_of {s : Bool} {k : Nat} (h1 : ((signed s k 0 : Int) : Rat) ≤ 9000000000000000) (h2 : -9000000000000000 ≤ ((signed s k 0 : Int) : Rat)) : k < 2 ^ 53 := by
  have a1 : signed s k 0 ≤ 9000000000000000 := Rat.intCast_le_intCast.1 h1
  have a2 : -9000000000000000 ≤ signed s k 0 := Rat.intCast_le_intCast.1 h2
  unfold signed at a1 a2
  cases s <;> simp at a1 a2 <;> omega
/-- Floor and ceiling, and what they are cut to. -/
theorem flr_cut {x : Nat} {X : Rat} (h : Num x X) (b1 : X ≤ 8000000000000000) (b2 : -8000000000000000 ≤ X) : ∃ n : Int, Num (fflr x) (n : Rat) ∧ (double.read (fflr x)).toInt .zero = some n ∧ (n : Rat) ≤ X ∧ X < (n : Rat) + 1 := by
  obtain ⟨s, m, p, h1, h2⟩ := h
  obtain ⟨k, k1, k2, k3⟩ := integral_down s m p
  have hk : k < 2 ^ 53 := small_of (s := s) (by grind) (by grind)
  obtain ⟨m', p', g1, g2⟩ := write_whole s k hk
  rw [sg_abs] at g2
  unfold Reads at h1
  have hn : Num (fflr x) ((signed s k 0 : Int) : Rat) := by
    unfold fflr
    rw [h1, k1]
    exact ⟨s, m', p', g1, g2⟩
  exact ⟨signed s k 0, hn, cut_int hn, by grind, by grind⟩
theorem cei_cut {x : Nat} {X : Rat} (h : Num x X) (b1 : X ≤ 8000000000000000) (b2 : -8000000000000000 ≤ X) : ∃ n : Int, Num (fcei x) (n : Rat) ∧ (double.read (fcei x)).toInt .zero = some n ∧ X ≤ (n : Rat) ∧ (n : Rat) < X + 1 := by
  obtain ⟨s, m, p, h1, h2⟩ := h
  obtain ⟨k, k1, k2, k3⟩ := integral_up s m p
  have hk : k < 2 ^ 53 := small_of (s := s) (by grind) (by grind)
  obtain ⟨m', p', g1, g2⟩ := write_whole s k hk
  rw [sg_abs] at g2
  unfold Reads at h1
  have hn : Num (fcei x) ((signed s k 0 : Int) : Rat) := by
    unfold fcei
    rw [h1, k1]
    exact ⟨s, m', p', g1, g2⟩
  exact ⟨signed s k 0, hn, cut_int hn, by grind, by grind⟩
def wSl : Nat := 4562254508917369340
def wTurn : Nat := 4741671816366391296
def wTwo : Nat := 4611686018427387904
def wPi : Nat := 4614256656552045848
def arLo (v : Nat) : Int := fcut (fflr (fsub v wSl))
def arHi (v : Nat) : Int := fcut (fcei (fadd v wSl))
/-- What trig.Around runs through, and what it answers. -/
theorem around_run {v : Nat} {V e : Rat} (K : Nat) (hK : K ≤ 50) (hv : Ap v V e) (b1 : V + e + 1 ≤ p2 K) (b2 : -p2 K ≤ V - e - 1) :
    ∃ s1 s2 X1 X2, double.sub v wSl = some s1 ∧ double.add v wSl = some s2 ∧ Num s1 X1 ∧ Num s2 X2 ∧ (double.read (fflr s1)).toInt .zero = some (arLo v) ∧ (double.read (fcei s2)).toInt .zero = some (arHi v) ∧
      -4000000000000000 ≤ arLo v ∧ arLo v ≤ 4000000000000000 ∧ -4000000000000000 ≤ arHi v ∧ arHi v ≤ 4000000000000000 ∧
      (arLo v : Rat) ≤ V - 1/1000 + (e + p2 (K - 53) + 1 / 10 ^ 18) ∧ V - 1/1000 - (e + p2 (K - 53) + 1 / 10 ^ 18) < (arLo v : Rat) + 1 ∧
      V + 1/1000 ≤ (arHi v : Rat) + (e + p2 (K - 53) + 1 / 10 ^ 18) ∧ (arHi v : Rat) < V + 1/1000 + (e + p2 (K - 53) + 1 / 10 ^ 18) + 1 := by
  have e0 := hv.pos
  have hs := cv_ap (show isNum wSl = true by decide +kernel)
  have sb : cv wSl ≤ 1/1000 + 1 / 10 ^ 18 ∧ 1/1000 ≤ cv wSl + 1 / 10 ^ 18 := by decide +kernel
  have t18 : (1 : Rat) / 10 ^ 18 ≤ 1 / 1000000000 := by decide +kernel
  have t18' : (0 : Rat) ≤ 1 / 10 ^ 18 := by decide +kernel
  have pK : p2 ((K : Int)) ≤ 1200000000000000 := by
    have h := p2_mono (a := (K : Int)) (b := ((50 : Nat) : Int)) (by omega)
    have h2 : p2 ((50 : Nat) : Int) = 1125899906842624 := by decide +kernel
    grind
  have pu : p2 ((K : Int) - 53) ≤ 1/8 := by
    have h := p2_mono (a := (K : Int) - 53) (b := ((50 : Nat) : Int) - 53) (by omega)
    have h2 : p2 (((50 : Nat) : Int) - 53) = 1/8 := by decide +kernel
    grind
  have pu0 := p2_pos ((K : Int) - 53)
  generalize (1 : Rat) / 10 ^ 18 = d at *
  generalize cv wSl = sl at *
  obtain ⟨s1, q1, q2⟩ := sub_ap K (by omega) hv hs (by grind) (by grind)
  obtain ⟨s2, r1, r2⟩ := add_ap K (by omega) hv hs (by grind) (by grind)
  obtain ⟨X1, n1, n2, n3⟩ := q2.num
  obtain ⟨X2, m1, m2, m3⟩ := r2.num
  obtain ⟨lo, f1, f2, f3, f4⟩ := flr_cut n1 (by grind) (by grind)
  obtain ⟨hi, g1, g2, g3, g4⟩ := cei_cut m1 (by grind) (by grind)
  have hlo : arLo v = lo := by unfold arLo; rw [fsub_of q1, fcut_of f2]
  have hhi : arHi v = hi := by unfold arHi; rw [fadd_of r1, fcut_of g2]
  rw [hlo, hhi]
  have c1 : (lo : Rat) ≤ ((4000000000000000 : Int) : Rat) := by
    have : ((4000000000000000 : Int) : Rat) = 4000000000000000 := rfl
    rw [this]; grind
  have c2 : ((-4000000000000000 : Int) : Rat) ≤ (lo : Rat) := by
    have : ((-4000000000000000 : Int) : Rat) = -4000000000000000 := rfl
    rw [this]; grind
  have c3 : (hi : Rat) ≤ ((4000000000000000 : Int) : Rat) := by
    have : ((4000000000000000 : Int) : Rat) = 4000000000000000 := rfl
    rw [this]; grind
  have c4 : ((-4000000000000000 : Int) : Rat) ≤ (hi : Rat) := by
    have : ((-4000000000000000 : Int) : Rat) = -4000000000000000 := rfl
    rw [this]; grind
  exact ⟨s1, s2, X1, X2, q1, r1, n1, m1, f2, g2, Rat.intCast_le_intCast.1 c2, Rat.intCast_le_intCast.1 c1, Rat.intCast_le_intCast.1 c4, Rat.intCast_le_intCast.1 c3, by grind, by grind, by grind, by grind⟩
/-- What trig.radians runs through at an angle. -/
def RadP (x q3 : Nat) : Prop := ∃ q1 q2, double.div x wTurn = some q1 ∧ double.mul q1 wTwo = some q2 ∧ double.mul q2 wPi = some q3
def radW (x : Nat) : Nat := fmul (fmul (fdiv x wTurn) wTwo) wPi
theorem radW_of {x q : Nat} (h : RadP x q) : radW x = q := by
  obtain ⟨q1, q2, h1, h2, h3⟩ := h
  unfold radW
  rw [fdiv_of h1, fmul_of h2, fmul_of h3]
theorem rad_zero : RadP 0 0 := ⟨0, 0, by decide +kernel, by decide +kernel, by decide +kernel⟩
theorem map_lt {d : Option Datum} {r : Nat} (h : d.map double.write = some r) : ∃ x, d = some x ∧ r = double.write x := by
  cases d with
  | none => cases h
  | some x => exact ⟨x, rfl, by cases h; rfl⟩
/-- Radians of a number of units from 0 to a turn that is known up to a small error. -/
theorem rad_run {x : Nat} {A e : Rat} (hx : Ap x A e) (a0 : 0 ≤ A) (a1 : A ≤ 1000000000) (he : e ≤ 3 / 10000000) :
    ∃ q, RadP x q ∧ Ap q (2 * piQ * A / 1000000000) (7 / 1000000000000000) := by
  have e0 := hx.pos
  obtain ⟨s, m, i, h1, h2, h3⟩ := hx
  have ht : Reads wTurn false 8388608000000000 (-23) := by unfold Reads; decide +kernel
  have tv : rv false 8388608000000000 (-23) = 1000000000 := by decide +kernel
  have p0 : p2 ((0 : Nat) : Int) = 1 := by decide +kernel
  have u54 : p2 (((1 : Nat) : Int) - 54) ≤ 12 / 100000000000000000 := by decide +kernel
  have u53 : p2 (((1 : Nat) : Int) - 53) ≤ 23 / 100000000000000000 := by decide +kernel
  have p1 : p2 ((1 : Nat) : Int) = 2 := by decide +kernel
  have p2' : p2 ((2 : Nat) : Int) = 4 := by decide +kernel
  have w53 : p2 (((2 : Nat) : Int) - 53) ≤ 45 / 100000000000000000 := by decide +kernel
  have p3 : p2 ((3 : Nat) : Int) = 8 := by decide +kernel
  have x53 : p2 (((3 : Nat) : Int) - 53) ≤ 89 / 100000000000000000 := by decide +kernel
  have n54 := Rat.le_of_lt (p2_pos (((1 : Nat) : Int) - 54))
  have n53 := Rat.le_of_lt (p2_pos (((1 : Nat) : Int) - 53))
  have m53 := Rat.le_of_lt (p2_pos (((2 : Nat) : Int) - 53))
  have o53 := Rat.le_of_lt (p2_pos (((3 : Nat) : Int) - 53))
  generalize hX : rv s m i = X at *
  have dv : X / 1000000000 = X * (1 / 1000000000) := by rw [Rat.div_def, Rat.div_def]; grind
  obtain ⟨q1, d1, d2⟩ := div_val 1 (by omega) h1 ht (by decide) (by rw [tv, hX, dv, p1]; grind) (by rw [tv, hX, dv, p1]; grind)
  rw [tv, hX, dv] at d2
  have d3 := d2.move (Y := A * (1 / 1000000000)) (d := 3 / 10000000000000000) (by grind) (by grind)
  have d4 := d3.mono (e' := 65 / 100000000000000000) (by grind)
  have hb : 0 ≤ A * (1 / 1000000000) ∧ A * (1 / 1000000000) ≤ 1 := by constructor <;> grind
  have hA : 2 * piQ * A / 1000000000 = A * (1 / 1000000000) * 2 * piQ := by rw [Rat.div_def]; grind
  rw [hA]
  generalize A * (1 / 1000000000) = B at *
  have h2w := cv_ap (show isNum wTwo = true by decide +kernel)
  have e2w : cv wTwo = 2 := by decide +kernel
  rw [e2w] at h2w
  obtain ⟨q2, g1, g2⟩ := mul_ap 1 2 2 (by omega) d4 h2w hb.2 (by grind) (by grind) (by grind) (by rw [p2']; grind)
  have hpw := cv_ap (show isNum wPi = true by decide +kernel)
  have epw : cv wPi ≤ piQ + 13 / 100000000000000000 ∧ piQ ≤ cv wPi + 13 / 100000000000000000 := by decide +kernel
  have pib : piQ ≤ 315/100 ∧ 0 ≤ piQ := by decide +kernel
  generalize cv wPi = P at *
  have g3 := g2.mono (e' := 18 / 10000000000000000) (by grind)
  obtain ⟨q3, k1, k2⟩ := mul_ap 2 (316/100) 3 (by omega) g3 hpw (by grind) (by grind) (by grind) (by grind) (by rw [p3]; grind)
  refine ⟨q3, ⟨q1, q2, d1, g1, k1⟩, ?_⟩
  have l1 := Rat.mul_le_mul_of_nonneg_left epw.1 (show (0 : Rat) ≤ B * 2 by grind)
  have l2 := Rat.mul_le_mul_of_nonneg_left epw.2 (show (0 : Rat) ≤ B * 2 by grind)
  exact (k2.move (Y := B * 2 * piQ) (d := 26 / 100000000000000000) (by grind) (by grind)).mono (by grind)
end
section
open Ieee
theorem inf_lt : double.infRung < 9223372036854775808 := by decide +kernel
theorem nearest_lt63 (m : Nat) (e : Int) : double.nearest false m e < 9223372036854775808 := by
  unfold Format.nearest Format.word
  simp only [Bool.false_eq_true, if_false]
  have := inf_lt
  split <;> omega
theorem sign_of {x m : Nat} {s : Bool} {p : Int} (hx : x < 9223372036854775808) (h : Reads x s m p) : s = false := by
  have hw : double.signWeight = 9223372036854775808 := by decide +kernel
  unfold Reads Format.read at h
  rw [hw] at h
  dsimp only at h
  have hq : (x / 9223372036854775808 % 2 == 1) = false := by
    rw [Nat.div_eq_of_lt hx]; rfl
  rw [hq] at h
  split at h
  · simp only [Datum.number.injEq] at h; exact h.1.symm
  · split at h
    · simp only [Datum.number.injEq] at h; exact h.1.symm
    · split at h <;> cases h
theorem num_nn {x : Nat} {Y : Rat} (hx : x < 9223372036854775808) (h : Num x Y) : x = 0 ∨ 0 < Y := by
  obtain ⟨s, m, p, h1, h2⟩ := h
  obtain rfl := sign_of hx h1
  by_cases hm : m = 0
  · left
    have hw : double.signWeight = 9223372036854775808 := by decide +kernel
    unfold Reads Format.read at h1
    rw [hw] at h1
    dsimp only at h1
    rw [Nat.mod_eq_of_lt hx] at h1
    split at h1
    · simp only [Datum.number.injEq] at h1; omega
    · split at h1
      · simp only [Datum.number.injEq] at h1
        have : 0 < double.binade := by decide +kernel
        omega
      · split at h1 <;> cases h1
  · right
    have : (0 : Rat) < (m : Rat) := by exact_mod_cast Nat.pos_of_ne_zero hm
    have := Rat.mul_pos this (p2_pos p)
    unfold rv at h2
    simp at h2
    grind
theorem mul_lt63 {x y r : Nat} {X Y : Rat} (hx : x < 9223372036854775808) (hy : y < 9223372036854775808) (nx : Num x X) (ny : Num y Y) (h : double.mul x y = some r) : r < 9223372036854775808 := by
  obtain ⟨s, m, i, h1, _⟩ := nx
  obtain ⟨t, n, j, g1, _⟩ := ny
  obtain rfl := sign_of hx h1
  obtain rfl := sign_of hy g1
  unfold Reads at h1 g1
  unfold Format.mul at h
  rw [h1, g1] at h
  have := Option.some.inj h
  rw [← this]
  exact nearest_lt63 _ _
theorem div_lt63 {x y r : Nat} {X Y : Rat} (hx : x < 9223372036854775808) (hy : y < 9223372036854775808) (nx : Num x X) (ny : Num y Y) (y0 : Y ≠ 0) (h : double.div x y = some r) : r < 9223372036854775808 := by
  obtain ⟨s, m, i, h1, _⟩ := nx
  obtain ⟨t, n, j, g1, g2⟩ := ny
  obtain rfl := sign_of hx h1
  obtain rfl := sign_of hy g1
  unfold Reads at h1 g1
  unfold Format.div at h
  rw [h1, g1] at h
  have hn : n ≠ 0 := by
    intro q
    subst q
    apply y0
    rw [← g2]
    unfold rv
    simp
  unfold Datum.quotient at h
  dsimp only at h
  rw [if_neg hn] at h
  have := Option.some.inj h
  rw [← this]
  exact nearest_lt63 _ _
theorem rad_lt63 {x q : Nat} {A e : Rat} (hx : x < 9223372036854775808) (ha : Ap x A e) (a0 : 0 ≤ A) (a1 : A ≤ 1000000000) (he : e ≤ 3 / 10000000) (h : RadP x q) : q < 9223372036854775808 := by
  have e0 := ha.pos
  obtain ⟨q1, q2, h1, h2, h3⟩ := h
  obtain ⟨X, n1, n2, n3⟩ := ha.num
  have nt : Num wTurn (cv wTurn) := cv_num (by decide +kernel)
  have n2w : Num wTwo (cv wTwo) := cv_num (by decide +kernel)
  have npi : Num wPi (cv wPi) := cv_num (by decide +kernel)
  have l1 := div_lt63 hx (by decide +kernel) n1 nt (by decide +kernel) h1
  have ht : Reads wTurn false 8388608000000000 (-23) := by unfold Reads; decide +kernel
  have tv : rv false 8388608000000000 (-23) = 1000000000 := by decide +kernel
  obtain ⟨s, m, i, r1, r2⟩ := n1
  have dv : X / 1000000000 = X * (1 / 1000000000) := by rw [Rat.div_def, Rat.div_def]; grind
  have p1 : p2 ((1 : Nat) : Int) = 2 := by decide +kernel
  have u54 : p2 (((1 : Nat) : Int) - 54) ≤ 12 / 100000000000000000 := by decide +kernel
  have n54 := Rat.le_of_lt (p2_pos (((1 : Nat) : Int) - 54))
  obtain ⟨q1', d1, d2⟩ := div_val 1 (by omega) r1 ht (by decide) (by rw [tv, r2, dv, p1]; grind) (by rw [tv, r2, dv, p1]; grind)
  rw [h1] at d1
  obtain rfl := Option.some.inj d1
  obtain ⟨Q1, c1, c2, c3⟩ := d2.num
  rw [tv, r2, dv] at c2 c3
  have l2 := mul_lt63 l1 (by decide +kernel) c1 n2w h2
  have p3 : p2 ((3 : Nat) : Int) = 8 := by decide +kernel
  have u53 : p2 (((1 : Nat) : Int) - 53) ≤ 23 / 100000000000000000 := by decide +kernel
  have n53 := Rat.le_of_lt (p2_pos (((1 : Nat) : Int) - 53))
  have e2w : cv wTwo = 2 := by decide +kernel
  obtain ⟨q2', k1, k2⟩ := mul_ap 2 2 3 (by omega) c1.ap n2w.ap (by grind) (by grind) (by rw [e2w]; grind) (by rw [e2w]; grind) (by rw [p3]; grind)
  rw [h2] at k1
  obtain rfl := Option.some.inj k1
  obtain ⟨Q2, b1, b2, b3⟩ := k2.num
  exact mul_lt63 l2 (by decide +kernel) b1 npi h3
/-- The sine of an angle from 0 to 7 is at most 1. -/
theorem sin_bd {X : Rat} (h0 : 0 ≤ X) (h7 : X ≤ 7) : S X ≤ 1 + 1 / 10 ^ 17 ∧ -(1 + 1 / 10 ^ 17) ≤ S X := by
  have pb : piQ ≤ 31416 / 10000 ∧ 31415 / 10000 ≤ piQ := by decide +kernel
  have t : (1 : Rat) / 10 ^ 18 + 1 / 10 ^ 18 ≤ 1 / 10 ^ 17 := by decide +kernel
  have t0 : (0 : Rat) ≤ 1 / 10 ^ 18 := by decide +kernel
  have key : ∀ Z : Rat, rabs Z ≤ 393/500 → (X = Z ∨ X = Z + piQ / 2 ∨ X = Z + piQ ∨ X = Z + 3 * piQ / 2 ∨ X = Z + 2 * piQ) → S X ≤ 1 + 1 / 10 ^ 17 ∧ -(1 + 1 / 10 ^ 17) ≤ S X := by
    intro Z hz hX
    obtain ⟨⟨q11, q12⟩, ⟨q21, q22⟩, ⟨q31, q32⟩, q41, q42⟩ := quart hz
    obtain ⟨⟨sb1, sb2⟩, cb1, cb2⟩ := sin_cos_le (y := Z) (by grind)
    generalize (1 : Rat) / 10 ^ 18 = d at *
    generalize (1 : Rat) / 10 ^ 17 = d' at *
    rcases hX with rfl | rfl | rfl | rfl | rfl <;> constructor <;> grind
  rcases (show X ≤ 786/1000 ∨ (785/1000 ≤ X ∧ X ≤ 2356/1000) ∨ (2356/1000 ≤ X ∧ X ≤ 3927/1000) ∨ (3927/1000 ≤ X ∧ X ≤ 5498/1000) ∨ 5498/1000 ≤ X by grind) with h | h | h | h | h
  · exact key X (rabs_le.2 (by constructor <;> grind)) (.inl rfl)
  · exact key (X - piQ / 2) (rabs_le.2 (by constructor <;> grind)) (.inr (.inl (by grind)))
  · exact key (X - piQ) (rabs_le.2 (by constructor <;> grind)) (.inr (.inr (.inl (by grind))))
  · exact key (X - 3 * piQ / 2) (rabs_le.2 (by constructor <;> grind)) (.inr (.inr (.inr (.inl (by grind)))))
  · exact key (X - 2 * piQ) (rabs_le.2 (by constructor <;> grind)) (.inr (.inr (.inr (.inr (by grind)))))
/-- The sine of an angle that is known up to a small error. -/
theorem sinU_run {x : Nat} {A e : Rat} (hx : Ap x A e) (x63 : x < 9223372036854775808) (a0 : 0 ≤ A) (a1 : A ≤ 1000000000) (he : e ≤ 3 / 10000000) :
    ∃ q Y, RadP x q ∧ q < 9223372036854775808 ∧ Num q Y ∧ (q = 0 ∨ 0 < Y) ∧ 0 ≤ 2 * piQ * A / 1000000000 ∧ 2 * piQ * A / 1000000000 ≤ 7 ∧ Ap q (2 * piQ * A / 1000000000) (7 / 1000000000000000) ∧ Ap (sinW q) (S (2 * piQ * A / 1000000000)) (25 / 1000000000000000) := by
  obtain ⟨q, r1, r2⟩ := rad_run hx a0 a1 he
  have hq := rad_lt63 x63 hx a0 a1 he r1
  obtain ⟨Y, n1, n2, n3⟩ := r2.num
  have y0 := num_nn hq n1
  have hA : 2 * piQ * A / 1000000000 = A * (2 * piQ / 1000000000) := by simp only [Rat.div_def]; grind
  have cb : 0 ≤ 2 * piQ / 1000000000 ∧ 2 * piQ / 1000000000 ≤ 7 / 1000000000 := by decide +kernel
  have b0 : 0 ≤ 2 * piQ * A / 1000000000 := by rw [hA]; exact Rat.mul_nonneg a0 cb.1
  have b1 : 2 * piQ * A / 1000000000 ≤ 7 := by
    rw [hA]
    have m1 := Rat.mul_le_mul_of_nonneg_left cb.2 a0
    grind
  refine ⟨q, Y, r1, hq, n1, y0, b0, b1, r2, ?_⟩
  rcases y0 with h | h
  · subst h
    exact sinW_zero r2 (by grind)
  · obtain ⟨t, j, hh, z, ys, yc, -, -, -, -, -, -, -, -, hs⟩ := sin_run n1 h r2 b0 b1 (by grind)
    exact hs
def clipL (l : Int) : Int := min (max l (-1000000000)) 1000000000
def clipH (h : Int) : Int := max (min h 1000000000) (-1000000000)
/-- The word of a billion times the sine of an angle. -/
def sineV (a : Int) : Nat := fmul wTurn (sinW (radW (fofI a)))
def sineLo (a : Int) : Int := if a % 1000000000 = 0 ∨ a % 1000000000 = 500000000 then 0 else if a % 1000000000 = 250000000 then 1000000000 else if a % 1000000000 = 750000000 then -1000000000 else clipL (arLo (sineV (a % 1000000000)))
def sineHi (a : Int) : Int := if a % 1000000000 = 0 ∨ a % 1000000000 = 500000000 then 0 else if a % 1000000000 = 250000000 then 1000000000 else if a % 1000000000 = 750000000 then -1000000000 else clipH (arHi (sineV (a % 1000000000)))
/-- The angle of a number of units. -/
def angU (a : Int) : Rat := 2 * piQ * (a : Rat) / 1000000000
theorem fofI_lt63 (n : Int) (h : 0 ≤ n) : fofI n < 9223372036854775808 := by
  unfold fofI
  rw [decide_eq_false (by omega)]
  exact nearest_lt63 _ _
/-- What trig.sine runs through off the quarters. -/
theorem sine_run (a : Int) (a0 : 0 ≤ a) (a1 : a ≤ 999999999) :
    ∃ q Y v s1 s2 X1 X2, RadP (fofI a) q ∧ q < 9223372036854775808 ∧ Num q Y ∧ (q = 0 ∨ 0 < Y) ∧ 0 ≤ angU a ∧ angU a ≤ 7 ∧ Ap q (angU a) (7 / 1000000000000000) ∧ double.mul wTurn (sinW q) = some v ∧ v = sineV a ∧
      double.sub v wSl = some s1 ∧ double.add v wSl = some s2 ∧ Num s1 X1 ∧ Num s2 X2 ∧ (double.read (fflr s1)).toInt .zero = some (arLo v) ∧ (double.read (fcei s2)).toInt .zero = some (arHi v) ∧
      -4000000000000000 ≤ arLo v ∧ arLo v ≤ 4000000000000000 ∧ -4000000000000000 ≤ arHi v ∧ arHi v ≤ 4000000000000000 ∧
      (arLo v : Rat) ≤ 1000000000 * S (angU a) - 9 / 10000 ∧ 1000000000 * S (angU a) - 11 / 10000 < (arLo v : Rat) + 1 ∧ 1000000000 * S (angU a) + 9 / 10000 ≤ (arHi v : Rat) ∧ (arHi v : Rat) < 1000000000 * S (angU a) + 11 / 10000 + 1 := by
  have hn := fofI_num a (by omega) (by omega)
  have r0 : (0 : Rat) ≤ (a : Rat) := by exact_mod_cast a0
  have r1 : (a : Rat) ≤ 1000000000 := by
    have := Rat.intCast_le_intCast.2 a1
    have e : ((999999999 : Int) : Rat) = 999999999 := rfl
    rw [e] at this
    grind
  obtain ⟨q, Y, q1, q2, q3, q4, q5, q6, q7, q8⟩ := sinU_run hn.ap (fofI_lt63 a a0) r0 r1 (by grind)
  have nt := cv_ap (show isNum wTurn = true by decide +kernel)
  have et : cv wTurn = 1000000000 := by decide +kernel
  rw [et] at nt
  have p31 : p2 ((31 : Nat) : Int) = 2147483648 := by decide +kernel
  have u31 : p2 (((31 : Nat) : Int) - 53) ≤ 3 / 10000000 := by decide +kernel
  have sy : S (angU a) ≤ 3/2 ∧ -(3/2) ≤ S (angU a) := by
    have hq := sin_bd q5 q6
    have t : (1 : Rat) / 10 ^ 17 ≤ 1 / 4 := by decide +kernel
    unfold angU
    constructor <;> grind
  change Ap (sinW q) (S (angU a)) _ at q8
  obtain ⟨v, v1, v2⟩ := mul_ap 1000000000 (3/2) 31 (by omega) nt q8 (by grind) (by grind) sy.1 sy.2 (by rw [p31]; grind)
  have v3 := v2.mono (e' := 26 / 1000000) (by grind)
  obtain ⟨s1, s2, X1, X2, g1, g2, g3, g4, g5, g6, g7, g8, g9, g10, g11, g12, g13, g14⟩ := around_run 31 (by omega) v3 (by rw [p31]; grind) (by rw [p31]; grind)
  have t18 : (1 : Rat) / 10 ^ 18 ≤ 1 / 1000000000 := by decide +kernel
  generalize (1 : Rat) / 10 ^ 18 = d at *
  refine ⟨q, Y, v, s1, s2, X1, X2, q1, q2, q3, q4, q5, q6, q7, v1, ?_, g1, g2, g3, g4, g5, g6, g7, g8, g9, g10, by grind, by grind, by grind, by grind⟩
  unfold sineV
  rw [radW_of q1, fmul_of v1]
end
end Go.Proofs.YtcgnhnmigmdalaaGreatDoor
