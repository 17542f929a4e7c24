/- Floating-point numbers compared and cut; the operations as plain functions of words. No program in sight. -/
import Derived.Test.YtffnmfcaoldlhaaDoorPlainOct
set_option linter.unusedVariables false
set_option linter.unusedSimpArgs false
namespace Go.Proofs.YtffnmfcaoldlhaaDoor
open Ieee
/-- A word reads as a number. -/
def Num (w : Nat) (X : Rat) : Prop := ∃ s m p, Reads w s m p ∧ rv s m p = X
theorem Num.ap {w : Nat} {X : Rat} (h : Num w X) : Ap w X 0 := by
  obtain ⟨s, m, p, h1, h2⟩ := h
  exact ⟨s, m, p, h1, by grind, by grind⟩
theorem Ap.num {w : Nat} {X e : Rat} (h : Ap w X e) : ∃ Y, Num w Y ∧ Y ≤ X + e ∧ X ≤ Y + e := by
  obtain ⟨s, m, p, h1, h2, h3⟩ := h
  exact ⟨_, ⟨s, m, p, h1, rfl⟩, h2, h3⟩
theorem Ap.num0 {w : Nat} {X : Rat} (h : Ap w X 0) : Num w X := by
  obtain ⟨s, m, p, h1, h2, h3⟩ := h
  exact ⟨s, m, p, h1, by grind⟩
theorem cv_num {w : Nat} (h : isNum w = true) : Num w (cv w) := (cv_ap h).num0
theorem Num.uniq {w : Nat} {X Y : Rat} (h : Num w X) (g : Num w Y) : X = Y := by
  obtain ⟨s, m, p, h1, h2⟩ := h
  obtain ⟨t, n, q, g1, g2⟩ := g
  unfold Reads at h1 g1
  rw [h1] at g1
  simp only [Datum.number.injEq] at g1
  obtain ⟨rfl, rfl, rfl⟩ := g1
  rw [← h2, ← g2]
theorem int_lt_of {A B : Int} {g : Rat} (hg : 0 < g) (h : (A : Rat) * g < (B : Rat) * g) : A < B := by
  have := Rat.lt_of_mul_lt_mul_right h (Rat.le_of_lt hg)
  exact_mod_cast this
theorem int_eq_of {A B : Int} {g : Rat} (hg : 0 < g) (h : (A : Rat) * g = (B : Rat) * g) : A = B := by
  have h1 := Rat.le_of_mul_le_mul_right (show (A : Rat) * g ≤ (B : Rat) * g by grind) hg
  have h2 := Rat.le_of_mul_le_mul_right (show (B : Rat) * g ≤ (A : Rat) * g by grind) hg
  have h1' : A ≤ B := by exact_mod_cast h1
  have h2' : B ≤ A := by exact_mod_cast h2
  omega
theorem cmp_lt {A B : Int} (h : A < B) : compare A B = .lt := by show compareOfLessAndEq A B = _; simp [compareOfLessAndEq, h]
theorem cmp_eq {A B : Int} (h : A = B) : compare A B = .eq := by show compareOfLessAndEq A B = _; simp [compareOfLessAndEq, h]
theorem cmp_gt {A B : Int} (h : B < A) : compare A B = .gt := by
  show compareOfLessAndEq A B = _
  unfold compareOfLessAndEq
  rw [if_neg (by omega), if_neg (by omega)]
theorem num_order {x y : Nat} {X Y : Rat} (hx : Num x X) (hy : Num y Y) : (X < Y → double.order x y = some .lt) ∧ (X = Y → double.order x y = some .eq) ∧ (Y < X → double.order x y = some .gt) := by
  obtain ⟨s, m, i, h1, h2⟩ := hx
  obtain ⟨t, n, j, g1, g2⟩ := hy
  unfold Reads at h1 g1
  unfold Format.order
  rw [h1, g1]
  unfold Datum.order
  dsimp only
  have e1 := signed_rv s m i (min i j) (by omega)
  have e2 := signed_rv t n j (min i j) (by omega)
  rw [h2] at e1
  rw [g2] at e2
  have hp := p2_pos (min i j)
  generalize signed s m (i - min i j).toNat = A at *
  generalize signed t n (j - min i j).toNat = B at *
  refine ⟨fun h => ?_, fun h => ?_, fun h => ?_⟩
  · rw [cmp_lt (int_lt_of hp (by rw [e1, e2]; exact h))]
  · rw [cmp_eq (int_eq_of hp (by rw [e1, e2]; exact h))]
  · rw [cmp_gt (int_lt_of hp (by rw [e1, e2]; exact h))]
theorem num_zero : Num 0 0 := ⟨false, 0, -1074, by unfold Reads; decide +kernel, by unfold rv; simp⟩
/-- What a number is cut to. -/
theorem toInt_cut {t : Nat} {T : Rat} (ht : Num t T) (h : -1 < T) : ∃ k : Nat, (double.read t).toInt .zero = some (k : Int) ∧ ((k : Rat) ≤ T ∨ k = 0) ∧ T < (k : Rat) + 1 := by
  obtain ⟨s, m, p, h1, h2⟩ := ht
  unfold Reads at h1
  rw [h1]
  cases s
  · obtain ⟨k, k1, k2, k3⟩ := toInt_pos m p
    exact ⟨k, k1, .inl (by grind), by grind⟩
  · obtain ⟨k, k1, k2, k3⟩ := toInt_pos m p
    have e : rv true m p = - rv false m p := by have := rv_neg false m p; simp at this; exact this
    have k0 : k = 0 := by
      have : (k : Rat) < ((1 : Nat) : Rat) := by
        have c1 : ((1 : Nat) : Rat) = 1 := rfl
        rw [c1]; grind
      have : k < 1 := by exact_mod_cast this
      omega
    refine ⟨0, ?_, .inr rfl, ?_⟩
    · unfold Datum.toInt at k1 ⊢
      unfold Datum.integral at k1 ⊢
      dsimp only at k1 ⊢
      rw [cut_is _ _ _ _ (by decide)] at k1 ⊢
      dsimp only at k1 ⊢
      unfold signed at k1 ⊢
      simp at k1 ⊢
      rw [k1, k0]
      rfl
    · have c0 : ((0 : Nat) : Rat) = 0 := rfl
      have : (0 : Rat) ≤ (m : Rat) * p2 p := mp_nonneg m p
      unfold rv at h2
      simp at h2
      rw [c0]
      grind
/-- The operations as plain functions. -/
def fadd (x y : Nat) : Nat := (double.add x y).getD 0
def fsub (x y : Nat) : Nat := (double.sub x y).getD 0
def fmul (x y : Nat) : Nat := (double.mul x y).getD 0
def fdiv (x y : Nat) : Nat := (double.div x y).getD 0
def fneg (x : Nat) : Nat := x ^^^ 9223372036854775808
def fcut (x : Nat) : Int := ((double.read x).toInt .zero).getD 0
def fofI (n : Int) : Nat := double.write (.number (decide (n < 0)) n.natAbs 0)
def fflr (x : Nat) : Nat := double.write ((double.read x).integral .down)
def fcei (x : Nat) : Nat := double.write ((double.read x).integral .up)
theorem fadd_of {x y r : Nat} (h : double.add x y = some r) : fadd x y = r := by unfold fadd; rw [h]; rfl
theorem fsub_of {x y r : Nat} (h : double.sub x y = some r) : fsub x y = r := by unfold fsub; rw [h]; rfl
theorem fmul_of {x y r : Nat} (h : double.mul x y = some r) : fmul x y = r := by unfold fmul; rw [h]; rfl
theorem fdiv_of {x y r : Nat} (h : double.div x y = some r) : fdiv x y = r := by unfold fdiv; rw [h]; rfl
theorem fcut_of {x : Nat} {n : Int} (h : (double.read x).toInt .zero = some n) : fcut x = n := by unfold fcut; rw [h]; rfl
/-- math.sin's polynomials, its reduction, and math.sin from nought on. -/
def sinPW (z : Nat) : Nat := (fun zz => fadd z (fmul (fmul z zz) (fadd (fmul (fadd (fmul (fadd (fmul (fadd (fmul (fadd (fmul sC0 zz) sC1) zz) sC2) zz) sC3) zz) sC4) zz) sC5))) (fmul z z)
def cosPW (z : Nat) : Nat := (fun zz => fadd (fsub wOne (fmul wHalf zz)) (fmul (fmul zz zz) (fadd (fmul (fadd (fmul (fadd (fmul (fadd (fmul (fadd (fmul cC0 zz) cC1) zz) cC2) zz) cC3) zz) cC4) zz) cC5))) (fmul z z)
theorem sinPW_of {z y : Nat} (h : SinP z y) : sinPW z = y := by
  obtain ⟨zz, m1, h1, m2, h2, m3, h3, m4, h4, m5, h5, t, p, k1, e1, f1, e2, f2, e3, f3, e4, f4, e5, f5, g1, i1, j1⟩ := h
  unfold sinPW
  simp only [fmul_of k1, fmul_of e1, fadd_of f1, fmul_of e2, fadd_of f2, fmul_of e3, fadd_of f3, fmul_of e4, fadd_of f4, fmul_of e5, fadd_of f5, fmul_of g1, fmul_of i1, fadd_of j1]
theorem cosPW_of {z y : Nat} (h : CosP z y) : cosPW z = y := by
  obtain ⟨zz, m1, h1, m2, h2, m3, h3, m4, h4, m5, h5, v, w, t, p, k1, e1, f1, e2, f2, e3, f3, e4, f4, e5, f5, v1, w1, g1, i1, j1⟩ := h
  unfold cosPW
  simp only [fmul_of k1, fmul_of e1, fadd_of f1, fmul_of e2, fadd_of f2, fmul_of e3, fadd_of f3, fmul_of e4, fadd_of f4, fmul_of e5, fadd_of f5, fmul_of v1, fsub_of w1, fmul_of g1, fmul_of i1, fadd_of j1]
def RedP (x yk z : Nat) : Prop := ∃ a1 b1 a2 b2 a3, double.mul yk wPA = some a1 ∧ double.sub x a1 = some b1 ∧ double.mul yk wPB = some a2 ∧ double.sub b1 a2 = some b2 ∧ double.mul yk wPC = some a3 ∧ double.sub b2 a3 = some z
def redW (x yk : Nat) : Nat := fsub (fsub (fsub x (fmul yk wPA)) (fmul yk wPB)) (fmul yk wPC)
theorem redW_of {x yk z : Nat} (h : RedP x yk z) : redW x yk = z := by
  obtain ⟨a1, b1, a2, b2, a3, e1, f1, e2, f2, e3, f3⟩ := h
  unfold redW
  simp only [fmul_of e1, fsub_of f1, fmul_of e2, fsub_of f2, fmul_of e3, fsub_of f3]
def wC4 : Nat := 4608412980311869571
/-- The words of 0, 2, 4, 6, 8, by halves. -/
def evW : Nat → Nat
  | 0 => 0
  | 1 => 4611686018427387904
  | 2 => 4616189618054758400
  | 3 => 4618441417868443648
  | _ => 4620693217682128896
def pick4 (h a b c d : Nat) : Nat := match h with | 1 => b | 2 => c | 3 => d | _ => a
def sinW (x : Nat) : Nat :=
  if x = 0 then 0 else
  (fun h => (fun z => pick4 h (sinPW z) (cosPW z) (fneg (sinPW z)) (fneg (cosPW z))) (redW x (evW h))) (((fcut (fmul x wC4)).toNat + 1) / 2)
theorem xor63 (x : Nat) : (x ^^^ 9223372036854775808) % 9223372036854775808 = x % 9223372036854775808 ∧ (x ^^^ 9223372036854775808) / 9223372036854775808 % 2 = 1 - x / 9223372036854775808 % 2 := by
  have e : (9223372036854775808 : Nat) = 2 ^ 63 := by decide
  rw [e]
  constructor
  · rw [Nat.xor_mod_two_pow]; simp
  · rw [Nat.xor_div_two_pow]
    have h := Nat.xor_mod_two_pow (a := x / 2 ^ 63) (b := 1) (n := 1)
    simp at h
    rw [Nat.div_self (Nat.two_pow_pos 63), h]
    rcases (show x / 2 ^ 63 % 2 = 0 ∨ x / 2 ^ 63 % 2 = 1 by omega) with q | q <;> rw [q] <;> decide
theorem fneg_reads {x m : Nat} {s : Bool} {p : Int} (h : Reads x s m p) : Reads (fneg x) (!s) m p := by
  obtain ⟨h1, h2⟩ := xor63 x
  have hw : double.signWeight = 9223372036854775808 := by decide +kernel
  unfold Reads Format.read at h ⊢
  unfold fneg
  rw [hw] at h ⊢
  dsimp only at h ⊢
  rw [h1, h2]
  have hb : ((1 - x / 9223372036854775808 % 2) == 1) = !(x / 9223372036854775808 % 2 == 1) := by
    rcases (show x / 9223372036854775808 % 2 = 0 ∨ x / 9223372036854775808 % 2 = 1 by omega) with q | q <;> rw [q] <;> rfl
  rw [hb]
  generalize (x / 9223372036854775808 % 2 == 1) = t at *
  split at h
  · simp only [Datum.number.injEq] at h; obtain ⟨rfl, rfl, rfl⟩ := h; rename_i g; rw [if_pos g]
  · rename_i g
    rw [if_neg g]
    split at h
    · simp only [Datum.number.injEq] at h; obtain ⟨rfl, rfl, rfl⟩ := h; rename_i g2; rw [if_pos g2]
    · rename_i g2
      split at h <;> cases h
theorem fneg_ap {w : Nat} {X e : Rat} (h : Ap w X e) : Ap (fneg w) (-X) e := by
  obtain ⟨s, m, p, g1, g2, g3⟩ := h
  have e1 := rv_neg s m p
  exact ⟨!s, m, p, fneg_reads g1, by rw [e1]; grind, by rw [e1]; grind⟩
theorem reads_pos {x : Nat} {X : Rat} (h : Num x X) (h0 : 0 < X) (hx : x < 18446744073709551616) : x < 9223372036854775808 := by
  obtain ⟨s, m, p, h1, h2⟩ := h
  have hs : s = false := by
    cases s
    · rfl
    · have := mp_nonneg m p
      unfold rv at h2
      simp at h2
      grind
  subst hs
  have hw : double.signWeight = 9223372036854775808 := by decide +kernel
  have hq : (x / 9223372036854775808 % 2 == 1) = false := by
    unfold Reads Format.read at h1
    rw [hw] at h1
    dsimp only at h1
    generalize (x / 9223372036854775808 % 2 == 1) = t at *
    split at h1
    · simp only [Datum.number.injEq] at h1; exact h1.1
    · split at h1
      · simp only [Datum.number.injEq] at h1; exact h1.1
      · split at h1 <;> cases h1
  simp at hq
  omega
theorem ev_num : Num (evW 0) (((0 : Nat) : Rat)) ∧ Num (evW 1) ((2 : Nat) : Rat) ∧ Num (evW 2) ((4 : Nat) : Rat) ∧ Num (evW 3) ((6 : Nat) : Rat) ∧ Num (evW 4) ((8 : Nat) : Rat) := by
  have e0 : cv (evW 0) = ((0 : Nat) : Rat) := by decide +kernel
  have e1 : cv (evW 1) = ((2 : Nat) : Rat) := by decide +kernel
  have e2 : cv (evW 2) = ((4 : Nat) : Rat) := by decide +kernel
  have e3 : cv (evW 3) = ((6 : Nat) : Rat) := by decide +kernel
  have e4 : cv (evW 4) = ((8 : Nat) : Rat) := by decide +kernel
  rw [← e0, ← e1, ← e2, ← e3, ← e4]
  exact ⟨cv_num (by decide +kernel), cv_num (by decide +kernel), cv_num (by decide +kernel), cv_num (by decide +kernel), cv_num (by decide +kernel)⟩
theorem ev_at (h : Nat) (hh : h ≤ 4) : Num (evW h) ((2 * h : Nat) : Rat) := by
  obtain ⟨a, b, c, d, e⟩ := ev_num
  rcases (show h = 0 ∨ h = 1 ∨ h = 2 ∨ h = 3 ∨ h = 4 by omega) with rfl | rfl | rfl | rfl | rfl <;> assumption
theorem S_small {X : Rat} (h1 : X ≤ 8 / 1000000000000000) (h2 : -(8 / 1000000000000000) ≤ X) : S X ≤ 9 / 1000000000000000 ∧ -(9 / 1000000000000000) ≤ S X := by
  have h := pv_bd (R := 8 / 1000000000000000) (x := X) (rabs_le.2 ⟨h1, h2⟩) sT
  have e : pbd sT (8 / 1000000000000000) ≤ 9 / 1000000000000000 := by decide +kernel
  exact rabs_le.1 (show rabs (pv sT X) ≤ _ by grind)
/-- What math.sin runs through at a number from 0 to 7, and how near it comes. -/
theorem sin_run {x : Nat} {X Y e : Rat} (hn : Num x Y) (y0 : 0 < Y) (hx : Ap x X e) (x0 : 0 ≤ X) (x7 : X ≤ 7) (he : e ≤ 7 / 1000000000000000) :
    ∃ t j h z ys yc, double.mul x wC4 = some t ∧ (double.read t).toInt .zero = some ((j : Nat) : Int) ∧ (h : Nat) = (j + 1) / 2 ∧ h ≤ 4 ∧ RedP x (evW h) z ∧ SinP z ys ∧ CosP z yc ∧
      sinW x = pick4 h ys yc (fneg ys) (fneg yc) ∧ Ap (sinW x) (S X) (25 / 1000000000000000) := by
  have e0 := hx.pos
  have p4 : p2 ((4 : Nat) : Int) = 16 := by decide +kernel
  have n4 : p2 (((4 : Nat) : Int) - 53) ≤ 2 / 1000000000000000 := by decide +kernel
  have hc := cv_ap (show isNum wC4 = true by decide +kernel)
  have cb : cv wC4 ≤ 13/10 ∧ -(13/10) ≤ cv wC4 := by decide +kernel
  have cq : cv wC4 * (piQ / 4) ≤ 1 + 1 / 1000000000000000 ∧ 1 ≤ cv wC4 * (piQ / 4) + 1 / 1000000000000000 := by decide +kernel
  have c0 : (0 : Rat) < cv wC4 := by decide +kernel
  have c1 : 1 ≤ cv wC4 := by decide +kernel
  have pq : piQ / 4 ≤ 7854 / 10000 ∧ 7853 / 10000 ≤ piQ / 4 := by decide +kernel
  have tb : X * cv wC4 ≤ 91/10 ∧ 0 ≤ X * cv wC4 := by
    have m1 := Rat.mul_nonneg x0 (Rat.le_of_lt c0)
    have m2 := Rat.mul_le_mul_of_nonneg_right x7 (Rat.le_of_lt c0)
    constructor <;> grind
  obtain ⟨t, t1, t2⟩ := mul_ap 7 (13/10) 4 (by omega) hx hc x7 (by grind) cb.1 cb.2 (by rw [p4]; grind)
  have t3 := t2.mono (e' := 12 / 1000000000000000) (by grind)
  obtain ⟨T, n1, n2, n3⟩ := t3.num
  obtain ⟨j, j1, j2, j3⟩ := toInt_cut n1 (by grind)
  have hxk : sinW x = (fun h => (fun z => pick4 h (sinPW z) (cosPW z) (fneg (sinPW z)) (fneg (cosPW z))) (redW x (evW h))) ((j + 1) / 2) := by
    unfold sinW
    rw [if_neg, fmul_of t1, fcut_of j1]
    · rfl
    · intro h0
      subst h0
      have := hn.uniq num_zero
      grind
  have j9 : j ≤ 9 := by
    rcases j2 with q | q
    · have : (j : Rat) < ((10 : Nat) : Rat) := by
        have c : ((10 : Nat) : Rat) = 10 := rfl
        rw [c]; grind
      have : j < 10 := by exact_mod_cast this
      omega
    · omega
  have hj0 : (0 : Rat) ≤ (j : Rat) := by exact_mod_cast Nat.zero_le j
  have jlo : (j : Rat) * (piQ / 4) ≤ X + 2 / 100000000000000 := by
    have a1 : (j : Rat) ≤ X * cv wC4 + 12 / 1000000000000000 := by
      rcases j2 with q | q
      · grind
      · subst q
        have c : ((0 : Nat) : Rat) = 0 := rfl
        rw [c]; grind
    have a2 := Rat.mul_le_mul_of_nonneg_right a1 (show (0 : Rat) ≤ piQ / 4 by grind)
    have a3 := Rat.mul_le_mul_of_nonneg_left cq.1 x0
    grind
  have jhi : X ≤ ((j : Rat) + 1) * (piQ / 4) + 2 / 100000000000000 := by
    have a1 : X * cv wC4 ≤ (j : Rat) + 1 + 12 / 1000000000000000 := by grind
    have a2 := Rat.mul_le_mul_of_nonneg_right a1 (show (0 : Rat) ≤ piQ / 4 by grind)
    have a3 := Rat.mul_le_mul_of_nonneg_left cq.2 x0
    grind
  have j8 : j ≤ 8 := by
    rcases (show j = 9 ∨ j ≤ 8 by omega) with q | q
    · subst q
      have c : ((9 : Nat) : Rat) = 9 := rfl
      rw [c] at jlo
      grind
    · exact q
  obtain ⟨h, hh⟩ : ∃ h, h = (j + 1) / 2 := ⟨_, rfl⟩
  rw [← hh] at hxk
  have h4 : h ≤ 4 := by omega
  have hk := ev_at h h4
  have kb : ((2 * h : Nat) : Rat) ≤ 8 := by
    have : ((2 * h : Nat) : Rat) ≤ ((8 : Nat) : Rat) := cast_le (by omega)
    exact this
  have k0 : 0 ≤ ((2 * h : Nat) : Rat) := by exact_mod_cast Nat.zero_le _
  obtain ⟨a1, b1, a2, b2, a3, z, r1, r2, r3, r4, r5, r6, r7⟩ := reduce (k := ((2 * h : Nat) : Rat)) hx hk.ap k0 kb x0 x7 he
  have hrp : RedP x (evW h) z := ⟨a1, b1, a2, b2, a3, r1, r2, r3, r4, r5, r6⟩
  have zb : rabs (X - ((2 * h : Nat) : Rat) * (piQ / 4)) ≤ 393/500 := by
    rw [rabs_le]
    rcases (show 2 * h = j ∨ 2 * h = j + 1 by omega) with q | q
    · rw [q]; constructor <;> grind
    · rw [q]
      have c : ((j + 1 : Nat) : Rat) = (j : Rat) + 1 := by push_cast; rfl
      rw [c]; constructor <;> grind
  obtain ⟨zb1, zb2⟩ := rabs_le.1 zb
  obtain ⟨ys, s1, s2⟩ := sin_poly r7 zb1 zb2 (by grind)
  obtain ⟨yc, u1, u2⟩ := cos_poly r7 zb1 zb2 (by grind)
  have ws := ap_sin zb s2
  have wc := ap_cos zb u2
  have hsw : sinW x = pick4 h ys yc (fneg ys) (fneg yc) := by
    rw [hxk]
    simp only [redW_of hrp, sinPW_of s1, cosPW_of u1]
  refine ⟨t, j, h, z, ys, yc, t1, j1, hh, h4, hrp, s1, u1, hsw, ?_⟩
  rw [hsw]
  clear hsw hxk hrp s1 u1 s2 u2 r1 r2 r3 r4 r5 r6 r7
  obtain ⟨⟨q11, q12⟩, ⟨q21, q22⟩, ⟨q31, q32⟩, q41, q42⟩ := quart zb
  obtain ⟨⟨sb1, sb2⟩, cb1, cb2⟩ := sin_cos_le (y := X - ((2 * h : Nat) : Rat) * (piQ / 4)) (by grind)
  have p1 : p2 ((1 : Nat) : Int) = 2 := by decide +kernel
  have n1 : p2 (((1 : Nat) : Int) - 53) ≤ 1 / 1000000000000000 := by decide +kernel
  have t18 : (1 : Rat) / 10 ^ 18 ≤ 1 / 1000000000000000 := by decide +kernel
  generalize (1 : Rat) / 10 ^ 18 = d18 at *
  generalize hZ : X - ((2 * h : Nat) : Rat) * (piQ / 4) = Z at *
  have hXZ : X = Z + ((2 * h : Nat) : Rat) * (piQ / 4) := by grind
  rcases (show h = 0 ∨ h = 1 ∨ h = 2 ∨ h = 3 ∨ h = 4 by omega) with rfl | rfl | rfl | rfl | rfl
  · have c : ((2 * 0 : Nat) : Rat) = 0 := rfl
    have : X = Z := by rw [hXZ, c]; grind
    rw [this]
    exact ws.mono (by grind)
  · have c : ((2 * 1 : Nat) : Rat) = 2 := rfl
    have : X = Z + piQ / 2 := by rw [hXZ, c]; grind
    rw [this]
    exact (wc.move (Y := S (Z + piQ / 2)) (d := d18) q12 q11).mono (by grind)
  · have c : ((2 * 2 : Nat) : Rat) = 4 := rfl
    have : X = Z + piQ := by rw [hXZ, c]; grind
    rw [this]
    have g := fneg_ap ws
    exact (g.move (Y := S (Z + piQ)) (d := d18) q22 q21).mono (by grind)
  · have c : ((2 * 3 : Nat) : Rat) = 6 := rfl
    have : X = Z + 3 * piQ / 2 := by rw [hXZ, c]; grind
    rw [this]
    have g := fneg_ap wc
    exact (g.move (Y := S (Z + 3 * piQ / 2)) (d := d18) q32 q31).mono (by grind)
  · have c : ((2 * 4 : Nat) : Rat) = 8 := rfl
    have : X = Z + 2 * piQ := by rw [hXZ, c]; grind
    rw [this]
    exact (ws.move (Y := S (Z + 2 * piQ)) (d := d18) q42 q41).mono (by grind)
theorem sinW_zero {X e : Rat} (hx : Ap 0 X e) (he : e ≤ 7 / 1000000000000000) : Ap (sinW 0) (S X) (25 / 1000000000000000) := by
  have e0 : sinW 0 = 0 := rfl
  rw [e0]
  obtain ⟨Y, n1, n2, n3⟩ := hx.num
  have := n1.uniq num_zero
  subst this
  obtain ⟨a, b⟩ := S_small (X := X) (by grind) (by grind)
  obtain ⟨s, m, p, h1, h2⟩ := num_zero
  exact ⟨s, m, p, h1, by grind, by grind⟩
end Go.Proofs.YtffnmfcaoldlhaaDoor
