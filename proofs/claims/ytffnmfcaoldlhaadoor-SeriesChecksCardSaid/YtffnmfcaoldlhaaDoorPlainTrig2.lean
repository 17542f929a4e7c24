/- The sine of an angle in units of a billionth of a turn. No program in sight. -/
import Derived.Test.YtffnmfcaoldlhaaDoorPlainTrig
set_option linter.unusedVariables false
set_option linter.unusedSimpArgs false
namespace Go.Proofs.YtffnmfcaoldlhaaDoor
open Ieee
theorem inf_lt : double.infRung < 9223372036854775808 := by decide +kernel
theorem nearest_lt63 (m : Nat) (e : Int) : double.nearest false m e < 9223372036854775808 := by
  unfold Format.nearest Format.word
  simp only [Bool.false_eq_true, if_false]
  have := inf_lt
  split <;> omega
theorem sign_of {x m : Nat} {s : Bool} {p : Int} (hx : x < 9223372036854775808) (h : Reads x s m p) : s = false := by
  have hw : double.signWeight = 9223372036854775808 := by decide +kernel
  unfold Reads Format.read at h
  rw [hw] at h
  dsimp only at h
  have hq : (x / 9223372036854775808 % 2 == 1) = false := by
    rw [Nat.div_eq_of_lt hx]; rfl
  rw [hq] at h
  split at h
  · simp only [Datum.number.injEq] at h; exact h.1.symm
  · split at h
    · simp only [Datum.number.injEq] at h; exact h.1.symm
    · split at h <;> cases h
theorem num_nn {x : Nat} {Y : Rat} (hx : x < 9223372036854775808) (h : Num x Y) : x = 0 ∨ 0 < Y := by
  obtain ⟨s, m, p, h1, h2⟩ := h
  obtain rfl := sign_of hx h1
  by_cases hm : m = 0
  · left
    have hw : double.signWeight = 9223372036854775808 := by decide +kernel
    unfold Reads Format.read at h1
    rw [hw] at h1
    dsimp only at h1
    rw [Nat.mod_eq_of_lt hx] at h1
    split at h1
    · simp only [Datum.number.injEq] at h1; omega
    · split at h1
      · simp only [Datum.number.injEq] at h1
        have : 0 < double.binade := by decide +kernel
        omega
      · split at h1 <;> cases h1
  · right
    have : (0 : Rat) < (m : Rat) := by exact_mod_cast Nat.pos_of_ne_zero hm
    have := Rat.mul_pos this (p2_pos p)
    unfold rv at h2
    simp at h2
    grind
theorem mul_lt63 {x y r : Nat} {X Y : Rat} (hx : x < 9223372036854775808) (hy : y < 9223372036854775808) (nx : Num x X) (ny : Num y Y) (h : double.mul x y = some r) : r < 9223372036854775808 := by
  obtain ⟨s, m, i, h1, _⟩ := nx
  obtain ⟨t, n, j, g1, _⟩ := ny
  obtain rfl := sign_of hx h1
  obtain rfl := sign_of hy g1
  unfold Reads at h1 g1
  unfold Format.mul at h
  rw [h1, g1] at h
  have := Option.some.inj h
  rw [← this]
  exact nearest_lt63 _ _
theorem div_lt63 {x y r : Nat} {X Y : Rat} (hx : x < 9223372036854775808) (hy : y < 9223372036854775808) (nx : Num x X) (ny : Num y Y) (y0 : Y ≠ 0) (h : double.div x y = some r) : r < 9223372036854775808 := by
  obtain ⟨s, m, i, h1, _⟩ := nx
  obtain ⟨t, n, j, g1, g2⟩ := ny
  obtain rfl := sign_of hx h1
  obtain rfl := sign_of hy g1
  unfold Reads at h1 g1
  unfold Format.div at h
  rw [h1, g1] at h
  have hn : n ≠ 0 := by
    intro q
    subst q
    apply y0
    rw [← g2]
    unfold rv
    simp
  unfold Datum.quotient at h
  dsimp only at h
  rw [if_neg hn] at h
  have := Option.some.inj h
  rw [← this]
  exact nearest_lt63 _ _
theorem rad_lt63 {x q : Nat} {A e : Rat} (hx : x < 9223372036854775808) (ha : Ap x A e) (a0 : 0 ≤ A) (a1 : A ≤ 1000000000) (he : e ≤ 3 / 10000000) (h : RadP x q) : q < 9223372036854775808 := by
  have e0 := ha.pos
  obtain ⟨q1, q2, h1, h2, h3⟩ := h
  obtain ⟨X, n1, n2, n3⟩ := ha.num
  have nt : Num wTurn (cv wTurn) := cv_num (by decide +kernel)
  have n2w : Num wTwo (cv wTwo) := cv_num (by decide +kernel)
  have npi : Num wPi (cv wPi) := cv_num (by decide +kernel)
  have l1 := div_lt63 hx (by decide +kernel) n1 nt (by decide +kernel) h1
  have ht : Reads wTurn false 8388608000000000 (-23) := by unfold Reads; decide +kernel
  have tv : rv false 8388608000000000 (-23) = 1000000000 := by decide +kernel
  obtain ⟨s, m, i, r1, r2⟩ := n1
  have dv : X / 1000000000 = X * (1 / 1000000000) := by rw [Rat.div_def, Rat.div_def]; grind
  have p1 : p2 ((1 : Nat) : Int) = 2 := by decide +kernel
  have u54 : p2 (((1 : Nat) : Int) - 54) ≤ 12 / 100000000000000000 := by decide +kernel
  have n54 := Rat.le_of_lt (p2_pos (((1 : Nat) : Int) - 54))
  obtain ⟨q1', d1, d2⟩ := div_val 1 (by omega) r1 ht (by decide) (by rw [tv, r2, dv, p1]; grind) (by rw [tv, r2, dv, p1]; grind)
  rw [h1] at d1
  obtain rfl := Option.some.inj d1
  obtain ⟨Q1, c1, c2, c3⟩ := d2.num
  rw [tv, r2, dv] at c2 c3
  have l2 := mul_lt63 l1 (by decide +kernel) c1 n2w h2
  have p3 : p2 ((3 : Nat) : Int) = 8 := by decide +kernel
  have u53 : p2 (((1 : Nat) : Int) - 53) ≤ 23 / 100000000000000000 := by decide +kernel
  have n53 := Rat.le_of_lt (p2_pos (((1 : Nat) : Int) - 53))
  have e2w : cv wTwo = 2 := by decide +kernel
  obtain ⟨q2', k1, k2⟩ := mul_ap 2 2 3 (by omega) c1.ap n2w.ap (by grind) (by grind) (by rw [e2w]; grind) (by rw [e2w]; grind) (by rw [p3]; grind)
  rw [h2] at k1
  obtain rfl := Option.some.inj k1
  obtain ⟨Q2, b1, b2, b3⟩ := k2.num
  exact mul_lt63 l2 (by decide +kernel) b1 npi h3
/-- The sine of an angle from 0 to 7 is at most 1. -/
theorem sin_bd {X : Rat} (h0 : 0 ≤ X) (h7 : X ≤ 7) : S X ≤ 1 + 1 / 10 ^ 17 ∧ -(1 + 1 / 10 ^ 17) ≤ S X := by
  have pb : piQ ≤ 31416 / 10000 ∧ 31415 / 10000 ≤ piQ := by decide +kernel
  have t : (1 : Rat) / 10 ^ 18 + 1 / 10 ^ 18 ≤ 1 / 10 ^ 17 := by decide +kernel
  have t0 : (0 : Rat) ≤ 1 / 10 ^ 18 := by decide +kernel
  have key : ∀ Z : Rat, rabs Z ≤ 393/500 → (X = Z ∨ X = Z + piQ / 2 ∨ X = Z + piQ ∨ X = Z + 3 * piQ / 2 ∨ X = Z + 2 * piQ) → S X ≤ 1 + 1 / 10 ^ 17 ∧ -(1 + 1 / 10 ^ 17) ≤ S X := by
    intro Z hz hX
    obtain ⟨⟨q11, q12⟩, ⟨q21, q22⟩, ⟨q31, q32⟩, q41, q42⟩ := quart hz
    obtain ⟨⟨sb1, sb2⟩, cb1, cb2⟩ := sin_cos_le (y := Z) (by grind)
    generalize (1 : Rat) / 10 ^ 18 = d at *
    generalize (1 : Rat) / 10 ^ 17 = d' at *
    rcases hX with rfl | rfl | rfl | rfl | rfl <;> constructor <;> grind
  rcases (show X ≤ 786/1000 ∨ (785/1000 ≤ X ∧ X ≤ 2356/1000) ∨ (2356/1000 ≤ X ∧ X ≤ 3927/1000) ∨ (3927/1000 ≤ X ∧ X ≤ 5498/1000) ∨ 5498/1000 ≤ X by grind) with h | h | h | h | h
  · exact key X (rabs_le.2 (by constructor <;> grind)) (.inl rfl)
  · exact key (X - piQ / 2) (rabs_le.2 (by constructor <;> grind)) (.inr (.inl (by grind)))
  · exact key (X - piQ) (rabs_le.2 (by constructor <;> grind)) (.inr (.inr (.inl (by grind))))
  · exact key (X - 3 * piQ / 2) (rabs_le.2 (by constructor <;> grind)) (.inr (.inr (.inr (.inl (by grind)))))
  · exact key (X - 2 * piQ) (rabs_le.2 (by constructor <;> grind)) (.inr (.inr (.inr (.inr (by grind)))))
/-- The sine of an angle that is known up to a small error. -/
theorem sinU_run {x : Nat} {A e : Rat} (hx : Ap x A e) (x63 : x < 9223372036854775808) (a0 : 0 ≤ A) (a1 : A ≤ 1000000000) (he : e ≤ 3 / 10000000) :
    ∃ q Y, RadP x q ∧ q < 9223372036854775808 ∧ Num q Y ∧ (q = 0 ∨ 0 < Y) ∧ 0 ≤ 2 * piQ * A / 1000000000 ∧ 2 * piQ * A / 1000000000 ≤ 7 ∧ Ap q (2 * piQ * A / 1000000000) (7 / 1000000000000000) ∧ Ap (sinW q) (S (2 * piQ * A / 1000000000)) (25 / 1000000000000000) := by
  obtain ⟨q, r1, r2⟩ := rad_run hx a0 a1 he
  have hq := rad_lt63 x63 hx a0 a1 he r1
  obtain ⟨Y, n1, n2, n3⟩ := r2.num
  have y0 := num_nn hq n1
  have hA : 2 * piQ * A / 1000000000 = A * (2 * piQ / 1000000000) := by simp only [Rat.div_def]; grind
  have cb : 0 ≤ 2 * piQ / 1000000000 ∧ 2 * piQ / 1000000000 ≤ 7 / 1000000000 := by decide +kernel
  have b0 : 0 ≤ 2 * piQ * A / 1000000000 := by rw [hA]; exact Rat.mul_nonneg a0 cb.1
  have b1 : 2 * piQ * A / 1000000000 ≤ 7 := by
    rw [hA]
    have m1 := Rat.mul_le_mul_of_nonneg_left cb.2 a0
    grind
  refine ⟨q, Y, r1, hq, n1, y0, b0, b1, r2, ?_⟩
  rcases y0 with h | h
  · subst h
    exact sinW_zero r2 (by grind)
  · obtain ⟨t, j, hh, z, ys, yc, -, -, -, -, -, -, -, -, hs⟩ := sin_run n1 h r2 b0 b1 (by grind)
    exact hs
def clipL (l : Int) : Int := min (max l (-1000000000)) 1000000000
def clipH (h : Int) : Int := max (min h 1000000000) (-1000000000)
/-- The word of a billion times the sine of an angle. -/
def sineV (a : Int) : Nat := fmul wTurn (sinW (radW (fofI a)))
def sineLo (a : Int) : Int := if a % 1000000000 = 0 ∨ a % 1000000000 = 500000000 then 0 else if a % 1000000000 = 250000000 then 1000000000 else if a % 1000000000 = 750000000 then -1000000000 else clipL (arLo (sineV (a % 1000000000)))
def sineHi (a : Int) : Int := if a % 1000000000 = 0 ∨ a % 1000000000 = 500000000 then 0 else if a % 1000000000 = 250000000 then 1000000000 else if a % 1000000000 = 750000000 then -1000000000 else clipH (arHi (sineV (a % 1000000000)))
/-- The angle of a number of units. -/
def angU (a : Int) : Rat := 2 * piQ * (a : Rat) / 1000000000
theorem fofI_lt63 (n : Int) (h : 0 ≤ n) : fofI n < 9223372036854775808 := by
  unfold fofI
  rw [decide_eq_false (by omega)]
  exact nearest_lt63 _ _
/-- What trig.sine runs through off the quarters. -/
theorem sine_run (a : Int) (a0 : 0 ≤ a) (a1 : a ≤ 999999999) :
    ∃ q Y v s1 s2 X1 X2, RadP (fofI a) q ∧ q < 9223372036854775808 ∧ Num q Y ∧ (q = 0 ∨ 0 < Y) ∧ 0 ≤ angU a ∧ angU a ≤ 7 ∧ Ap q (angU a) (7 / 1000000000000000) ∧ double.mul wTurn (sinW q) = some v ∧ v = sineV a ∧
      double.sub v wSl = some s1 ∧ double.add v wSl = some s2 ∧ Num s1 X1 ∧ Num s2 X2 ∧ (double.read (fflr s1)).toInt .zero = some (arLo v) ∧ (double.read (fcei s2)).toInt .zero = some (arHi v) ∧
      -4000000000000000 ≤ arLo v ∧ arLo v ≤ 4000000000000000 ∧ -4000000000000000 ≤ arHi v ∧ arHi v ≤ 4000000000000000 ∧
      (arLo v : Rat) ≤ 1000000000 * S (angU a) - 9 / 10000 ∧ 1000000000 * S (angU a) - 11 / 10000 < (arLo v : Rat) + 1 ∧ 1000000000 * S (angU a) + 9 / 10000 ≤ (arHi v : Rat) ∧ (arHi v : Rat) < 1000000000 * S (angU a) + 11 / 10000 + 1 := by
  have hn := fofI_num a (by omega) (by omega)
  have r0 : (0 : Rat) ≤ (a : Rat) := by exact_mod_cast a0
  have r1 : (a : Rat) ≤ 1000000000 := by
    have := Rat.intCast_le_intCast.2 a1
    have e : ((999999999 : Int) : Rat) = 999999999 := rfl
    rw [e] at this
    grind
  obtain ⟨q, Y, q1, q2, q3, q4, q5, q6, q7, q8⟩ := sinU_run hn.ap (fofI_lt63 a a0) r0 r1 (by grind)
  have nt := cv_ap (show isNum wTurn = true by decide +kernel)
  have et : cv wTurn = 1000000000 := by decide +kernel
  rw [et] at nt
  have p31 : p2 ((31 : Nat) : Int) = 2147483648 := by decide +kernel
  have u31 : p2 (((31 : Nat) : Int) - 53) ≤ 3 / 10000000 := by decide +kernel
  have sy : S (angU a) ≤ 3/2 ∧ -(3/2) ≤ S (angU a) := by
    have hq := sin_bd q5 q6
    have t : (1 : Rat) / 10 ^ 17 ≤ 1 / 4 := by decide +kernel
    unfold angU
    constructor <;> grind
  change Ap (sinW q) (S (angU a)) _ at q8
  obtain ⟨v, v1, v2⟩ := mul_ap 1000000000 (3/2) 31 (by omega) nt q8 (by grind) (by grind) sy.1 sy.2 (by rw [p31]; grind)
  have v3 := v2.mono (e' := 26 / 1000000) (by grind)
  obtain ⟨s1, s2, X1, X2, g1, g2, g3, g4, g5, g6, g7, g8, g9, g10, g11, g12, g13, g14⟩ := around_run 31 (by omega) v3 (by rw [p31]; grind) (by rw [p31]; grind)
  have t18 : (1 : Rat) / 10 ^ 18 ≤ 1 / 1000000000 := by decide +kernel
  generalize (1 : Rat) / 10 ^ 18 = d at *
  refine ⟨q, Y, v, s1, s2, X1, X2, q1, q2, q3, q4, q5, q6, q7, v1, ?_, g1, g2, g3, g4, g5, g6, g7, g8, g9, g10, by grind, by grind, by grind, by grind⟩
  unfold sineV
  rw [radW_of q1, fmul_of v1]
end Go.Proofs.YtffnmfcaoldlhaaDoor
