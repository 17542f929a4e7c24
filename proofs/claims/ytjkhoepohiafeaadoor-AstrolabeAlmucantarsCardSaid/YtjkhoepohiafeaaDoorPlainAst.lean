/- The astrolabe's distances as functions of words. No program in sight. -/
import Derived.Test.YtjkhoepohiafeaaDoorPlainCos
import Derived.Test.YtjkhoepohiafeaaDoorTrC
import Derived.Test.YtjkhoepohiafeaaDoorPlainPlo
set_option linter.unusedVariables false
set_option linter.unusedSimpArgs false
namespace Go.Proofs.YtjkhoepohiafeaaDoor
open Ieee
/-- The words of the sine and the cosine of an angle. -/
def sinA (a : Int) : Nat := if a < 0 then fneg (sinW (fneg (radA a))) else sinW (radA a)
def cosA (a : Int) : Nat := cosW (radA a % 9223372036854775808)
theorem angU_le {a b : Int} (h : a ≤ b) : angU a ≤ angU b := by rw [angU_tq, angU_tq]; exact tq_le (icast h)
theorem angU_neg (a : Int) : angU (-a) = -angU a := by rw [angU_tq, angU_tq]; push_cast; grind
theorem abs_word {x : Nat} (hx : x < 18446744073709551616) : (x < 9223372036854775808 ∧ x % 9223372036854775808 = x) ∨ (9223372036854775808 ≤ x ∧ x % 9223372036854775808 = fneg x) := by
  by_cases h : x < 9223372036854775808
  · exact .inl ⟨h, Nat.mod_eq_of_lt h⟩
  · refine .inr ⟨by omega, ?_⟩
    have e := xor63 x
    unfold fneg
    have lt : x ^^^ 9223372036854775808 < 18446744073709551616 := Nat.xor_lt_two_pow (n := 64) hx (by decide)
    omega
/-- The number of the word without its sign. -/
theorem abs_ap {x : Nat} {X e : Rat} (hx : x < 18446744073709551616) (h : Ap x X e) : Ap (x % 9223372036854775808) (rabs X) e := by
  obtain ⟨Y, n, h1, h2⟩ := h.num
  have ha := (abs_num n hx).ap
  have e0 := h.pos
  refine (ha.move (Y := rabs X) (d := e) ?_ ?_).mono (by grind)
  · have := rabs_le.1 (show rabs X ≤ rabs X from Rat.le_refl)
    have t : rabs Y ≤ rabs X + e := rabs_le.2 ⟨by grind, by grind⟩
    grind
  · have := rabs_le.1 (show rabs Y ≤ rabs Y from Rat.le_refl)
    have t : rabs X ≤ rabs Y + e := rabs_le.2 ⟨by grind, by grind⟩
    grind
theorem C_abs (x : Rat) : C (rabs x) = C x := by
  by_cases h : 0 ≤ x
  · rw [rabs_pos h]
  · have : rabs x = -x := by rw [← rabs_neg]; exact rabs_pos (by grind)
    rw [this, C_neg]
theorem cosA_ap {a : Int} (h0 : -1000000000 ≤ a) (h1 : a ≤ 1000000000) : Ap (cosA a) (C (angU a)) (6 / 10000000000000) := by
  obtain ⟨q, Y, w⟩ := angW_ex a h0 h1
  have ha := abs_ap w.lt w.ap
  have lim : rabs (angU a) ≤ 7 := by
    have l := angU_le h0
    have u := angU_le h1
    have b : angU 1000000000 ≤ 7 ∧ -7 ≤ angU (-1000000000) := by decide +kernel
    exact rabs_le.2 ⟨by grind, by grind⟩
  obtain ⟨t, j, h, z, ys, yc, -, -, -, -, -, -, -, -, hk⟩ := cos_run ha (rabs_nonneg _) lim (by decide +kernel)
  rw [C_abs] at hk
  unfold cosA
  rw [w.e]
  exact hk
theorem sinA_ap {a : Int} (h0 : -200000000 ≤ a) (h1 : a ≤ 1000000000) : Ap (sinA a) (S (angU a)) (25 / 1000000000000000) := by
  obtain ⟨q, Y, w⟩ := angW_ex a (by omega) h1
  unfold sinA
  rw [w.e]
  by_cases hn : a < 0
  · rw [if_pos hn]
    have l := angU_le h0
    have u := angU_le (show a ≤ -1 by omega)
    have b : angU (-1) ≤ -(6 / 1000000000) ∧ -(13/10) ≤ angU (-200000000) := by decide +kernel
    have hf := fneg_num w.n
    have y0 : 0 < -Y := by
      obtain ⟨Z, n, h2, h3⟩ := w.ap.num
      have := w.n.uniq n
      grind
    obtain ⟨t, j, h, z, ys, yc, -, -, -, -, -, -, -, -, hk⟩ := sin_run hf y0 (fneg_ap w.ap) (by grind) (by grind) (by decide +kernel)
    have := fneg_ap hk
    rw [S_neg] at this
    rw [show - -S (angU a) = S (angU a) by grind] at this
    exact this
  · rw [if_neg hn]
    have l := angU_le (show 0 ≤ a by omega)
    have u := angU_le h1
    have b : angU 0 = 0 ∧ angU 1000000000 ≤ 7 := by decide +kernel
    have q63 : q < 9223372036854775808 := by
      have hx63 := fofI_lt63 a (by omega)
      have hn := fofI_num a (by omega) (by omega)
      have r0 : (0 : Rat) ≤ (a : Rat) := by exact_mod_cast (show 0 ≤ a by omega)
      have r1 := icast h1
      have c1 : ((1000000000 : Int) : Rat) = 1000000000 := rfl
      rw [c1] at r1
      exact rad_lt63 hx63 hn.ap r0 r1 (by decide +kernel) w.r
    rcases num_nn q63 w.n with h | h
    · subst h
      exact sinW_zero w.ap (by decide +kernel)
    · obtain ⟨t, j, hh, z, ys, yc, -, -, -, -, -, -, -, -, hs⟩ := sin_run w.n h w.ap (by grind) (by grind) (by decide +kernel)
      exact hs
/-- A quotient of two numbers that are known nearly. -/
theorem quo_ap {x y : Nat} {X Y a b M d : Rat} (K : Nat) (hK : K ≤ 900) (hx : Ap x X a) (hy : Ap y Y b) (d0 : 0 < d) (hd : d ≤ Y - b) (hM : rabs X ≤ M * Y) (M0 : 0 ≤ M) (hb : M + (a + M * b) / d + p2 (K - 54) ≤ p2 K) :
    ∃ r, double.div x y = some r ∧ Ap r (X / Y) ((a + M * b) / d + p2 (K - 54) + p2 (K - 53)) := by
  have a0 := hx.pos
  have b0 := hy.pos
  obtain ⟨s, m, i, h1, h2, h3⟩ := hx
  obtain ⟨t, n, j, g1, g2, g3⟩ := hy
  generalize hX : rv s m i = X1 at *
  generalize hY : rv t n j = Y1 at *
  have y1 : d ≤ Y1 := by grind
  have yy : 0 < Y := by grind
  have n0 : n ≠ 0 := by
    intro q
    subst q
    unfold rv at hY
    simp at hY
    grind
  -- how far the quotients are from each other
  have e1 : X1 / Y1 * Y1 = X1 := Rat.div_mul_cancel (by grind)
  have e2 : X / Y * Y = X := Rat.div_mul_cancel (by grind)
  have hMq : rabs (X / Y) ≤ M := by
    have k := rabs_le.1 hM
    rw [rabs_le]
    constructor
    · refine Rat.le_of_mul_le_mul_right (c := Y) ?_ yy
      rw [e2]; exact k.1
    · refine Rat.le_of_mul_le_mul_right (c := Y) ?_ yy
      rw [e2]; grind
  have e3 : (X1 / Y1 - X / Y) * Y1 = (X1 - X) - X / Y * (Y1 - Y) := by grind
  have e4 : (a + M * b) / d * d = a + M * b := Rat.div_mul_cancel (by grind)
  have mb := rabs_le.1 (mul_rabs hMq (show rabs (Y1 - Y) ≤ b from rabs_le.2 ⟨by grind, by grind⟩))
  have q0 : 0 ≤ (a + M * b) / d := by
    refine Rat.le_of_mul_le_mul_right (c := d) ?_ d0
    have := Rat.mul_nonneg M0 b0
    rw [e4]; grind
  have m1 := Rat.mul_le_mul_of_nonneg_left y1 q0
  have close : rabs (X1 / Y1 - X / Y) ≤ (a + M * b) / d := by
    rw [rabs_le]
    constructor
    · refine Rat.le_of_mul_le_mul_right (c := Y1) ?_ (by grind)
      rw [e3]; grind
    · refine Rat.le_of_mul_le_mul_right (c := Y1) ?_ (by grind)
      rw [e3]; grind
  have close := rabs_le.1 close
  have hMq := rabs_le.1 hMq
  obtain ⟨r, r1, r2⟩ := div_val K hK h1 g1 n0 (by rw [hX, hY]; grind) (by rw [hX, hY]; grind)
  rw [hX, hY] at r2
  exact ⟨r, r1, (r2.move (Y := X / Y) (d := (a + M * b) / d) (by grind) (by grind)).mono (by grind)⟩
end Go.Proofs.YtjkhoepohiafeaaDoor
