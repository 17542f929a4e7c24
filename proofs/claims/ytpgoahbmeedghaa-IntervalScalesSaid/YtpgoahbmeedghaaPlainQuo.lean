/- The least interval of quotients. No program in sight. -/
import Derived.Test.YtpgoahbmeedghaaPlainMul
set_option linter.unusedVariables false
set_option linter.unusedSimpArgs false
namespace Go.Proofs.Ytpgoahbmeedghaa
theorem rat_unit {a d : Int} (a1 : -1000000000000000000 ≤ a) (a2 : a ≤ 1000000000000000000) (d1 : 1 ≤ d) : ratLo a 1 d = a / d ∧ ratHi a 1 d = -((-a) / d) := by
  have hL : LIM = 1000000000000000001 := rfl
  have hone : absI a * absI 1 = absI a := by rw [show absI 1 = 1 from rfl, Int.mul_one]
  have hA := absI_bd a1 a2
  have hA0 := absI_nn a
  have hq : absI a / d ≤ 1000000000000000000 := Int.le_trans (Int.ediv_le_self d hA0) hA
  have e1 := Int.emod_nonneg (absI a) (show d ≠ 0 by omega)
  have e2 := Int.emod_lt_of_pos (absI a) (show 0 < d by omega)
  have e3 := Int.emod_add_mul_ediv (absI a) d
  have hd : qDn (absI a) d = absI a / d := by unfold qDn; rw [if_neg (by omega)]
  have hup : qUp (absI a) d = -((-(absI a)) / d) := by
    unfold qUp
    rw [if_neg (by omega)]
    by_cases hr : 0 < absI a % d
    · rw [if_pos hr]
      have : (-(absI a)) / d = -(absI a / d) - 1 := by
        have h := Int.add_mul_ediv_left (d - absI a % d) (-(absI a / d) - 1) (show d ≠ 0 by omega)
        have h0 : (d - absI a % d) / d = 0 := Int.ediv_eq_zero_of_lt (by omega) (by omega)
        have e : -(absI a) = d - absI a % d + d * (-(absI a / d) - 1) := by rw [Int.mul_sub, Int.mul_neg, Int.mul_one]; omega
        rw [h0] at h
        rw [← e] at h
        omega
      omega
    · rw [if_neg hr]
      have : (-(absI a)) / d = -(absI a / d) := by
        have h := Int.add_mul_ediv_left 0 (-(absI a / d)) (show d ≠ 0 by omega)
        have e : -(absI a) = 0 + d * -(absI a / d) := by rw [Int.mul_neg]; omega
        rw [Int.zero_ediv, ← e] at h
        omega
      omega
  by_cases ha : a < 0
  · have hneg : negB a 1 = true := by unfold negB; simp [ha]
    rw [ratLo_neg hneg, ratHi_neg hneg, hone, hd, hup, absI_neg ha, Int.neg_neg, Int.neg_neg]
    exact ⟨rfl, rfl⟩
  · have hneg : negB a 1 = false := by unfold negB; simp [ha]
    rw [ratLo_pos hneg, ratHi_pos hneg, hone, hd, hup, absI_pos ha]
    exact ⟨rfl, rfl⟩
/-- lo is the floor of a / d. -/
theorem floor_bd {a d : Int} (d1 : 1 ≤ d) : a / d * d ≤ a ∧ a < (a / d + 1) * d := by
  have e1 := Int.emod_nonneg a (show d ≠ 0 by omega)
  have e2 := Int.emod_lt_of_pos a (show 0 < d by omega)
  have e3 := Int.emod_add_mul_ediv a d
  rw [Int.add_mul, Int.mul_comm (a / d) d]; omega
theorem ceil_bd {a d : Int} (d1 : 1 ≤ d) : a ≤ -((-a) / d) * d ∧ (-((-a) / d) - 1) * d < a := by
  have ⟨h1, h2⟩ := floor_bd (a := -a) d1
  rw [Int.sub_mul, Int.neg_mul]
  rw [Int.add_mul] at h2
  omega
/-- The four quotients of x ≤ y by 0 < u ≤ v. -/
structure QuoOk (x y u v s t : Int) : Prop where
  le : ∀ i k, i < 2 → k < 2 → s * two u v k ≤ two x y i
  ge : ∀ i k, i < 2 → k < 2 → two x y i ≤ t * two u v k
  low : ∃ i k, i < 2 ∧ k < 2 ∧ two x y i < (s + 1) * two u v k
  high : ∃ i k, i < 2 ∧ k < 2 ∧ (t - 1) * two u v k < two x y i
  s1 : -1000000000000000000 ≤ s
  s2 : s ≤ 1000000000000000000
  t1 : -1000000000000000000 ≤ t
  t2 : t ≤ 1000000000000000000
theorem quo_lt2 {i : Nat} (h : i < 2) : i = 0 ∨ i = 1 := by omega
theorem mul_mono_pos {s u v : Int} (hs : 0 ≤ s) (h : u ≤ v) : s * u ≤ s * v := Int.mul_le_mul_of_nonneg_left h hs
theorem mul_mono_neg {s u v : Int} (hs : s ≤ 0) (h : u ≤ v) : s * v ≤ s * u := by
  have := Int.mul_le_mul_of_nonneg_left h (show 0 ≤ -s by omega)
  rw [Int.neg_mul, Int.neg_mul] at this; omega
theorem quo_bd {a d : Int} (a1 : -1000000000000000000 ≤ a) (a2 : a ≤ 1000000000000000000) (d1 : 1 ≤ d) : -1000000000000000000 ≤ a / d ∧ a / d ≤ 1000000000000000000 := by
  have ⟨h1, h2⟩ := floor_bd (a := a) d1
  constructor
  · by_cases h : 0 ≤ a
    · have := Int.ediv_nonneg h (show 0 ≤ d by omega); omega
    · have h3 : a / d + 1 ≤ 0 ∨ 1 ≤ a / d + 1 := by omega
      rcases h3 with h3 | h3
      · have := mul_mono_neg h3 d1; omega
      · omega
  · by_cases h : 0 ≤ a
    · exact Int.le_trans (Int.ediv_le_self d h) a2
    · have : a / d < 0 := Int.ediv_neg_of_neg_of_pos (by omega) (by omega)
      omega
theorem quo_ok {x y u v : Int} (hx : -1000000000000000000 ≤ x) (hxy : x ≤ y) (hy : y ≤ 1000000000000000000) (hu : 1 ≤ u) (huv : u ≤ v) :
    QuoOk x y u v (if 0 ≤ x then ratLo x 1 v else ratLo x 1 u) (if y < 0 then ratHi y 1 v else ratHi y 1 u) := by
  rw [(rat_unit hx (by omega) (show 1 ≤ v by omega)).1, (rat_unit hx (by omega) hu).1, (rat_unit (by omega) hy (show 1 ≤ v by omega)).2, (rat_unit (by omega) hy hu).2]
  have f1 := floor_bd (a := x) (d := v) (by omega)
  have f2 := floor_bd (a := x) hu
  have g1 := ceil_bd (a := y) (d := v) (by omega)
  have g2 := ceil_bd (a := y) hu
  have b1 := quo_bd hx (show x ≤ 1000000000000000000 by omega) (show 1 ≤ v by omega)
  have b2 := quo_bd hx (show x ≤ 1000000000000000000 by omega) hu
  have b3 := quo_bd (a := -y) (by omega) (by omega) (show 1 ≤ v by omega)
  have b4 := quo_bd (a := -y) (by omega) (by omega) hu
  have hlow : ∀ s, (0 ≤ x ∧ s = x / v) ∨ (x < 0 ∧ s = x / u) → (∀ i k, i < 2 → k < 2 → s * two u v k ≤ two x y i) ∧ ∃ i k, i < 2 ∧ k < 2 ∧ two x y i < (s + 1) * two u v k := by
    rintro s (⟨h, rfl⟩ | ⟨h, rfl⟩)
    · have h0 := Int.ediv_nonneg h (show 0 ≤ v by omega)
      have h1 := mul_mono_pos h0 huv
      refine ⟨fun i k hi hk => ?_, ⟨0, 1, by omega, by omega, f1.2⟩⟩
      rcases quo_lt2 hi with rfl | rfl <;> rcases quo_lt2 hk with rfl | rfl <;> (simp [two]; omega)
    · have h0 : x / u < 0 := Int.ediv_neg_of_neg_of_pos h (by omega)
      have h1 := mul_mono_neg (show x / u ≤ 0 by omega) huv
      refine ⟨fun i k hi hk => ?_, ⟨0, 0, by omega, by omega, f2.2⟩⟩
      rcases quo_lt2 hi with rfl | rfl <;> rcases quo_lt2 hk with rfl | rfl <;> (simp [two]; omega)
  have hhigh : ∀ t, (y < 0 ∧ t = -((-y) / v)) ∨ (0 ≤ y ∧ t = -((-y) / u)) → (∀ i k, i < 2 → k < 2 → two x y i ≤ t * two u v k) ∧ ∃ i k, i < 2 ∧ k < 2 ∧ (t - 1) * two u v k < two x y i := by
    rintro t (⟨h, rfl⟩ | ⟨h, rfl⟩)
    · have h0 : 0 ≤ (-y) / v := Int.ediv_nonneg (by omega) (by omega)
      have h1 := mul_mono_neg (show -((-y) / v) ≤ 0 by omega) huv
      refine ⟨fun i k hi hk => ?_, ⟨1, 1, by omega, by omega, g1.2⟩⟩
      rcases quo_lt2 hi with rfl | rfl <;> rcases quo_lt2 hk with rfl | rfl <;> (simp only [two, if_pos, if_neg, Nat.one_ne_zero, if_false, if_true]; omega)
    · have h0 : (-y) / u ≤ 0 := by
        by_cases q : y = 0
        · subst q; simp
        · have : (-y) / u < 0 := Int.ediv_neg_of_neg_of_pos (by omega) (by omega)
          omega
      have h1 := mul_mono_pos (show 0 ≤ -((-y) / u) by omega) huv
      refine ⟨fun i k hi hk => ?_, ⟨1, 0, by omega, by omega, g2.2⟩⟩
      rcases quo_lt2 hi with rfl | rfl <;> rcases quo_lt2 hk with rfl | rfl <;> (simp only [two, if_pos, if_neg, Nat.one_ne_zero, if_false, if_true]; omega)
  by_cases c1 : 0 ≤ x <;> by_cases c2 : y < 0
  · omega
  · rw [if_pos c1, if_neg c2]
    obtain ⟨p1, p2⟩ := hlow _ (.inl ⟨c1, rfl⟩)
    obtain ⟨q1, q2⟩ := hhigh _ (.inr ⟨by omega, rfl⟩)
    exact ⟨p1, q1, p2, q2, by omega, by omega, by omega, by omega⟩
  · rw [if_neg c1, if_pos c2]
    obtain ⟨p1, p2⟩ := hlow _ (.inr ⟨by omega, rfl⟩)
    obtain ⟨q1, q2⟩ := hhigh _ (.inl ⟨c2, rfl⟩)
    exact ⟨p1, q1, p2, q2, by omega, by omega, by omega, by omega⟩
  · rw [if_neg c1, if_neg c2]
    obtain ⟨p1, p2⟩ := hlow _ (.inr ⟨by omega, rfl⟩)
    obtain ⟨q1, q2⟩ := hhigh _ (.inr ⟨by omega, rfl⟩)
    exact ⟨p1, q1, p2, q2, by omega, by omega, by omega, by omega⟩
end Go.Proofs.Ytpgoahbmeedghaa
