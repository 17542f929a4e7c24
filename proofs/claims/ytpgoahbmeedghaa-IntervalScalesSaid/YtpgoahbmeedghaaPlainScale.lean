/- The least interval around scaled numbers. No program in sight. -/
import Derived.Test.YtpgoahbmeedghaaPlainQuo
set_option linter.unusedVariables false
set_option linter.unusedSimpArgs false
namespace Go.Proofs.Ytpgoahbmeedghaa
def rl (X d : Int) : Int := if X < 0 then -(qUp (-X) d) else qDn X d
def rh (X d : Int) : Int := if X < 0 then -(qDn (-X) d) else qUp X d
theorem q_zero (d : Int) : qUp 0 d = 0 ∧ qDn 0 d = 0 := by
  have hL : LIM = 1000000000000000001 := rfl
  unfold qUp qDn
  rw [Int.zero_ediv, Int.zero_emod, if_neg (by omega), if_neg (by omega), if_neg (by omega)]
  exact ⟨rfl, rfl⟩
theorem rat_x (a b d : Int) : ratLo a b d = rl (a * b) d ∧ ratHi a b d = rh (a * b) d := by
  unfold rl rh
  by_cases ha : a < 0 <;> by_cases hb : b < 0
  · have hneg : negB a b = false := by unfold negB; simp [ha, hb]
    have hp : absI a * absI b = a * b := by rw [absI_neg ha, absI_neg hb, Int.neg_mul_neg]
    have h0 : 0 ≤ a * b := by rw [← hp]; exact Int.mul_nonneg (absI_nn _) (absI_nn _)
    rw [ratLo_pos hneg, ratHi_pos hneg, hp, if_neg (by omega), if_neg (by omega)]; exact ⟨rfl, rfl⟩
  · have hneg : negB a b = true := by unfold negB; simp [ha, hb]
    have hp : absI a * absI b = -(a * b) := by rw [absI_neg ha, absI_pos hb, Int.neg_mul]
    have h0 : a * b ≤ 0 := by have := Int.mul_nonneg (absI_nn a) (absI_nn b); omega
    rw [ratLo_neg hneg, ratHi_neg hneg, hp]
    by_cases hz : a * b = 0
    · rw [hz, if_neg (by omega), if_neg (by omega), Int.neg_zero, (q_zero d).1, (q_zero d).2]; exact ⟨rfl, rfl⟩
    · rw [if_pos (by omega), if_pos (by omega)]; exact ⟨rfl, rfl⟩
  · have hneg : negB a b = true := by unfold negB; simp [ha, hb]
    have hp : absI a * absI b = -(a * b) := by rw [absI_pos ha, absI_neg hb, Int.mul_neg]
    have h0 : a * b ≤ 0 := by have := Int.mul_nonneg (absI_nn a) (absI_nn b); omega
    rw [ratLo_neg hneg, ratHi_neg hneg, hp]
    by_cases hz : a * b = 0
    · rw [hz, if_neg (by omega), if_neg (by omega), Int.neg_zero, (q_zero d).1, (q_zero d).2]; exact ⟨rfl, rfl⟩
    · rw [if_pos (by omega), if_pos (by omega)]; exact ⟨rfl, rfl⟩
  · have hneg : negB a b = false := by unfold negB; simp [ha, hb]
    have hp : absI a * absI b = a * b := by rw [absI_pos ha, absI_pos hb]
    have h0 : 0 ≤ a * b := by rw [← hp]; exact Int.mul_nonneg (absI_nn _) (absI_nn _)
    rw [ratLo_pos hneg, ratHi_pos hneg, hp, if_neg (by omega), if_neg (by omega)]; exact ⟨rfl, rfl⟩
theorem q_bd {P d : Int} (hP : 0 ≤ P) (d1 : 1 ≤ d) : P / d * d ≤ P ∧ P < P / d * d + d ∧ P % d = P - P / d * d ∧ 0 ≤ P / d := by
  have e1 := Int.emod_nonneg P (show d ≠ 0 by omega)
  have e2 := Int.emod_lt_of_pos P (show 0 < d by omega)
  have e3 := Int.emod_add_mul_ediv P d
  have e4 := Int.ediv_nonneg hP (show 0 ≤ d by omega)
  rw [Int.mul_comm d] at e3
  refine ⟨by omega, by omega, by omega, e4⟩
theorem mul_lt_of {q d M : Int} (d1 : 1 ≤ d) (h : q * d ≤ M * d) : q ≤ M := by
  rcases (show M < q ∨ q ≤ M by omega) with g | g
  · have : (M + 1) * d ≤ q * d := Int.mul_le_mul_of_nonneg_right (by omega) (by omega)
    rw [Int.add_mul] at this; omega
  · exact g
/-- Down and up within the bounds. -/
theorem qDn_in {P d : Int} (hP : 0 ≤ P) (d1 : 1 ≤ d) (h : P ≤ 1000000000000000000 * d) : qDn P d * d ≤ P ∧ P < (qDn P d + 1) * d ∧ 0 ≤ qDn P d ∧ qDn P d ≤ 1000000000000000000 := by
  have hL : LIM = 1000000000000000001 := rfl
  obtain ⟨b1, b2, b3, b4⟩ := q_bd hP d1
  have hq : P / d ≤ 1000000000000000000 := mul_lt_of d1 (by omega)
  unfold qDn
  rw [if_neg (by omega)]
  rw [Int.add_mul]
  omega
theorem qUp_in {P d : Int} (hP : 0 ≤ P) (d1 : 1 ≤ d) (h : P ≤ 1000000000000000000 * d) : P ≤ qUp P d * d ∧ (qUp P d - 1) * d < P ∧ 0 ≤ qUp P d ∧ qUp P d ≤ 1000000000000000000 := by
  have hL : LIM = 1000000000000000001 := rfl
  obtain ⟨b1, b2, b3, b4⟩ := q_bd hP d1
  have hq : P / d ≤ 1000000000000000000 := mul_lt_of d1 (by omega)
  unfold qUp
  rw [if_neg (by omega)]
  by_cases hr : 0 < P % d
  · rw [if_pos hr]
    have : P / d ≠ 1000000000000000000 := fun e => by rw [e] at b3; omega
    rw [Int.sub_mul, Int.add_mul]; omega
  · rw [if_neg hr, Int.sub_mul]; omega
theorem qUp_out {P d : Int} (d1 : 1 ≤ d) (h : 1000000000000000000 * d < P) : qUp P d = LIM := by
  have hL : LIM = 1000000000000000001 := rfl
  obtain ⟨b1, b2, b3, b4⟩ := q_bd (P := P) (by omega) d1
  have hq : 1000000000000000000 ≤ P / d := by
    rcases (show (P / d) < 1000000000000000000 ∨ 1000000000000000000 ≤ (P / d) by omega) with g | g
    · have : (P / d + 1) * d ≤ 1000000000000000000 * d := Int.mul_le_mul_of_nonneg_right (by omega) (by omega)
      rw [Int.add_mul] at this; omega
    · exact g
  unfold qUp
  by_cases c : LIM ≤ P / d
  · rw [if_pos c]
  · rw [if_neg c]
    have e : P / d = 1000000000000000000 := by omega
    rw [e] at b3 ⊢
    rw [if_pos (by omega)]; rfl
theorem rl_in {X d : Int} (d1 : 1 ≤ d) (h1 : -1000000000000000000 * d ≤ X) (h2 : X ≤ 1000000000000000000 * d) : rl X d * d ≤ X ∧ X < (rl X d + 1) * d ∧ -1000000000000000000 ≤ rl X d ∧ rl X d ≤ 1000000000000000000 := by
  unfold rl
  by_cases c : X < 0
  · rw [if_pos c]
    obtain ⟨b1, b2, b3, b4⟩ := qUp_in (P := -X) (by omega) d1 (by omega)
    rw [Int.sub_mul] at b2
    rw [Int.add_mul, Int.neg_mul]; omega
  · rw [if_neg c]
    obtain ⟨b1, b2, b3, b4⟩ := qDn_in (P := X) (by omega) d1 (by omega)
    exact ⟨b1, b2, by omega, b4⟩
theorem rh_in {X d : Int} (d1 : 1 ≤ d) (h1 : -1000000000000000000 * d ≤ X) (h2 : X ≤ 1000000000000000000 * d) : X ≤ rh X d * d ∧ (rh X d - 1) * d < X ∧ -1000000000000000000 ≤ rh X d ∧ rh X d ≤ 1000000000000000000 := by
  unfold rh
  by_cases c : X < 0
  · rw [if_pos c]
    obtain ⟨b1, b2, b3, b4⟩ := qDn_in (P := -X) (by omega) d1 (by omega)
    rw [Int.add_mul] at b2
    rw [Int.sub_mul, Int.neg_mul]; omega
  · rw [if_neg c]
    obtain ⟨b1, b2, b3, b4⟩ := qUp_in (P := X) (by omega) d1 (by omega)
    exact ⟨b1, b2, by omega, b4⟩
theorem rl_out {X d : Int} (d1 : 1 ≤ d) (h : X < -1000000000000000000 * d) : rl X d = -LIM := by
  unfold rl
  rw [if_pos (by omega), qUp_out d1 (by omega)]
theorem rh_out {X d : Int} (d1 : 1 ≤ d) (h : 1000000000000000000 * d < X) : rh X d = LIM := by
  unfold rh
  rw [if_neg (by omega), qUp_out d1 h]
theorem rl_mono {X Y d : Int} (d1 : 1 ≤ d) (hx1 : -1000000000000000000 * d ≤ X) (hxy : X ≤ Y) (hy2 : Y ≤ 1000000000000000000 * d) : rl X d ≤ rl Y d := by
  obtain ⟨b1, b2, _⟩ := rl_in d1 hx1 (show X ≤ 1000000000000000000 * d by omega)
  obtain ⟨c1, c2, _⟩ := rl_in d1 (show -1000000000000000000 * d ≤ Y by omega) hy2
  rcases (show (rl Y d) < (rl X d) ∨ (rl X d) ≤ (rl Y d) by omega) with g | g
  · have : (rl Y d + 1) * d ≤ rl X d * d := Int.mul_le_mul_of_nonneg_right (by omega) (by omega)
    omega
  · exact g
theorem rh_mono {X Y d : Int} (d1 : 1 ≤ d) (hx1 : -1000000000000000000 * d ≤ X) (hxy : X ≤ Y) (hy2 : Y ≤ 1000000000000000000 * d) : rh X d ≤ rh Y d := by
  obtain ⟨b1, b2, _⟩ := rh_in d1 hx1 (show X ≤ 1000000000000000000 * d by omega)
  obtain ⟨c1, c2, _⟩ := rh_in d1 (show -1000000000000000000 * d ≤ Y by omega) hy2
  rcases (show (rh Y d) < (rh X d) ∨ (rh X d) ≤ (rh Y d) by omega) with g | g
  · have : rh Y d * d ≤ (rh X d - 1) * d := Int.mul_le_mul_of_nonneg_right (by omega) (by omega)
    omega
  · exact g
/-- The least and the greatest scaled number. -/
def scLo (al ah num : Int) : Int := if num < 0 then ah * num else al * num
def scHi (al ah num : Int) : Int := if num < 0 then al * num else ah * num
theorem sc_le {al ah num : Int} (h : al ≤ ah) : scLo al ah num ≤ scHi al ah num := by
  unfold scLo scHi
  by_cases c : num < 0
  · rw [if_pos c, if_pos c]
    have := Int.mul_le_mul_of_nonneg_right h (show 0 ≤ -num by omega)
    rw [Int.mul_neg, Int.mul_neg] at this; omega
  · rw [if_neg c, if_neg c]; exact Int.mul_le_mul_of_nonneg_right h (by omega)
structure ScaleOk (lo hi d s t : Int) : Prop where
  l1 : s * d ≤ lo
  l2 : lo < (s + 1) * d
  h1 : hi ≤ t * d
  h2 : (t - 1) * d < hi
  s1 : -1000000000000000000 ≤ s
  s2 : s ≤ 1000000000000000000
  t1 : -1000000000000000000 ≤ t
  t2 : t ≤ 1000000000000000000
theorem scale_in {al ah num d : Int} (d1 : 1 ≤ d) (hle : al ≤ ah) (h1 : -1000000000000000000 * d ≤ scLo al ah num) (h2 : scHi al ah num ≤ 1000000000000000000 * d) :
    ScaleOk (scLo al ah num) (scHi al ah num) d (min (min (min (ratLo al num d) (ratLo al num d)) (ratLo ah num d)) (ratLo ah num d)) (max (max (max (ratHi al num d) (ratHi al num d)) (ratHi ah num d)) (ratHi ah num d)) := by
  have hle' := sc_le (num := num) hle
  rw [(rat_x al num d).1, (rat_x ah num d).1, (rat_x al num d).2, (rat_x ah num d).2]
  have m1 := rl_mono d1 h1 hle' h2
  have m2 := rh_mono d1 h1 hle' h2
  obtain ⟨b1, b2, b3, b4⟩ := rl_in d1 h1 (show scLo al ah num ≤ 1000000000000000000 * d by omega)
  obtain ⟨c1, c2, c3, c4⟩ := rh_in d1 (show -1000000000000000000 * d ≤ scHi al ah num by omega) h2
  by_cases c : num < 0
  · have e1 : scLo al ah num = ah * num := by unfold scLo; rw [if_pos c]
    have e2 : scHi al ah num = al * num := by unfold scHi; rw [if_pos c]
    rw [e1, e2] at m1 m2
    rw [e1] at b1 b2 b3 b4
    rw [e2] at c1 c2 c3 c4
    rw [e1, e2]
    rw [show min (min (min (rl (al * num) d) (rl (al * num) d)) (rl (ah * num) d)) (rl (ah * num) d) = rl (ah * num) d by omega, show max (max (max (rh (al * num) d) (rh (al * num) d)) (rh (ah * num) d)) (rh (ah * num) d) = rh (al * num) d by omega]
    exact ⟨b1, b2, c1, c2, b3, b4, c3, c4⟩
  · have e1 : scLo al ah num = al * num := by unfold scLo; rw [if_neg c]
    have e2 : scHi al ah num = ah * num := by unfold scHi; rw [if_neg c]
    rw [e1, e2] at m1 m2
    rw [e1] at b1 b2 b3 b4
    rw [e2] at c1 c2 c3 c4
    rw [e1, e2]
    rw [show min (min (min (rl (al * num) d) (rl (al * num) d)) (rl (ah * num) d)) (rl (ah * num) d) = rl (al * num) d by omega, show max (max (max (rh (al * num) d) (rh (al * num) d)) (rh (ah * num) d)) (rh (ah * num) d) = rh (ah * num) d by omega]
    exact ⟨b1, b2, c1, c2, b3, b4, c3, c4⟩
theorem scale_out {al ah num d : Int} (d1 : 1 ≤ d) (h : scLo al ah num < -1000000000000000000 * d ∨ 1000000000000000000 * d < scHi al ah num) :
    min (min (min (ratLo al num d) (ratLo al num d)) (ratLo ah num d)) (ratLo ah num d) < -1000000000000000000 ∨ 1000000000000000000 < max (max (max (ratHi al num d) (ratHi al num d)) (ratHi ah num d)) (ratHi ah num d) := by
  have hL : LIM = 1000000000000000001 := rfl
  rw [(rat_x al num d).1, (rat_x ah num d).1, (rat_x al num d).2, (rat_x ah num d).2]
  unfold scLo scHi at h
  rcases h with h | h
  · left
    by_cases c : num < 0
    · rw [if_pos c] at h; have := rl_out d1 h; omega
    · rw [if_neg c] at h; have := rl_out d1 h; omega
  · right
    by_cases c : num < 0
    · rw [if_pos c] at h; have := rh_out d1 h; omega
    · rw [if_neg c] at h; have := rh_out d1 h; omega
end Go.Proofs.Ytpgoahbmeedghaa
