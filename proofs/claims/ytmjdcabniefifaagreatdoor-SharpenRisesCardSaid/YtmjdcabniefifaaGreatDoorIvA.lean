/- What package interval computes, in plain terms. No program in sight. Numbers of six digits of the base 10^9. No program in sight. The least and the greatest product. No program in sight. The least interval of quotients. No program in sight. The least interval around scaled numbers. No program in sight. -/
import Derived.Test.YtmjdcabniefifaaGreatDoorPlA
set_option linter.unusedVariables false
set_option linter.unusedSimpArgs false
namespace Go.Proofs.YtmjdcabniefifaaGreatDoor
section
def LIM : Int := 1000000000000000001
def absI (a : Int) : Int := if a < 0 then -a else a
theorem absI_nn (a : Int) : 0 ≤ absI a := by unfold absI; split <;> omega
theorem absI_neg {a : Int} (h : a < 0) : absI a = -a := by unfold absI; rw [if_pos h]
theorem absI_pos {a : Int} (h : ¬ a < 0) : absI a = a := by unfold absI; rw [if_neg h]
theorem absI_bd {a m : Int} (h1 : -m ≤ a) (h2 : a ≤ m) : absI a ≤ m := by unfold absI; split <;> omega
/-- The quotient, clipped, rounded down and up. -/
def qDn (P d : Int) : Int := if LIM ≤ P / d then LIM else P / d
def qUp (P d : Int) : Int := if LIM ≤ P / d then LIM else if 0 < P % d then P / d + 1 else P / d
def negB (a b : Int) : Bool := decide (a < 0) != decide (b < 0)
def ratLo (a b d : Int) : Int := if negB a b = true then -(qUp (absI a * absI b) d) else qDn (absI a * absI b) d
def ratHi (a b d : Int) : Int := if negB a b = true then -(qDn (absI a * absI b) d) else qUp (absI a * absI b) d
theorem ratLo_neg {a b d : Int} (h : negB a b = true) : ratLo a b d = -(qUp (absI a * absI b) d) := by unfold ratLo; rw [if_pos h]
theorem ratHi_neg {a b d : Int} (h : negB a b = true) : ratHi a b d = -(qDn (absI a * absI b) d) := by unfold ratHi; rw [if_pos h]
theorem ratLo_pos {a b d : Int} (h : negB a b = false) : ratLo a b d = qDn (absI a * absI b) d := by unfold ratLo; rw [if_neg (by rw [h]; simp)]
theorem ratHi_pos {a b d : Int} (h : negB a b = false) : ratHi a b d = qUp (absI a * absI b) d := by unfold ratHi; rw [if_neg (by rw [h]; simp)]
end
section
def pw : Nat → Int
  | 0 => 1
  | 1 => 1000000000
  | 2 => 1000000000000000000
  | 3 => 1000000000000000000000000000
  | 4 => 1000000000000000000000000000000000000
  | 5 => 1000000000000000000000000000000000000000000000
  | _ => 1000000000000000000000000000000000000000000000000000000
def stD (d : Nat → Int) (j : Nat) (v : Int) : Nat → Int := fun x => if x = j then v else d x
structure Dig (d : Nat → Int) : Prop where
  lo : ∀ i, i < 6 → 0 ≤ d i
  hi : ∀ i, i < 6 → d i < 1000000000
theorem Dig.set {d : Nat → Int} (h : Dig d) (j : Nat) (v : Int) (h0 : 0 ≤ v) (h1 : v < 1000000000) : Dig (stD d j v) :=
  ⟨fun i hi => by unfold stD; split; exact h0; exact h.lo i hi, fun i hi => by unfold stD; split; exact h1; exact h.hi i hi⟩
/-- The products that have been added up. -/
def rowS (a b : Nat → Int) (i : Nat) : Nat → Int
  | 0 => 0
  | k + 1 => rowS a b i k + a i * b k * pw (i + k)
def tot (a b : Nat → Int) : Nat → Int
  | 0 => 0
  | i + 1 => tot a b i + rowS a b i 3
end
section
def two (a b : Int) (i : Nat) : Int := if i = 0 then a else b
end
section

end
section
def rl (X d : Int) : Int := if X < 0 then -(qUp (-X) d) else qDn X d
def rh (X d : Int) : Int := if X < 0 then -(qDn (-X) d) else qUp X d
theorem q_zero (d : Int) : qUp 0 d = 0 ∧ qDn 0 d = 0 := by
  have hL : LIM = 1000000000000000001 := rfl
  unfold qUp qDn
  rw [Int.zero_ediv, Int.zero_emod, if_neg (by omega), if_neg (by omega), if_neg (by omega)]
  exact ⟨rfl, rfl⟩
theorem rat_x (a b d : Int) : ratLo a b d = rl (a * b) d ∧ ratHi a b d = rh (a * b) d := by
  unfold rl rh
  by_cases ha : a < 0 <;> by_cases hb : b < 0
  · have hneg : negB a b = false := by unfold negB; simp [ha, hb]
    have hp : absI a * absI b = a * b := by rw [absI_neg ha, absI_neg hb, Int.neg_mul_neg]
    have h0 : 0 ≤ a * b := by rw [← hp]; exact Int.mul_nonneg (absI_nn _) (absI_nn _)
    rw [ratLo_pos hneg, ratHi_pos hneg, hp, if_neg (by omega), if_neg (by omega)]; exact ⟨rfl, rfl⟩
  · have hneg : negB a b = true := by unfold negB; simp [ha, hb]
    have hp : absI a * absI b = -(a * b) := by rw [absI_neg ha, absI_pos hb, Int.neg_mul]
    have h0 : a * b ≤ 0 := by have := Int.mul_nonneg (absI_nn a) (absI_nn b); omega
    rw [ratLo_neg hneg, ratHi_neg hneg, hp]
    by_cases hz : a * b = 0
    · rw [hz, if_neg (by omega), if_neg (by omega), Int.neg_zero, (q_zero d).1, (q_zero d).2]; exact ⟨rfl, rfl⟩
    · rw [if_pos (by omega), if_pos (by omega)]; exact ⟨rfl, rfl⟩
  · have hneg : negB a b = true := by unfold negB; simp [ha, hb]
    have hp : absI a * absI b = -(a * b) := by rw [absI_pos ha, absI_neg hb, Int.mul_neg]
    have h0 : a * b ≤ 0 := by have := Int.mul_nonneg (absI_nn a) (absI_nn b); omega
    rw [ratLo_neg hneg, ratHi_neg hneg, hp]
    by_cases hz : a * b = 0
    · rw [hz, if_neg (by omega), if_neg (by omega), Int.neg_zero, (q_zero d).1, (q_zero d).2]; exact ⟨rfl, rfl⟩
    · rw [if_pos (by omega), if_pos (by omega)]; exact ⟨rfl, rfl⟩
  · have hneg : negB a b = false := by unfold negB; simp [ha, hb]
    have hp : absI a * absI b = a * b := by rw [absI_pos ha, absI_pos hb]
    have h0 : 0 ≤ a * b := by rw [← hp]; exact Int.mul_nonneg (absI_nn _) (absI_nn _)
    rw [ratLo_pos hneg, ratHi_pos hneg, hp, if_neg (by omega), if_neg (by omega)]; exact ⟨rfl, rfl⟩
theorem q_bd {P d : Int} (hP : 0 ≤ P) (d1 : 1 ≤ d) : P / d * d ≤ P ∧ P < P / d * d + d ∧ P % d = P - P / d * d ∧ 0 ≤ P / d := by
  have e1 := Int.emod_nonneg P (show d ≠ 0 by omega)
  have e2 := Int.emod_lt_of_pos P (show 0 < d by omega)
  have e3 := Int.emod_add_mul_ediv P d
  have e4 := Int.ediv_nonneg hP (show 0 ≤ d by omega)
  rw [Int.mul_comm d] at e3
  refine ⟨by omega, by omega, by omega, e4⟩
theorem mul_lt_of {q d M : Int} (d1 : 1 ≤ d) (h : q * d ≤ M * d) : q ≤ M := by
  rcases (show M < q ∨ q ≤ M by omega) with g | g
  · have : (M + 1) * d ≤ q * d := Int.mul_le_mul_of_nonneg_right (by omega) (by omega)
    rw [Int.add_mul] at this; omega
  · exact g
/-- Down and up within the bounds. -/
theorem qDn_in {P d : Int} (hP : 0 ≤ P) (d1 : 1 ≤ d) (h : P ≤ 1000000000000000000 * d) : qDn P d * d ≤ P ∧ P < (qDn P d + 1) * d ∧ 0 ≤ qDn P d ∧ qDn P d ≤ 1000000000000000000 := by
  have hL : LIM = 1000000000000000001 := rfl
  obtain ⟨b1, b2, b3, b4⟩ := q_bd hP d1
  have hq : P / d ≤ 1000000000000000000 := mul_lt_of d1 (by omega)
  unfold qDn
  rw [if_neg (by omega)]
  rw [Int.add_mul]
  omega
theorem qUp_in {P d : Int} (hP : 0 ≤ P) (d1 : 1 ≤ d) (h : P ≤ 1000000000000000000 * d) : P ≤ qUp P d * d ∧ (qUp P d - 1) * d < P ∧ 0 ≤ qUp P d ∧ qUp P d ≤ 1000000000000000000 := by
  have hL : LIM = 1000000000000000001 := rfl
  obtain ⟨b1, b2, b3, b4⟩ := q_bd hP d1
  have hq : P / d ≤ 1000000000000000000 := mul_lt_of d1 (by omega)
  unfold qUp
  rw [if_neg (by omega)]
  by_cases hr : 0 < P % d
  · rw [if_pos hr]
    have : P / d ≠ 1000000000000000000 := fun e => by rw [e] at b3; omega
    rw [Int.sub_mul, Int.add_mul]; omega
  · rw [if_neg hr, Int.sub_mul]; omega
theorem rl_in {X d : Int} (d1 : 1 ≤ d) (h1 : -1000000000000000000 * d ≤ X) (h2 : X ≤ 1000000000000000000 * d) : rl X d * d ≤ X ∧ X < (rl X d + 1) * d ∧ -1000000000000000000 ≤ rl X d ∧ rl X d ≤ 1000000000000000000 := by
  unfold rl
  by_cases c : X < 0
  · rw [if_pos c]
    obtain ⟨b1, b2, b3, b4⟩ := qUp_in (P := -X) (by omega) d1 (by omega)
    rw [Int.sub_mul] at b2
    rw [Int.add_mul, Int.neg_mul]; omega
  · rw [if_neg c]
    obtain ⟨b1, b2, b3, b4⟩ := qDn_in (P := X) (by omega) d1 (by omega)
    exact ⟨b1, b2, by omega, b4⟩
theorem rh_in {X d : Int} (d1 : 1 ≤ d) (h1 : -1000000000000000000 * d ≤ X) (h2 : X ≤ 1000000000000000000 * d) : X ≤ rh X d * d ∧ (rh X d - 1) * d < X ∧ -1000000000000000000 ≤ rh X d ∧ rh X d ≤ 1000000000000000000 := by
  unfold rh
  by_cases c : X < 0
  · rw [if_pos c]
    obtain ⟨b1, b2, b3, b4⟩ := qDn_in (P := -X) (by omega) d1 (by omega)
    rw [Int.add_mul] at b2
    rw [Int.sub_mul, Int.neg_mul]; omega
  · rw [if_neg c]
    obtain ⟨b1, b2, b3, b4⟩ := qUp_in (P := X) (by omega) d1 (by omega)
    exact ⟨b1, b2, by omega, b4⟩
end
end Go.Proofs.YtmjdcabniefifaaGreatDoor
