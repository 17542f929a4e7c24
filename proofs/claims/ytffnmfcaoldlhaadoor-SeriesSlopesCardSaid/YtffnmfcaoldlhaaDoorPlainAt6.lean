/- Signs of words. No program in sight. -/
import Derived.Test.YtffnmfcaoldlhaaDoorPlainAt5
set_option linter.unusedVariables false
set_option linter.unusedSimpArgs false
namespace Go.Proofs.YtffnmfcaoldlhaaDoor
open Ieee
theorem sign_neg {x : Nat} {X : Rat} (h : Num x X) (h0 : X < 0) : 9223372036854775808 ≤ x := by
  by_cases q : 9223372036854775808 ≤ x
  · exact q
  · exfalso
    obtain ⟨s, m, p, h1, h2⟩ := h
    have hs := sign_of (by omega) h1
    subst hs
    have := mp_nonneg m p
    unfold rv at h2
    simp at h2
    grind
theorem fneg_hi {x : Nat} (h : 9223372036854775808 ≤ x) (hx : x < 18446744073709551616) : fneg x = x - 9223372036854775808 := by
  unfold fneg
  have h1 : x ^^^ 9223372036854775808 < 2 ^ 64 := Nat.xor_lt_two_pow (by omega) (by omega)
  have a := Nat.xor_mod_two_pow (a := x) (b := 2^63) (n := 63)
  have b := Nat.xor_div_two_pow (a := x) (b := 2^63) (n := 63)
  rw [show x / 2^63 = 1 by omega] at b
  simp at a b
  omega
theorem and63 {x : Nat} (hx : x < 18446744073709551616) : x &&& 9223372036854775808 = if 9223372036854775808 ≤ x then 9223372036854775808 else 0 := by
  have a := Nat.and_mod_two_pow (a := x) (b := 2^63) (n := 63)
  have b := Nat.and_div_two_pow (a := x) (b := 2^63) (n := 63)
  simp at a b
  split
  · rw [show x / 9223372036854775808 = 1 by omega] at b
    simp at b
    omega
  · rw [show x / 9223372036854775808 = 0 by omega] at b
    simp at b
    omega
/-- The word without its sign. -/
theorem abs_num {x : Nat} {X : Rat} (h : Num x X) (hx : x < 18446744073709551616) : Num (x % 9223372036854775808) (rabs X) := by
  by_cases q : x < 9223372036854775808
  · rw [Nat.mod_eq_of_lt q]
    obtain ⟨s, m, p, h1, h2⟩ := h
    have hs := sign_of q h1
    subst hs
    have := mp_nonneg m p
    have e : rabs X = X := rabs_pos (by unfold rv at h2; simp at h2; grind)
    rw [e]
    exact ⟨_, _, _, h1, h2⟩
  · have e : x % 9223372036854775808 = fneg x := by rw [fneg_hi (by omega) hx]; omega
    rw [e]
    have g := fneg_num h
    have lt : fneg x < 9223372036854775808 := by rw [← e]; omega
    obtain ⟨s, m, p, h1, h2⟩ := g
    have hs := sign_of lt h1
    subst hs
    have := mp_nonneg m p
    have e2 : rabs X = -X := by rw [← rabs_neg, rabs_pos]; unfold rv at h2; simp at h2; grind
    rw [e2]
    exact ⟨_, _, _, h1, h2⟩
theorem nearest_lt64 (s : Bool) (m : Nat) (e : Int) : double.nearest s m e < 18446744073709551616 := by
  have hw : double.signWeight = 9223372036854775808 := by decide +kernel
  unfold Format.nearest Format.word
  rw [hw]
  have := inf_lt
  cases s <;> simp only [Bool.false_eq_true, if_false, if_true] <;> split <;> omega
theorem fofI_lt64 (n : Int) : fofI n < 18446744073709551616 := nearest_lt64 _ _ _
end Go.Proofs.YtffnmfcaoldlhaaDoor
