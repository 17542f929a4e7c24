/- What package interval computes, in plain terms. No program in sight. -/
import Derived.Test.YtpgoahbmeedghaaPlain1
set_option linter.unusedVariables false
set_option linter.unusedSimpArgs false
namespace Go.Proofs.Ytpgoahbmeedghaa
def LIM : Int := 1000000000000000001
def absI (a : Int) : Int := if a < 0 then -a else a
theorem absI_nn (a : Int) : 0 ≤ absI a := by unfold absI; split <;> omega
theorem absI_neg {a : Int} (h : a < 0) : absI a = -a := by unfold absI; rw [if_pos h]
theorem absI_pos {a : Int} (h : ¬ a < 0) : absI a = a := by unfold absI; rw [if_neg h]
theorem absI_bd {a m : Int} (h1 : -m ≤ a) (h2 : a ≤ m) : absI a ≤ m := by unfold absI; split <;> omega
/-- The quotient, clipped, rounded down and up. -/
def qDn (P d : Int) : Int := if LIM ≤ P / d then LIM else P / d
def qUp (P d : Int) : Int := if LIM ≤ P / d then LIM else if 0 < P % d then P / d + 1 else P / d
def negB (a b : Int) : Bool := decide (a < 0) != decide (b < 0)
def ratLo (a b d : Int) : Int := if negB a b = true then -(qUp (absI a * absI b) d) else qDn (absI a * absI b) d
def ratHi (a b d : Int) : Int := if negB a b = true then -(qDn (absI a * absI b) d) else qUp (absI a * absI b) d
theorem ratLo_neg {a b d : Int} (h : negB a b = true) : ratLo a b d = -(qUp (absI a * absI b) d) := by unfold ratLo; rw [if_pos h]
theorem ratHi_neg {a b d : Int} (h : negB a b = true) : ratHi a b d = -(qDn (absI a * absI b) d) := by unfold ratHi; rw [if_pos h]
theorem ratLo_pos {a b d : Int} (h : negB a b = false) : ratLo a b d = qDn (absI a * absI b) d := by unfold ratLo; rw [if_neg (by rw [h]; simp)]
theorem ratHi_pos {a b d : Int} (h : negB a b = false) : ratHi a b d = qUp (absI a * absI b) d := by unfold ratHi; rw [if_neg (by rw [h]; simp)]
theorem qDn_bd {P d : Int} (hP : 0 ≤ P) (hd : 1 ≤ d) : 0 ≤ qDn P d ∧ qDn P d ≤ LIM := by
  have h := Int.ediv_nonneg hP (show 0 ≤ d by omega)
  unfold qDn; split <;> (unfold LIM at *; omega)
theorem qUp_bd {P d : Int} (hP : 0 ≤ P) (hd : 1 ≤ d) : 0 ≤ qUp P d ∧ qUp P d ≤ LIM := by
  have h := Int.ediv_nonneg hP (show 0 ≤ d by omega)
  unfold qUp; repeat' split
  all_goals (unfold LIM at *; omega)
end Go.Proofs.Ytpgoahbmeedghaa
