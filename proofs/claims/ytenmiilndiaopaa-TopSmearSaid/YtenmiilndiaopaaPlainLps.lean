/- What the checks of a table of leaps tell. No program in sight. -/
import Derived.Test.YtenmiilndiaopaaPlainLeap
set_option linter.unusedVariables false
set_option linter.unusedSimpArgs false
namespace Go.Proofs.Ytenmiilndiaopaa
def lpOne (last : Int) (x : Lp) : Int := if x.day < -3999998 ∨ 3999998 < x.day then 3 else if x.sh ≠ 1 ∧ x.sh ≠ -1 then 1 else if x.day - last < 2 then 9 else 0
def lpsFrom : Int → List Lp → Int
  | _, [] => 0
  | last, x :: l => if lpOne last x ≠ 0 then lpOne last x else lpsFrom x.day l
def leapsErr (l : List Lp) : Int := if 60 < l.length then 2 else lpsFrom (-5000000) l
theorem drop_cons {α : Type} (l : List α) (k : Nat) (h : k < l.length) : l.drop k = l[k] :: l.drop (k + 1) := by
  rw [List.drop_eq_getElem_cons h]
theorem lpOne_zero {last : Int} {x : Lp} (h : lpOne last x = 0) : -3999998 ≤ x.day ∧ x.day ≤ 3999998 ∧ (x.sh = 1 ∨ x.sh = -1) ∧ 2 ≤ x.day - last := by
  unfold lpOne at h; repeat' split at h
  all_goals omega
def lastOf (l : List Lp) (k : Nat) : Int := if k = 0 then -5000000 else (l.getD (k - 1) ⟨0, 0⟩).day
theorem lastOf_succ (l : List Lp) (k : Nat) (h : k < l.length) : lastOf l (k + 1) = l[k].day := by
  unfold lastOf; simp [List.getD, h]
theorem lastOf_pos (l : List Lp) (k : Nat) (h0 : k ≠ 0) (h : k < l.length) : lastOf l k = (l[k - 1]'(by omega)).day := by
  unfold lastOf; rw [if_neg h0]; simp [List.getD, show k - 1 < l.length by omega]
end Go.Proofs.Ytenmiilndiaopaa
