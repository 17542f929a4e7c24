/- The sum of the leaps before a day. No program in sight. -/
import Derived.Test.YtenmiilndiaopaaPlainLps
import Derived.Test.YtenmiilndiaopaaPlainFe
set_option linter.unusedVariables false
set_option linter.unusedSimpArgs false
namespace Go.Proofs.Ytenmiilndiaopaa
def lpSum (l : List Lp) (d : Int) : Int := l.foldl (fun n x => if x.day < d then n + x.sh else n) 0
theorem lpSum_snoc (l : List Lp) (d : Int) (k : Nat) (h : k < l.length) : lpSum (l.take (k + 1)) d = if l[k].day < d then lpSum (l.take k) d + l[k].sh else lpSum (l.take k) d := by
  unfold lpSum; rw [fe_take l k h, List.foldl_append]; rfl
/-- What a table without an error is like. -/
structure LpOk (l : List Lp) : Prop where
  len : l.length ≤ 60
  lo : ∀ k (h : k < l.length), -3999998 ≤ l[k].day
  hi : ∀ k (h : k < l.length), l[k].day ≤ 3999998
  sh : ∀ k (h : k < l.length), l[k].sh = 1 ∨ l[k].sh = -1
  up : ∀ k (h : k + 1 < l.length), l[k].day + 2 ≤ l[k + 1].day
theorem lpsFrom_ok : ∀ (l : List Lp) (last : Int), lpsFrom last l = 0 → (∀ k (h : k < l.length), -3999998 ≤ l[k].day ∧ l[k].day ≤ 3999998 ∧ (l[k].sh = 1 ∨ l[k].sh = -1)) ∧ (∀ k (h : k + 1 < l.length), l[k].day + 2 ≤ l[k + 1].day) ∧ (∀ h : 0 < l.length, last + 2 ≤ l[0].day)
  | [], _, _ => ⟨fun k h => absurd h (by simp), fun k h => absurd h (by simp), fun h => absurd h (by simp)⟩
  | x :: l, last, h => by
    unfold lpsFrom at h
    by_cases h0 : lpOne last x ≠ 0
    · rw [if_pos h0] at h; exact absurd h h0
    · rw [if_neg h0] at h
      obtain ⟨a, b, c⟩ := lpsFrom_ok l x.day h
      have o := lpOne_zero (Decidable.of_not_not h0)
      refine ⟨?_, ?_, ?_⟩
      · intro k hk
        cases k with
        | zero => exact ⟨o.1, o.2.1, o.2.2.1⟩
        | succ k => exact a k (by simpa using hk)
      · intro k hk
        cases k with
        | zero => exact c (by simpa using hk)
        | succ k => exact b k (by simpa using hk)
      · intro _; simp; omega
theorem lpOk_of {l : List Lp} (h : leapsErr l = 0) : LpOk l := by
  unfold leapsErr at h
  split at h
  · omega
  · obtain ⟨a, b, _⟩ := lpsFrom_ok l _ h
    exact ⟨by omega, fun k hk => (a k hk).1, fun k hk => (a k hk).2.1, fun k hk => (a k hk).2.2, b⟩
theorem lpSum_bd {l : List Lp} (h : LpOk l) (d : Int) : ∀ k, k ≤ l.length → -(k : Int) ≤ lpSum (l.take k) d ∧ lpSum (l.take k) d ≤ k := by
  intro k
  induction k with
  | zero => intro _; simp [lpSum]
  | succ k ih =>
    intro hk
    have := ih (by omega)
    rw [lpSum_snoc l d k (by omega)]
    have s := h.sh k (by omega)
    split <;> rcases s with s | s <;> omega
def gapOne (d m : Int) (x : Lp) : Bool := x.sh == -1 && (x.day == d && decide (86399000 ≤ m))
def gapB (l : List Lp) (d m : Int) : Bool := l.any (gapOne d m)
theorem gap_snoc (l : List Lp) (d m : Int) (k : Nat) (h : k < l.length) : gapB (l.take (k + 1)) d m = (gapB (l.take k) d m || gapOne d m l[k]) := by
  unfold gapB; rw [fe_take l k h, List.any_append]; simp
theorem gap_at (l : List Lp) (d m : Int) (k : Nat) (h : k < l.length) (hg : gapOne d m l[k] = true) : gapB l d m = true := by
  unfold gapB; rw [List.any_eq_true]; exact ⟨l[k], List.getElem_mem h, hg⟩
def iErr (t : Int) : Int := if t < -345600000000000 ∨ 345600086400000 ≤ t then 3 else 0
end Go.Proofs.Ytenmiilndiaopaa
