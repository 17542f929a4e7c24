import Derived.Test.YtpjgoojaahbglaaPlain1
/- Plain functions of package link. -/
namespace Go.Proofs.Ytpjgoojaahbglaa
/-- link.Check and exchangeErr. -/
def exErr (se re ol oh : Int) : Int := if timesErr se re ≠ 0 then timesErr se re else timesErr ol oh
theorem exErr_zero {se re ol oh : Int} (h : exErr se re ol oh = 0) : -100000000000000000 ≤ se ∧ se ≤ re ∧ re ≤ 100000000000000000 ∧ -100000000000000000 ≤ ol ∧ ol ≤ oh ∧ oh ≤ 100000000000000000 := by
  unfold exErr at h
  split at h
  · contradiction
  · rename_i h1
    have a := timesErr_zero (Decidable.of_not_not h1)
    have b := timesErr_zero h
    omega
/-- What link.Offset tells: the error, and the interval where there is none. -/
def offErr (se re ol oh : Int) : Int := if exErr se re ol oh ≠ 0 then exErr se re ol oh else if ol - se < oh - re then 8 else 0
def offLo (se re ol oh : Int) : Int := if offErr se re ol oh = 0 then oh - re else 0
def offHi (se re ol oh : Int) : Int := if offErr se re ol oh = 0 then ol - se else 0
theorem off_bd (se re ol oh : Int) : -200000000000000000 ≤ offLo se re ol oh ∧ offLo se re ol oh ≤ offHi se re ol oh ∧ offHi se re ol oh ≤ 200000000000000000 := by
  unfold offLo offHi
  split
  · rename_i h
    unfold offErr at h
    split at h
    · contradiction
    · rename_i h1
      have a := exErr_zero (Decidable.of_not_not h1)
      split at h
      · omega
      · omega
  · omega
theorem off_ok {se re ol oh : Int} (h : offErr se re ol oh = 0) : exErr se re ol oh = 0 ∧ oh - re ≤ ol - se := by
  unfold offErr at h
  split at h
  · contradiction
  · rename_i h1
    refine ⟨Decidable.of_not_not h1, ?_⟩
    split at h <;> omega
structure Ex where
  se : Int
  re : Int
  ol : Int
  oh : Int
def Ex.err (x : Ex) : Int := offErr x.se x.re x.ol x.oh
def Ex.lo (x : Ex) : Int := x.oh - x.re
def Ex.hi (x : Ex) : Int := x.ol - x.se
/-- The first error of a list. -/
def ferr (l : List Ex) : Int := l.foldl (fun e x => if e = 0 then x.err else e) 0
/-- The bounds of the numbers that are in all offsets. -/
def bstep (p : Bool × Int × Int) (x : Ex) : Bool × Int × Int := (true, if p.1 then (if p.2.1 < x.oh - x.re then x.oh - x.re else p.2.1) else x.oh - x.re, if p.1 then (if x.ol - x.se < p.2.2 then x.ol - x.se else p.2.2) else x.ol - x.se)
theorem bstep_first (p : Bool × Int × Int) (x : Ex) (h : p.1 = false) : (bstep p x).2 = (x.oh - x.re, x.ol - x.se) := by simp [bstep, h]
theorem bstep_next (p : Bool × Int × Int) (x : Ex) (h : p.1 = true) : (bstep p x).2 = (if p.2.1 < x.oh - x.re then x.oh - x.re else p.2.1, if x.ol - x.se < p.2.2 then x.ol - x.se else p.2.2) := by simp [bstep, h]
def bst (l : List Ex) : Bool × Int × Int := l.foldl bstep (false, 0, 0)
def bestErr (l : List Ex) : Int := if 40 < l.length then 2 else if l.length = 0 then 6 else if ferr l ≠ 0 then ferr l else if (bst l).2.2 < (bst l).2.1 then 6 else 0
theorem take_snoc {α : Type} (l : List α) (k : Nat) (h : k < l.length) : l.take (k + 1) = l.take k ++ [l[k]] := by
  rw [List.take_succ_eq_append_getElem h]
theorem ferr_snoc (l : List Ex) (k : Nat) (h : k < l.length) : ferr (l.take (k + 1)) = if ferr (l.take k) = 0 then l[k].err else ferr (l.take k) := by
  unfold ferr; rw [take_snoc l k h, List.foldl_append]; rfl
theorem bst_snoc (l : List Ex) (k : Nat) (h : k < l.length) : bst (l.take (k + 1)) = bstep (bst (l.take k)) l[k] := by
  unfold bst; rw [take_snoc l k h, List.foldl_append]; rfl
theorem bst_first (l : List Ex) (k : Nat) (h : k ≤ l.length) : (bst (l.take k)).1 = decide (k ≠ 0) := by
  cases k with
  | zero => rfl
  | succ k => rw [bst_snoc l k (by omega)]; simp [bstep]
theorem ferr_stay (l : List Ex) (k : Nat) (h : k ≤ l.length) (hk : ferr (l.take k) ≠ 0) : ferr l = ferr (l.take k) := by
  have key : ∀ n, k + n ≤ l.length → ferr (l.take (k + n)) = ferr (l.take k) := by
    intro n
    induction n with
    | zero => intro _; rfl
    | succ n ih =>
      intro hn
      rw [show k + (n + 1) = (k + n) + 1 from rfl, ferr_snoc l (k + n) (by omega), ih (by omega), if_neg hk]
  have := key (l.length - k) (by omega)
  rw [show k + (l.length - k) = l.length from by omega, List.take_of_length_le (Nat.le_refl _)] at this
  exact this
def bestLo (l : List Ex) : Int := if bestErr l = 0 then (bst l).2.1 else 0
def bestHi (l : List Ex) : Int := if bestErr l = 0 then (bst l).2.2 else 0
theorem bestErr_stop {l : List Ex} {k : Nat} (hk : k < l.length) (h40 : ¬ 40 < l.length) (h0 : ferr (l.take k) = 0) (h : l[k].err ≠ 0) : bestErr l = l[k].err := by
  have hs := ferr_snoc l k hk
  rw [if_pos h0] at hs
  have := ferr_stay l (k + 1) (by omega) (by rw [hs]; exact h)
  unfold bestErr
  rw [if_neg h40, if_neg (by omega), this, hs, if_pos h]
end Go.Proofs.Ytpjgoojaahbglaa
