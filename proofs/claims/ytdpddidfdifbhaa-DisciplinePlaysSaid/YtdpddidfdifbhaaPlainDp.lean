/- What the law DisciplinePlays keeps, in plain terms. No program in sight. -/
import Derived.Test.YtdpddidfdifbhaaPlainKept
set_option linter.unusedVariables false
set_option linter.unusedSimpArgs false
namespace Go.Proofs.Ytdpddidfdifbhaa
def stLast (n : Nat) (last k : Int) (x : Rd) : Int := if fdErr n last k x = 0 then x.tk else last
def stR (n : Nat) (last k : Int) (x : Rd) (R : Nat → Rd) : Nat → Rd := if fdErr n last k x = 0 then upd R k.toNat x else R
def stH (n : Nat) (last k : Int) (x : Rd) (H : Nat → Bool) : Nat → Bool := if fdErr n last k x = 0 then upd H k.toNat true else H
def stHd (n : Nat) (last k : Int) (x : Rd) (i : Nat) (hd : Nat → Int) : Nat → Int := if fdErr n last k x = 0 then upd hd k.toNat (i : Int) else hd
def numB (n : Nat) (k : Int) : Bool := decide (k < 0 ∨ (n : Int) ≤ k)
theorem numB_true {n : Nat} {k : Int} (h : k < 0 ∨ (n : Int) ≤ k) : numB n k = true := decide_eq_true h
theorem numB_false {n : Nat} {k : Int} (h : ¬ (k < 0 ∨ (n : Int) ≤ k)) : numB n k = false := decide_eq_false h
def rngB (q : Int) : Bool := decide (q < 0 ∨ 1000000000000 < q)
theorem rngB_true {q : Int} (h : q < 0 ∨ 1000000000000 < q) : rngB q = true := decide_eq_true h
theorem rngB_false {q : Int} (h : ¬ (q < 0 ∨ 1000000000000 < q)) : rngB q = false := decide_eq_false h
theorem fdErr_zero {n : Nat} {last k : Int} {x : Rd} (h : fdErr n last k x = 0) : 0 ≤ k ∧ k < (n : Int) ∧ readErr x.tk x.lo x.hi = 0 ∧ last ≤ x.tk := by
  unfold fdErr at h
  split at h
  · omega
  · split at h
    · contradiction
    · rename_i h2
      split at h
      · omega
      · exact ⟨by omega, by omega, Decidable.of_not_not h2, by omega⟩
structure SOk (n i : Nat) (l : List Rd) (last : Int) (R : Nat → Rd) (H : Nat → Bool) (hd : Nat → Int) : Prop where
  ok : KOk n last R H
  yes : ∀ j, j < n → H j = true → ∃ m, m < i ∧ hd j = (m : Int) ∧ l[m]? = some (R j)
  no : ∀ j, j < n → H j = false → hd j = -1
theorem sOk_start (n : Nat) (l : List Rd) : SOk n 0 l 0 (fun _ => ⟨0, 0, 0⟩) (fun _ => false) (fun _ => -1) :=
  ⟨kOk_none _ _ _, (fun j _ h => by cases h), fun j _ _ => rfl⟩
theorem sOk_step {n i : Nat} {l : List Rd} {last : Int} {R : Nat → Rd} {H : Nat → Bool} {hd : Nat → Int} (h : SOk n i l last R H hd) (k : Int) (hi : i < l.length) :
    SOk n (i + 1) l (stLast n last k l[i]) (stR n last k l[i] R) (stH n last k l[i] H) (stHd n last k l[i] i hd) := by
  unfold stLast stR stH stHd
  by_cases hz : fdErr n last k l[i] = 0
  · obtain ⟨z1, z2, z3, z4⟩ := fdErr_zero hz
    rw [if_pos hz, if_pos hz, if_pos hz, if_pos hz]
    refine ⟨kOk_upd h.ok _ _ z3 z4, fun j hj hh => ?_, fun j hj hh => ?_⟩
    · by_cases e : j = k.toNat
      · subst e; rw [upd_same, upd_same]; exact ⟨i, by omega, rfl, List.getElem?_eq_getElem hi⟩
      · rw [upd_ne _ _ e] at hh ⊢
        rw [upd_ne _ _ e]
        obtain ⟨m, m1, m2, m3⟩ := h.yes j hj hh
        exact ⟨m, by omega, m2, m3⟩
    · by_cases e : j = k.toNat
      · subst e; rw [upd_same] at hh; cases hh
      · rw [upd_ne _ _ e] at hh ⊢
        exact h.no j hj hh
  · rw [if_neg hz, if_neg hz, if_neg hz, if_neg hz]
    exact ⟨h.ok, (fun j hj hh => by obtain ⟨m, m1, m2, m3⟩ := h.yes j hj hh; exact ⟨m, by omega, m2, m3⟩), h.no⟩
/-- The error that the law expects of Read. -/
def yErr (q last : Int) (cnt : Nat) (f : Int) : Int := if q < 0 ∨ 1000000000000 < q then 3 else if q < last then 9 else if (cnt : Int) ≤ 2 * f then 10 else 0
/-- What Read answers. -/
def rdRes (n : Nat) (d f q : Int) (R : Nat → Rd) (H : Nat → Bool) : Int × Int × Bool := wst ((kept R H n).map (rdMv d q)) (heardN H n - f) ((kept R H n).map (rdMv d q)).length
def rdOut (n : Nat) (d f last q : Int) (R : Nat → Rd) (H : Nat → Bool) : Int × Int × Int :=
  if yErr q last (heardN H n) f ≠ 0 then (0, 0, yErr q last (heardN H n) f) else if (rdRes n d f q R H).2.2 then ((rdRes n d f q R H).1, (rdRes n d f q R H).2.1, 0) else (0, 0, 6)
end Go.Proofs.Ytdpddidfdifbhaa
