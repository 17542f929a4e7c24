/- The keeper of discipline, in plain terms. No program in sight. -/
import Derived.Test.YtdpddidfdifbhaaPlainReading
import Derived.Test.YtdpddidfdifbhaaPlainOsc
set_option linter.unusedVariables false
set_option linter.unusedSimpArgs false
namespace Go.Proofs.Ytdpddidfdifbhaa
def upd {α : Type} (f : Nat → α) (k : Nat) (x : α) : Nat → α := fun j => if j = k then x else f j
theorem upd_same {α : Type} (f : Nat → α) (k : Nat) (x : α) : upd f k x k = x := if_pos rfl
theorem upd_ne {α : Type} (f : Nat → α) {k j : Nat} (x : α) (h : j ≠ k) : upd f k x j = f j := if_neg h
/-- The readings of the first k sources that are heard. -/
def kept (R : Nat → Rd) (H : Nat → Bool) (k : Nat) : List Rd := ((List.range k).filter H).map R
theorem kept_yes {R : Nat → Rd} {H : Nat → Bool} {k : Nat} (h : H k = true) : kept R H (k + 1) = kept R H k ++ [R k] := by
  unfold kept; rw [List.range_succ, List.filter_append, List.map_append]; simp [h]
theorem kept_no {R : Nat → Rd} {H : Nat → Bool} {k : Nat} (h : H k = false) : kept R H (k + 1) = kept R H k := by
  unfold kept; rw [List.range_succ, List.filter_append, List.map_append]; simp [h]
theorem kept_len (R : Nat → Rd) (H : Nat → Bool) (k : Nat) : (kept R H k).length ≤ k := by
  unfold kept
  have := List.length_filter_le H (List.range k)
  simp at this ⊢
  exact this
theorem kept_mem {R : Nat → Rd} {H : Nat → Bool} {n : Nat} {x : Rd} (h : x ∈ kept R H n) : ∃ k, k < n ∧ H k = true ∧ R k = x := by
  unfold kept at h
  simp at h
  obtain ⟨k, ⟨h1, h2⟩, h3⟩ := h
  exact ⟨k, h1, h2, h3⟩
/-- How many are heard. -/
def heardN (H : Nat → Bool) (n : Nat) : Nat := (List.range n).countP H
theorem heardN_kept (R : Nat → Rd) (H : Nat → Bool) (n : Nat) : (kept R H n).length = heardN H n := by
  unfold kept heardN; rw [List.length_map, List.countP_eq_length_filter]
theorem heardN_le (H : Nat → Bool) (n : Nat) : heardN H n ≤ n := by
  rw [← heardN_kept (fun _ => ⟨0, 0, 0⟩)]; exact kept_len _ _ _
theorem heardN_succ (H : Nat → Bool) (n : Nat) : heardN H (n + 1) = heardN H n + if H n then 1 else 0 := by
  unfold heardN; rw [List.range_succ, List.countP_append]
  cases h : H n <;> simp [h]
theorem heardN_upd_out (H : Nat → Bool) {n k : Nat} (h : n ≤ k) : heardN (upd H k true) n = heardN H n := by
  induction n with
  | zero => rfl
  | succ n ih => rw [heardN_succ, heardN_succ, ih (by omega), upd_ne H true (by omega)]
theorem heardN_new (H : Nat → Bool) {n k : Nat} (hk : k < n) (h : H k = false) : heardN (upd H k true) n = heardN H n + 1 := by
  induction n with
  | zero => omega
  | succ n ih =>
    rw [heardN_succ, heardN_succ]
    by_cases e : n = k
    · subst e; rw [upd_same, heardN_upd_out H (Nat.le_refl _), h]; simp
    · rw [ih (by omega), upd_ne H true (by omega)]; omega
theorem heardN_old (H : Nat → Bool) {n k : Nat} (hk : k < n) (h : H k = true) : heardN (upd H k true) n = heardN H n := by
  have e : upd H k true = H := by
    funext j; unfold upd; by_cases e : j = k
    · rw [if_pos e, e, h]
    · rw [if_neg e]
  rw [e]
/-- What Feed answers. -/
def fdErr (n : Nat) (last k : Int) (x : Rd) : Int := if k < 0 ∨ (n : Int) ≤ k then 1 else if readErr x.tk x.lo x.hi ≠ 0 then readErr x.tk x.lo x.hi else if x.tk < last then 9 else 0
end Go.Proofs.Ytdpddidfdifbhaa
