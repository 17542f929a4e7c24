/- Bounds of what leap.Instant answers. No program in sight. -/
import Derived.Test.YtenmiilndiaopaaPlainInst
set_option linter.unusedVariables false
set_option linter.unusedSimpArgs false
namespace Go.Proofs.Ytenmiilndiaopaa
theorem fin_range {c n t : Int} {is : Bool} (h : fin c n = (t, is, 0)) : -345600000000000 ≤ t ∧ t < 345600086400000 := by
  unfold fin at h
  split at h
  · next q =>
    have ht : c - 1000 * n = t := by simp at h; exact h.1
    rw [ht] at q
    simp [dayB] at q
    omega
  · simp at h
theorem inst_range (c : Int) : ∀ (l : List Lp) (last n t : Int) (is : Bool), lpsFrom last l = 0 → inst c n l = (t, is, 0) → -345600000000000 ≤ t ∧ t < 345600086400000
  | [], last, n, t, is, _, h3 => fin_range h3
  | x :: l, last, n, t, is, h1, h3 => by
    have o : -3999998 ≤ x.day ∧ x.day ≤ 3999998 := by
      unfold lpsFrom at h1
      by_cases h0 : lpOne last x ≠ 0
      · rw [if_pos h0] at h1; exact absurd h1 h0
      · have o := lpOne_zero (Decidable.of_not_not h0); exact ⟨o.1, o.2.1⟩
    obtain ⟨hl, hx, hs⟩ := lps_cons h1
    unfold inst at h3
    split at h3
    · exact fin_range h3
    · split at h3
      · have ht : (x.day + 1) * 86400000 - 1 = t := by simp at h3; exact h3.1
        omega
      · exact inst_range c l x.day (n + x.sh) t is hl h3
theorem fin_cases (c n : Int) : (fin c n = (0, false, 3) ∧ (c - 1000 * n < -345600000000000 ∨ 345600086400000 ≤ c - 1000 * n)) ∨ ∃ t, fin c n = (t, false, 0) := by
  unfold fin
  split
  · exact .inr ⟨_, rfl⟩
  · next q =>
    refine .inl ⟨rfl, ?_⟩
    simp [dayB] at q
    omega
theorem inst_cases (c : Int) : ∀ (l : List Lp) (last n : Int), lpsFrom last l = 0 → -60 ≤ n - l.length → n + l.length ≤ 60 →
    (inst c n l = (0, false, 3) ∧ (c < -345599999900000 ∨ 345599999900000 < c)) ∨ ∃ t is, inst c n l = (t, is, 0)
  | [], last, n, _, h1, h2 => by
    simp at h1 h2
    rcases fin_cases c n with ⟨h, hb⟩ | ⟨t, h⟩
    · exact .inl ⟨h, by omega⟩
    · exact .inr ⟨t, false, h⟩
  | x :: l, last, n, h0, h1, h2 => by
    obtain ⟨hl, hx, hs⟩ := lps_cons h0
    simp only [List.length_cons] at h1 h2
    unfold inst
    split
    · rcases fin_cases c n with ⟨h, hb⟩ | ⟨t, h⟩
      · exact .inl ⟨h, by omega⟩
      · exact .inr ⟨t, false, h⟩
    · split
      · exact .inr ⟨_, _, rfl⟩
      · exact inst_cases c l x.day (n + x.sh) hl (by omega) (by omega)
end Go.Proofs.Ytenmiilndiaopaa
