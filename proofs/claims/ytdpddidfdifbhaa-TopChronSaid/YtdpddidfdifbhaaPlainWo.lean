/- Constraints without one of them; whether constraints contradict each other, as a Bool. No program in sight. -/
import Derived.Test.YtdpddidfdifbhaaPlainChr
set_option linter.unusedVariables false
set_option linter.unusedSimpArgs false
namespace Go.Proofs.Ytdpddidfdifbhaa
theorem fe_all {α : Type} {f : α → Int} : ∀ {l : List α}, (∀ x ∈ l, f x = 0) → fe f l = 0 := by
  intro l h
  have key : ∀ k, k ≤ l.length → fe f (l.take k) = 0 := by
    intro k
    induction k with
    | zero => intro _; rfl
    | succ k ih =>
      intro hk
      rw [fe_snoc f l k (by omega), if_pos (ih (by omega))]
      exact h _ (List.getElem_mem _)
  have := key l.length (Nat.le_refl _)
  rwa [List.take_of_length_le (Nat.le_refl _)] at this
theorem chErr_parts {n : Int} {l : List Bd} (h : chErr n l = 0) : n ≤ 12 ∧ l.length ≤ 40 ∧ 1 ≤ n ∧ ∀ c ∈ l, bdOne n c = 0 := by
  unfold chErr at h
  by_cases h1 : 12 < n ∨ 40 < l.length
  · rw [if_pos h1] at h; omega
  · rw [if_neg h1] at h
    by_cases h2 : n < 1
    · rw [if_pos h2] at h; omega
    · rw [if_neg h2] at h
      refine ⟨by omega, by omega, by omega, fun c hc => ?_⟩
      obtain ⟨k, hk, rfl⟩ := List.getElem_of_mem hc
      exact fe_zero h k hk
theorem chErr_of {n : Int} {l : List Bd} (h1 : n ≤ 12) (h2 : l.length ≤ 40) (h3 : 1 ≤ n) (h4 : ∀ c ∈ l, bdOne n c = 0) : chErr n l = 0 := by
  unfold chErr
  rw [if_neg (by omega), if_neg (by omega)]
  exact fe_all h4
theorem chErr_sub {n : Int} {l m : List Bd} (h : chErr n l = 0) (hl : m.length ≤ 40) (hm : ∀ c ∈ m, c ∈ l) : chErr n m = 0 := by
  obtain ⟨a, b, c, d⟩ := chErr_parts h
  exact chErr_of a hl c (fun x hx => d x (hm x hx))
theorem bdOk_at {n : Nat} {l : List Bd} (h : chErr n l = 0) : BdOk n l := by
  obtain ⟨m, e, hv⟩ := bdOk_of h
  obtain rfl : n = m := by omega
  exact hv
def wo (l : List Bd) (k : Nat) : List Bd := l.take k ++ l.drop (k + 1)
theorem wo_length (l : List Bd) (k : Nat) (h : k < l.length) : (wo l k).length = l.length - 1 := by simp [wo]; omega
theorem wo_mem {l : List Bd} {k : Nat} : ∀ c ∈ wo l k, c ∈ l := by
  intro c hc
  unfold wo at hc
  rcases List.mem_append.1 hc with h | h
  · exact List.mem_of_mem_take h
  · exact List.mem_of_mem_drop h
theorem chErr_wo {n : Int} {l : List Bd} {k : Nat} (h : chErr n l = 0) (hk : k < l.length) : chErr n (wo l k) = 0 :=
  chErr_sub h (by rw [wo_length l k hk]; have := (chErr_parts h).2.1; omega) wo_mem
/-- Whether no contradiction comes up. -/
def okB (n : Nat) (l : List Bd) : Bool := (List.range n).all fun k => (List.range n).all fun i => decide (0 ≤ fw l (k + 1) i i)
theorem okB_iff (n : Nat) (l : List Bd) : okB n l = true ↔ FwOk n l := by
  unfold okB FwOk
  simp only [List.all_eq_true, List.mem_range, decide_eq_true_eq]
theorem okB_yes {n : Nat} {l : List Bd} (h : okB n l = true) : FwOk n l := (okB_iff n l).1 h
theorem okB_no {n : Nat} {l : List Bd} (h : okB n l = false) : ¬ FwOk n l := fun g => by
  have := (okB_iff n l).2 g
  rw [h] at this; exact absurd this (by simp)
end Go.Proofs.Ytdpddidfdifbhaa
