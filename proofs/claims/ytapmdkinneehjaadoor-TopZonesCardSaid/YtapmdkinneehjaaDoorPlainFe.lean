/- The first error of a list. No program in sight. -/
namespace Go.Proofs.YtapmdkinneehjaaDoor
def fe {α : Type} (f : α → Int) (l : List α) : Int := l.foldl (fun e x => if e = 0 then f x else e) 0
theorem fe_take {α : Type} (l : List α) (k : Nat) (h : k < l.length) : l.take (k + 1) = l.take k ++ [l[k]] := by
  rw [List.take_succ_eq_append_getElem h]
theorem fe_snoc {α : Type} (f : α → Int) (l : List α) (k : Nat) (h : k < l.length) : fe f (l.take (k + 1)) = if fe f (l.take k) = 0 then f l[k] else fe f (l.take k) := by
  unfold fe; rw [fe_take l k h, List.foldl_append]; rfl
theorem fe_stay {α : Type} (f : α → Int) (l : List α) (k : Nat) (h : k ≤ l.length) (hk : fe f (l.take k) ≠ 0) : fe f l = fe f (l.take k) := by
  have key : ∀ n, k + n ≤ l.length → fe f (l.take (k + n)) = fe f (l.take k) := by
    intro n
    induction n with
    | zero => intro _; rfl
    | succ n ih =>
      intro hn
      rw [show k + (n + 1) = (k + n) + 1 from rfl, fe_snoc f l (k + n) (by omega), ih (by omega), if_neg hk]
  have := key (l.length - k) (by omega)
  rw [show k + (l.length - k) = l.length from by omega, List.take_of_length_le (Nat.le_refl _)] at this
  exact this
theorem fe_at {α : Type} (f : α → Int) (l : List α) (k : Nat) (h : k < l.length) (h0 : fe f (l.take k) = 0) (h1 : f l[k] ≠ 0) : fe f l = f l[k] := by
  have hs := fe_snoc f l k h
  rw [if_pos h0] at hs
  rw [fe_stay f l (k + 1) (by omega) (by rw [hs]; exact h1), hs]
theorem fe_zero {α : Type} {f : α → Int} {l : List α} (h : fe f l = 0) : ∀ k (hk : k < l.length), f l[k] = 0 := by
  intro k hk
  have h0 : ∀ j, j ≤ l.length → fe f (l.take j) = 0 := by
    intro j hj
    by_cases hz : fe f (l.take j) = 0
    · exact hz
    · rw [fe_stay f l j hj hz] at h; exact absurd h hz
  have := fe_snoc f l k hk
  rw [h0 (k + 1) (by omega), if_pos (h0 k (by omega))] at this
  exact this.symm
theorem fe_mem {α : Type} {f : α → Int} {l : List α} (h : fe f l = 0) (k : Nat) : fe f (l.take k) = 0 := by
  by_cases hk : k ≤ l.length
  · by_cases hz : fe f (l.take k) = 0
    · exact hz
    · rw [fe_stay f l k hk hz] at h; exact absurd h hz
  · rw [List.take_of_length_le (by omega)]; exact h
end Go.Proofs.YtapmdkinneehjaaDoor
