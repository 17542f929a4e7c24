/- Which constraints stay where one after the other is left out. No program in sight. -/
import Derived.Test.YtdpddidfdifbhaaPlainWo
set_option linter.unusedVariables false
set_option linter.unusedSimpArgs false
namespace Go.Proofs.Ytdpddidfdifbhaa
def sel (l : List Bd) (O : List Nat) : List Bd := O.map fun k => l.getD k default
/-- The numbers of the constraints that stay, of the first i. -/
def kp (n : Nat) (l : List Bd) : Nat → List Nat
  | 0 => []
  | i + 1 => if okB n (sel l (kp n l i) ++ l.drop (i + 1)) = true then kp n l i ++ [i] else kp n l i
def lf (n : Nat) (l : List Bd) (i : Nat) : List Bd := sel l (kp n l i) ++ l.drop i
theorem kp_lt (n : Nat) (l : List Bd) : ∀ i, (∀ k ∈ kp n l i, k < i) ∧ (kp n l i).length ≤ i
  | 0 => ⟨fun k hk => by simp [kp] at hk, by simp [kp]⟩
  | i + 1 => by
    obtain ⟨h1, h2⟩ := kp_lt n l i
    unfold kp
    split
    · refine ⟨fun k hk => ?_, by simp; omega⟩
      rcases List.mem_append.1 hk with h | h
      · have := h1 k h; omega
      · simp at h; omega
    · exact ⟨fun k hk => by have := h1 k hk; omega, by omega⟩
theorem sel_length (l : List Bd) (O : List Nat) : (sel l O).length = O.length := by simp [sel]
theorem sel_mem {l : List Bd} {O : List Nat} (h : ∀ k ∈ O, k < l.length) : ∀ c ∈ sel l O, c ∈ l := by
  intro c hc
  obtain ⟨k, hk, rfl⟩ := List.mem_map.1 hc
  rw [List.getD_eq_getElem?_getD, List.getElem?_eq_getElem (h k hk)]
  exact List.getElem_mem _
theorem lf_length (n : Nat) (l : List Bd) (i : Nat) (hi : i ≤ l.length) : (lf n l i).length = (kp n l i).length + (l.length - i) := by
  simp [lf, sel_length]
theorem lf_mem {n : Nat} {l : List Bd} {i : Nat} (hi : i ≤ l.length) : ∀ c ∈ lf n l i, c ∈ l := by
  intro c hc
  unfold lf at hc
  rcases List.mem_append.1 hc with h | h
  · exact sel_mem (fun k hk => by have := (kp_lt n l i).1 k hk; omega) c h
  · exact List.mem_of_mem_drop h
theorem lf_zero (n : Nat) (l : List Bd) : lf n l 0 = l := by simp [lf, kp, sel]
theorem lf_end (n : Nat) (l : List Bd) : lf n l l.length = sel l (kp n l l.length) := by simp [lf]
theorem lf_wo (n : Nat) (l : List Bd) (i : Nat) (hi : i < l.length) : wo (lf n l i) (kp n l i).length = sel l (kp n l i) ++ l.drop (i + 1) := by
  unfold wo lf
  have h := sel_length l (kp n l i)
  rw [← h, List.take_left', ← List.drop_drop, List.drop_left', List.drop_drop]
  all_goals rfl
theorem lf_at (n : Nat) (l : List Bd) (i : Nat) (hi : i < l.length) : (kp n l i).length < (lf n l i).length := by
  rw [lf_length n l i (by omega)]; omega
theorem kp_yes {n : Nat} {l : List Bd} {i : Nat} (hi : i < l.length) (h : okB n (wo (lf n l i) (kp n l i).length) = true) : kp n l (i + 1) = kp n l i ++ [i] ∧ lf n l (i + 1) = lf n l i := by
  rw [lf_wo n l i hi] at h
  have e : kp n l (i + 1) = kp n l i ++ [i] := by show (if _ then _ else _) = _; rw [if_pos h]
  refine ⟨e, ?_⟩
  unfold lf
  rw [e]
  unfold sel
  rw [List.map_append, List.append_assoc]
  congr 1
  rw [List.drop_eq_getElem_cons hi]
  simp [hi]
theorem kp_no {n : Nat} {l : List Bd} {i : Nat} (hi : i < l.length) (h : okB n (wo (lf n l i) (kp n l i).length) = false) : kp n l (i + 1) = kp n l i ∧ lf n l (i + 1) = wo (lf n l i) (kp n l i).length := by
  have h' := h
  rw [lf_wo n l i hi] at h
  have e : kp n l (i + 1) = kp n l i := by show (if _ then _ else _) = _; rw [if_neg (by rw [h]; simp)]
  refine ⟨e, ?_⟩
  rw [lf_wo n l i hi]
  unfold lf
  rw [e]
end Go.Proofs.Ytdpddidfdifbhaa
