/- The marks of the constraints that stay. No program in sight. -/
import Derived.Test.YtdpddidfdifbhaaPlainLeast
set_option linter.unusedVariables false
set_option linter.unusedSimpArgs false
namespace Go.Proofs.Ytdpddidfdifbhaa
theorem kp_step (n : Nat) (l : List Bd) (i : Nat) : kp n l (i + 1) = kp n l i ++ [i] ∨ kp n l (i + 1) = kp n l i := by
  show (if _ then _ else _) = _ ∨ (if _ then _ else _) = _
  split
  · exact .inl rfl
  · exact .inr rfl
theorem kp_mem (n : Nat) (l : List Bd) (t : Nat) : ∀ i, t < i → (t ∈ kp n l i ↔ t ∈ kp n l (t + 1))
  | 0, h => by omega
  | i + 1, h => by
    by_cases q : t = i
    · subst q; exact Iff.rfl
    · rw [← kp_mem n l t i (by omega)]
      rcases kp_step n l i with e | e <;> rw [e]
      simp; omega
theorem kp_in {n : Nat} {l : List Bd} {t : Nat} (h : t ∈ kp n l (t + 1)) : kp n l (t + 1) = kp n l t ++ [t] := by
  rcases kp_step n l t with e | e
  · exact e
  · rw [e] at h
    have := (kp_lt n l t).1 t h
    omega
theorem kp_out {n : Nat} {l : List Bd} {t : Nat} (h : ¬ t ∈ kp n l (t + 1)) : kp n l (t + 1) = kp n l t := by
  rcases kp_step n l t with e | e
  · rw [e] at h; simp at h
  · exact e
theorem kp_pre (n : Nat) (l : List Bd) (k : Nat) : ∀ m, ∃ r, kp n l (k + m) = kp n l k ++ r
  | 0 => ⟨[], by simp⟩
  | m + 1 => by
    obtain ⟨r, e⟩ := kp_pre n l k m
    rcases kp_step n l (k + m) with e2 | e2
    · exact ⟨r ++ [k + m], by rw [← Nat.add_assoc, e2, e, List.append_assoc]⟩
    · exact ⟨r, by rw [← Nat.add_assoc, e2, e]⟩
theorem kp_at {n : Nat} {l : List Bd} {k N : Nat} (hk : k < N) (h : k ∈ kp n l N) : (kp n l k).length < (kp n l N).length ∧ (kp n l N)[(kp n l k).length]? = some k := by
  have h1 := kp_in ((kp_mem n l k N hk).1 h)
  obtain ⟨r, e⟩ := kp_pre n l (k + 1) (N - (k + 1))
  rw [show k + 1 + (N - (k + 1)) = N by omega, h1] at e
  rw [e]
  simp
/-- The marks before step i. -/
def dv (n : Nat) (l : List Bd) (i : Nat) (x : Nat) : Bool := if x < i then decide (x ∈ kp n l i) else true
def upB (d : Nat → Bool) (i : Nat) (v : Bool) : Nat → Bool := fun x => if x = i then v else d x
theorem dv_next (n : Nat) (l : List Bd) (i x : Nat) : dv n l (i + 1) x = upB (dv n l i) i (decide (i ∈ kp n l (i + 1))) x := by
  unfold dv upB
  by_cases q : x = i
  · subst q; rw [if_pos (by omega), if_pos rfl]
  · rw [if_neg q]
    by_cases q2 : x < i
    · rw [if_pos (by omega)]
      show _ = if x < i then _ else _
      rw [if_pos q2]
      have := (kp_mem n l x (i + 1) (by omega)).trans (kp_mem n l x i q2).symm
      simp [this]
    · rw [if_neg (by omega)]
      show _ = if x < i then _ else _
      rw [if_neg q2]
/-- The constraints that are marked, of the first t. -/
def fl (d : Nat → Bool) (l : List Bd) : Nat → List Bd
  | 0 => []
  | t + 1 => if d t = true then fl d l t ++ [l.getD t default] else fl d l t
theorem fl_len (d : Nat → Bool) (l : List Bd) : ∀ t, (fl d l t).length ≤ t
  | 0 => Nat.le_refl _
  | t + 1 => by
    have := fl_len d l t
    unfold fl
    split
    · simp; omega
    · omega
theorem fl_kept (n : Nat) (l : List Bd) (i : Nat) : ∀ t, t ≤ i → fl (upB (dv n l i) i false) l t = sel l (kp n l t)
  | 0, _ => rfl
  | t + 1, h => by
    have ih := fl_kept n l i t (by omega)
    have hd : upB (dv n l i) i false t = decide (t ∈ kp n l (t + 1)) := by
      unfold upB dv
      rw [if_neg (by omega), if_pos (by omega)]
      have := kp_mem n l t i (by omega)
      simp [this]
    unfold fl
    rw [hd, ih]
    by_cases q : t ∈ kp n l (t + 1)
    · rw [if_pos (by simpa using q), kp_in q]; simp [sel]
    · rw [if_neg (by simpa using q), kp_out q]
theorem fl_rest (n : Nat) (l : List Bd) (i : Nat) : ∀ m, i + 1 + m ≤ l.length → fl (upB (dv n l i) i false) l (i + 1 + m) = sel l (kp n l i) ++ (l.drop (i + 1)).take m
  | 0, h => by
    show fl _ l (i + 1) = _
    unfold fl
    rw [if_neg (by simp [upB]), fl_kept n l i i (Nat.le_refl _)]; simp
  | m + 1, h => by
    have ih := fl_rest n l i m (by omega)
    rw [← Nat.add_assoc]
    unfold fl
    have hd : upB (dv n l i) i false (i + 1 + m) = true := by
      unfold upB dv
      rw [if_neg (by omega), if_neg (by omega)]
    rw [if_pos hd, ih, List.append_assoc]
    congr 1
    have hm : m < (l.drop (i + 1)).length := by simp; omega
    rw [List.take_succ_eq_append_getElem hm, List.getD_eq_getElem?_getD, List.getElem?_eq_getElem (by omega)]
    simp
theorem fl_all (n : Nat) (l : List Bd) (i : Nat) (hi : i < l.length) : fl (upB (dv n l i) i false) l l.length = sel l (kp n l i) ++ l.drop (i + 1) := by
  have := fl_rest n l i (l.length - (i + 1)) (by omega)
  rw [show i + 1 + (l.length - (i + 1)) = l.length by omega, List.take_of_length_le (by simp)] at this
  exact this
theorem kp_dec (n : Nat) (l : List Bd) (i : Nat) : decide (i ∈ kp n l (i + 1)) = okB n (sel l (kp n l i) ++ l.drop (i + 1)) := by
  cases h : okB n (sel l (kp n l i) ++ l.drop (i + 1))
  · have e : kp n l (i + 1) = kp n l i := by show (if _ then _ else _) = _; rw [if_neg (by rw [h]; simp)]
    rw [e]
    exact decide_eq_false (fun q => by have := (kp_lt n l i).1 i q; omega)
  · have e : kp n l (i + 1) = kp n l i ++ [i] := by show (if _ then _ else _) = _; rw [if_pos h]
    rw [e]
    exact decide_eq_true (by simp)
theorem fl_mem {n : Nat} {l : List Bd} {i : Nat} (hi : i < l.length) : ∀ c ∈ sel l (kp n l i) ++ l.drop (i + 1), c ∈ l := by
  intro c hc
  rcases List.mem_append.1 hc with h | h
  · exact sel_mem (fun k hk => by have := (kp_lt n l i).1 k hk; omega) c h
  · exact List.mem_of_mem_drop h
end Go.Proofs.Ytdpddidfdifbhaa
