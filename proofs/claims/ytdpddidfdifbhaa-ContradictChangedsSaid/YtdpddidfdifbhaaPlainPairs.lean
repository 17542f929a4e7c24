/- The pairs of two numbers below n that are marked, in order. No program in sight. -/
namespace Go.Proofs.Ytdpddidfdifbhaa
def rp (c : Nat → Nat → Bool) (i : Nat) : Nat → List (Nat × Nat)
  | 0 => []
  | j + 1 => if (decide (i < j) && c i j) = true then rp c i j ++ [(i, j)] else rp c i j
def ps (c : Nat → Nat → Bool) (n : Nat) : Nat → List (Nat × Nat)
  | 0 => []
  | i + 1 => ps c n i ++ rp c i n
theorem rp_nil (c : Nat → Nat → Bool) (i : Nat) : ∀ j, j ≤ i + 1 → rp c i j = []
  | 0, _ => rfl
  | j + 1, h => by
    unfold rp
    rw [if_neg (by simp; omega)]
    exact rp_nil c i j (by omega)
theorem rp_yes {c : Nat → Nat → Bool} {i j : Nat} (h : i < j) (hc : c i j = true) : rp c i (j + 1) = rp c i j ++ [(i, j)] := by
  show (if _ then _ else _) = _
  rw [if_pos (by simp [h, hc])]
theorem rp_no {c : Nat → Nat → Bool} {i j : Nat} (hc : c i j = false) : rp c i (j + 1) = rp c i j := by
  show (if _ then _ else _) = _
  rw [if_neg (by simp [hc])]
theorem rp_pre (c : Nat → Nat → Bool) (i j : Nat) : ∀ m, ∃ r, rp c i (j + m) = rp c i j ++ r
  | 0 => ⟨[], by simp⟩
  | m + 1 => by
    obtain ⟨r, e⟩ := rp_pre c i j m
    rw [← Nat.add_assoc]
    by_cases q : (decide (i < j + m) && c i (j + m)) = true
    · exact ⟨r ++ [(i, j + m)], by show (if _ then _ else _) = _; rw [if_pos q, e, List.append_assoc]⟩
    · exact ⟨r, by show (if _ then _ else _) = _; rw [if_neg q]; exact e⟩
theorem ps_pre (c : Nat → Nat → Bool) (n i : Nat) : ∀ m, ∃ r, ps c n (i + m) = ps c n i ++ r
  | 0 => ⟨[], by simp⟩
  | m + 1 => by
    obtain ⟨r, e⟩ := ps_pre c n i m
    exact ⟨r ++ rp c (i + m) n, by rw [← Nat.add_assoc]; show ps c n (i + m) ++ _ = _; rw [e, List.append_assoc]⟩
/-- The pair at a place that is marked. -/
theorem ps_at {c : Nat → Nat → Bool} {n i j : Nat} (hi : i < n) (hij : i < j) (hj : j < n) (hc : c i j = true) :
    (ps c n i ++ rp c i j).length < (ps c n n).length ∧ (ps c n n)[(ps c n i ++ rp c i j).length]? = some (i, j) := by
  obtain ⟨r, e⟩ := ps_pre c n (i + 1) (n - (i + 1))
  rw [show i + 1 + (n - (i + 1)) = n by omega] at e
  obtain ⟨r2, e2⟩ := rp_pre c i (j + 1) (n - (j + 1))
  rw [show j + 1 + (n - (j + 1)) = n by omega, rp_yes hij hc] at e2
  have e3 : ps c n (i + 1) = ps c n i ++ rp c i n := rfl
  rw [e, e3, e2]
  constructor
  · simp
  · rw [List.append_assoc, List.append_assoc, List.append_assoc, ← List.append_assoc (ps c n i) (rp c i j), List.getElem?_append_right (Nat.le_refl _), Nat.sub_self]
    rfl
theorem rp_len (c : Nat → Nat → Bool) (i : Nat) : ∀ j, (rp c i j).length ≤ j
  | 0 => Nat.le_refl _
  | j + 1 => by
    have := rp_len c i j
    unfold rp
    split
    · simp; omega
    · omega
theorem ps_len (c : Nat → Nat → Bool) (n : Nat) : ∀ i, (ps c n i).length ≤ i * n
  | 0 => by simp [ps]
  | i + 1 => by
    have h1 := ps_len c n i
    have h2 := rp_len c i n
    show (ps c n i ++ rp c i n).length ≤ (i + 1) * n
    rw [List.length_append, Nat.add_mul]; omega
end Go.Proofs.Ytdpddidfdifbhaa
