/- What leap.Instant answers, in plain terms. No program in sight. -/
import Derived.Test.YtenmiilndiaopaaWalkLins
set_option linter.unusedVariables false
set_option linter.unusedSimpArgs false
namespace Go.Proofs.Ytenmiilndiaopaa
def sumFrom (n : Int) (l : List Lp) (d : Int) : Int := l.foldl (fun n x => if x.day < d then n + x.sh else n) n
theorem sumFrom_late (d : Int) : ∀ (l : List Lp) (n : Int), (∀ x ∈ l, d ≤ x.day) → sumFrom n l d = n
  | [], _, _ => rfl
  | x :: l, n, h => by
    have h0 := h x (by simp)
    unfold sumFrom
    rw [List.foldl_cons, if_neg (by omega)]
    exact sumFrom_late d l n (fun y hy => h y (by simp [hy]))
theorem lps_late : ∀ (l : List Lp) (last : Int), lpsFrom last l = 0 → ∀ x ∈ l, last + 2 ≤ x.day
  | [], _, _, x, hx => absurd hx (by simp)
  | y :: l, last, h, x, hx => by
    unfold lpsFrom at h
    by_cases h0 : lpOne last y ≠ 0
    · rw [if_pos h0] at h; exact absurd h h0
    · rw [if_neg h0] at h
      have o := lpOne_zero (Decidable.of_not_not h0)
      rcases List.mem_cons.1 hx with rfl | hx
      · omega
      · have := lps_late l y.day h x hx; omega
theorem lps_cons {x : Lp} {l : List Lp} {last : Int} (h : lpsFrom last (x :: l) = 0) : lpsFrom x.day l = 0 ∧ last + 2 ≤ x.day ∧ (x.sh = 1 ∨ x.sh = -1) := by
  unfold lpsFrom at h
  by_cases h0 : lpOne last x ≠ 0
  · rw [if_pos h0] at h; exact absurd h h0
  · rw [if_neg h0] at h
    have o := lpOne_zero (Decidable.of_not_not h0)
    exact ⟨h, by omega, o.2.2.1⟩
theorem gap_late (d m : Int) (l : List Lp) (h : ∀ x ∈ l, d < x.day) : gapB l d m = false := by
  unfold gapB
  rw [List.any_eq_false]
  intro x hx
  have := h x hx
  have e : (x.day == d) = false := by simp; omega
  simp [gapOne, e]
theorem gap_cons (x : Lp) (l : List Lp) (d m : Int) : gapB (x :: l) d m = (gapOne d m x || gapB l d m) := rfl
theorem gapOne_ne {x : Lp} {d m : Int} (h : x.day ≠ d) : gapOne d m x = false := by
  have e : (x.day == d) = false := by simp [h]
  simp [gapOne, e]
theorem gapOne_one {x : Lp} {d m : Int} (h : x.sh = 1) : gapOne d m x = false := by simp [gapOne, h]
theorem gapOne_ms {x : Lp} {d m : Int} (h : m < 86399000) : gapOne d m x = false := by
  have e : decide (86399000 ≤ m) = false := by simp; omega
  simp [gapOne, e]
theorem fin_ok {c n t : Int} {is : Bool} (h : fin c n = (t, is, 0)) : t = c - 1000 * n ∧ is = false := by
  unfold fin at h
  split at h
  · simp at h; exact ⟨h.1.symm, h.2⟩
  · simp at h
theorem inst_norm (c : Int) : ∀ (l : List Lp) (last n t : Int), lpsFrom last l = 0 → (last + 1) * 86400000 + 1000 * n ≤ c → inst c n l = (t, false, 0) →
    t + 1000 * sumFrom n l (dOf t) = c ∧ gapB l (dOf t) (mOf t) = false ∧ last < dOf t
  | [], last, n, t, _, h2, h3 => by
    have := fin_ok h3
    refine ⟨?_, rfl, ?_⟩
    · show t + 1000 * n = c; omega
    · unfold dOf; omega
  | x :: l, last, n, t, h1, h2, h3 => by
    obtain ⟨hl, hx, hs⟩ := lps_cons h1
    have late := lps_late l x.day hl
    unfold inst at h3
    split at h3
    · next q =>
      obtain ⟨ht, _⟩ := fin_ok h3
      have hd : dOf t ≤ x.day := by unfold dOf; rcases hs with hs | hs <;> rw [hs] at q <;> omega
      refine ⟨?_, ?_, ?_⟩
      · rw [sumFrom_late]
        · omega
        · intro y hy
          rcases List.mem_cons.1 hy with rfl | hy
          · exact hd
          · have := late y hy; omega
      · rw [gap_cons, gap_late _ _ l (fun y hy => by have := late y hy; omega), Bool.or_false]
        rcases hs with hs | hs
        · exact gapOne_one hs
        · by_cases he : x.day = dOf t
          · refine gapOne_ms ?_
            rw [hs] at q
            have := dm_of t
            omega
          · exact gapOne_ne he
      · unfold dOf; omega
    · next q =>
      split at h3
      · simp at h3
      · next q2 =>
        obtain ⟨a1, a2, a3⟩ := inst_norm c l x.day (n + x.sh) t hl (by omega) h3
        refine ⟨?_, ?_, by omega⟩
        · unfold sumFrom at a1 ⊢
          rw [List.foldl_cons, if_pos a3]; exact a1
        · rw [gap_cons, a2, gapOne_ne (by omega)]; rfl
theorem inst_ins (c : Int) : ∀ (l : List Lp) (last n t : Int), lpsFrom last l = 0 → inst c n l = (t, true, 0) →
    t + 1000 * sumFrom n l (dOf t) < c ∧ c ≤ t + 1000 * sumFrom n l (dOf t) + 1000 ∧ gapB l (dOf t) (mOf t) = false ∧ last < dOf t ∧ t % 86400000 = 86399999
  | [], last, n, t, _, h3 => by
    have := (fin_ok h3).2; simp at this
  | x :: l, last, n, t, h1, h3 => by
    obtain ⟨hl, hx, hs⟩ := lps_cons h1
    have late := lps_late l x.day hl
    unfold inst at h3
    split at h3
    · have := (fin_ok h3).2; simp at this
    · next q =>
      split at h3
      · next q2 =>
        have ht : (x.day + 1) * 86400000 - 1 = t := by simpa using h3
        have hs1 : x.sh = 1 := by rcases hs with hs | hs; exact hs; (rw [hs] at q q2; omega)
        rw [hs1] at q q2
        have hd : dOf t = x.day := by unfold dOf; omega
        rw [sumFrom_late, hd]
        · refine ⟨by omega, by omega, ?_, by omega, by omega⟩
          rw [gap_cons, gap_late _ _ l (fun y hy => by have := late y hy; omega), gapOne_one hs1]; rfl
        · intro y hy
          rcases List.mem_cons.1 hy with rfl | hy
          · omega
          · have := late y hy; omega
      · next q2 =>
        obtain ⟨a1, a2, a3, a4, a5⟩ := inst_ins c l x.day (n + x.sh) t hl h3
        have e : sumFrom n (x :: l) (dOf t) = sumFrom (n + x.sh) l (dOf t) := by
          unfold sumFrom; rw [List.foldl_cons, if_pos a4]
        rw [e]
        refine ⟨a1, a2, ?_, by omega, a5⟩
        rw [gap_cons, a3, gapOne_ne (by omega)]; rfl
end Go.Proofs.Ytenmiilndiaopaa
