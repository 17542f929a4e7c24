/- What the interval of most intervals is like. No program in sight. -/
import Derived.Test.YtdpddidfdifbhaaPlainAgr
set_option linter.unusedVariables false
set_option linter.unusedSimpArgs false
namespace Go.Proofs.Ytdpddidfdifbhaa
theorem inSp_iff {n : Int} {s : Sp} : inSp n s = true ↔ s.lo ≤ n ∧ n ≤ s.hi := by simp [inSp]
theorem countP_lt {α : Type} {p q : α → Bool} : ∀ (l : List α), (∀ x ∈ l, p x = true → q x = true) → (∃ x ∈ l, q x = true ∧ p x = false) → l.countP p < l.countP q
  | [], _, h => by obtain ⟨x, hx, _⟩ := h; simp at hx
  | a :: l, h1, h2 => by
    have hm : l.countP p ≤ l.countP q := List.countP_mono_left (fun x hx => h1 x (by simp [hx]))
    obtain ⟨x, hx, hq, hp⟩ := h2
    rcases List.mem_cons.1 hx with rfl | hx
    · rw [List.countP_cons_of_pos hq, List.countP_cons_of_neg (by simp [hp])]; omega
    · have ih := countP_lt l (fun y hy => h1 y (by simp [hy])) ⟨x, hx, hq, hp⟩
      have ha := h1 a (by simp)
      cases hpa : p a with
      | true => rw [List.countP_cons_of_pos hpa, List.countP_cons_of_pos (ha hpa)]; omega
      | false =>
        rw [List.countP_cons_of_neg (by simp [hpa])]
        cases hqa : q a with
        | true => rw [List.countP_cons_of_pos hqa]; omega
        | false => rw [List.countP_cons_of_neg (by simp [hqa])]; omega
theorem cov_mono {l : List Sp} {p q : Int} (h : ∀ s ∈ l, s.lo ≤ p → p ≤ s.hi → s.lo ≤ q ∧ q ≤ s.hi) : cov l p ≤ cov l q := by
  have : l.countP (inSp p) ≤ l.countP (inSp q) := List.countP_mono_left (fun s hs hp => by
    obtain ⟨a, b⟩ := inSp_iff.1 hp
    exact inSp_iff.2 (h s hs a b))
  unfold cov; omega
theorem cov_lt {l : List Sp} {p q : Int} (h : ∀ s ∈ l, s.lo ≤ p → p ≤ s.hi → s.lo ≤ q ∧ q ≤ s.hi) (g : ∃ s ∈ l, (s.lo ≤ q ∧ q ≤ s.hi) ∧ ¬ (s.lo ≤ p ∧ p ≤ s.hi)) : cov l p < cov l q := by
  have : l.countP (inSp p) < l.countP (inSp q) := by
    refine countP_lt l (fun s hs hp => ?_) ?_
    · obtain ⟨a, b⟩ := inSp_iff.1 hp
      exact inSp_iff.2 (h s hs a b)
    · obtain ⟨s, hs, a, b⟩ := g
      refine ⟨s, hs, inSp_iff.2 a, ?_⟩
      rw [Bool.eq_false_iff]; intro hh; exact b (inSp_iff.1 hh)
  unfold cov; omega
theorem cov_pos {l : List Sp} {p : Int} {s : Sp} (hs : s ∈ l) (h1 : s.lo ≤ p) (h2 : p ≤ s.hi) : 0 < cov l p := by
  have : 0 < l.countP (inSp p) := List.countP_pos_iff.2 ⟨s, hs, inSp_iff.2 ⟨h1, h2⟩⟩
  unfold cov; omega
theorem top_start {p : Int} : ∀ (l : List Sp), (∃ s ∈ l, s.lo ≤ p ∧ p ≤ s.hi) → ∃ s ∈ l, (s.lo ≤ p ∧ p ≤ s.hi) ∧ ∀ t ∈ l, t.lo ≤ p → p ≤ t.hi → t.lo ≤ s.lo
  | [], h => by obtain ⟨x, hx, _⟩ := h; simp at hx
  | a :: l, h => by
    by_cases hl : ∃ s ∈ l, s.lo ≤ p ∧ p ≤ s.hi
    · obtain ⟨s, hs, h1, h2⟩ := top_start l hl
      by_cases ha : (a.lo ≤ p ∧ p ≤ a.hi) ∧ s.lo < a.lo
      · refine ⟨a, by simp, ha.1, fun t ht b c => ?_⟩
        rcases List.mem_cons.1 ht with rfl | ht
        · omega
        · have := h2 t ht b c; omega
      · refine ⟨s, by simp [hs], h1, fun t ht b c => ?_⟩
        rcases List.mem_cons.1 ht with rfl | ht
        · by_cases q : s.lo < t.lo
          · exact absurd ⟨⟨b, c⟩, q⟩ ha
          · omega
        · exact h2 t ht b c
    · obtain ⟨s, hs, h1⟩ := h
      rcases List.mem_cons.1 hs with rfl | hs
      · refine ⟨s, by simp, h1, fun t ht b c => ?_⟩
        rcases List.mem_cons.1 ht with rfl | ht
        · omega
        · exact absurd ⟨t, ht, b, c⟩ hl
      · exact absurd ⟨s, hs, h1⟩ hl
theorem cov_top {l : List Sp} {p : Int} (h : 0 < cov l p) : ∃ s ∈ l, s.lo ≤ p ∧ cov l p ≤ cov l s.lo := by
  have h' : 0 < l.countP (inSp p) := by unfold cov at h; omega
  obtain ⟨t, ht, hp⟩ := List.countP_pos_iff.1 h'
  obtain ⟨s, hs, h1, h2⟩ := top_start l ⟨t, ht, inSp_iff.1 hp⟩
  refine ⟨s, hs, h1.1, cov_mono fun u hu a b => ⟨h2 u hu a b, by omega⟩⟩
theorem bst_inv {l : List Sp} (hv : SpsOk l) : ∀ k, k ≤ l.length → (k = 0 ∧ bst l k = (0, 0, 0)) ∨
    ((∃ j, ∃ hj : j < l.length, (bst l k).1 = l[j].lo ∧ (bst l k).2.1 = l[j].hi) ∧ (bst l k).2.2 = cov l (bst l k).1 ∧ ∀ j (hj : j < l.length), j < k → cov l l[j].lo ≤ (bst l k).2.2 ∧ (cov l l[j].lo = (bst l k).2.2 → (bst l k).1 ≤ l[j].lo)) := by
  intro k
  induction k with
  | zero => intro _; exact .inl ⟨rfl, rfl⟩
  | succ k ih =>
    intro hk
    have hlt : k < l.length := by omega
    have hpos : 0 < cov l l[k].lo := cov_pos (List.getElem_mem hlt) (by omega) (hv.up k hlt)
    right
    rw [bst_snoc l k hlt]
    rcases ih (by omega) with ⟨rfl, h0⟩ | ⟨⟨j, hj, h1, h2⟩, h3, h4⟩
    · rw [h0]
      have e : bstStep l (0, 0, 0) l[0] = (l[0].lo, l[0].hi, cov l l[0].lo) := by unfold bstStep; rw [if_pos (.inl hpos)]
      rw [e]
      refine ⟨⟨0, hlt, rfl, rfl⟩, rfl, fun i hi hik => ?_⟩
      obtain rfl : i = 0 := by omega
      exact ⟨Int.le_refl _, fun _ => Int.le_refl _⟩
    · unfold bstStep
      by_cases hc : (bst l k).2.2 < cov l l[k].lo ∨ (cov l l[k].lo = (bst l k).2.2 ∧ l[k].lo < (bst l k).1)
      · rw [if_pos hc]
        refine ⟨⟨k, hlt, rfl, rfl⟩, rfl, fun i hi hik => ?_⟩
        show cov l l[i].lo ≤ cov l l[k].lo ∧ (cov l l[i].lo = cov l l[k].lo → l[k].lo ≤ l[i].lo)
        by_cases e : i = k
        · subst e; exact ⟨Int.le_refl _, fun _ => Int.le_refl _⟩
        · have g := h4 i hi (by omega)
          rcases hc with hc | hc
          · exact ⟨by omega, fun q => by omega⟩
          · exact ⟨by omega, fun q => by have := g.2 (by omega); omega⟩
      · rw [if_neg hc]
        refine ⟨⟨j, hj, h1, h2⟩, h3, fun i hi hik => ?_⟩
        by_cases e : i = k
        · subst e; exact ⟨by omega, fun q => by omega⟩
        · exact h4 i hi (by omega)
theorem mhi_inv {l : List Sp} (lo hi : Int) : ∀ k, k ≤ l.length → (mhi l lo hi k = hi ∨ ∃ j, ∃ hj : j < l.length, (l[j].lo ≤ lo ∧ lo ≤ l[j].hi) ∧ mhi l lo hi k = l[j].hi) ∧ mhi l lo hi k ≤ hi ∧
    ∀ j (hj : j < l.length), j < k → l[j].lo ≤ lo → lo ≤ l[j].hi → mhi l lo hi k ≤ l[j].hi := by
  intro k
  induction k with
  | zero => intro _; exact ⟨.inl rfl, Int.le_refl _, fun j _ h => by omega⟩
  | succ k ih =>
    intro hk
    have hlt : k < l.length := by omega
    obtain ⟨h1, h2, h3⟩ := ih (by omega)
    rw [mhi_snoc l lo hi k hlt]
    unfold hiStep
    by_cases hc : l[k].lo ≤ lo ∧ lo ≤ l[k].hi
    · rw [if_pos hc]
      refine ⟨?_, by omega, fun j hj hjk a b => ?_⟩
      · by_cases hm : mhi l lo hi k ≤ l[k].hi
        · rw [Int.min_eq_left hm]; exact h1
        · rw [Int.min_eq_right (by omega)]; exact .inr ⟨k, hlt, hc, rfl⟩
      · by_cases e : j = k
        · subst e; omega
        · have := h3 j hj (by omega) a b; omega
    · rw [if_neg hc]
      refine ⟨h1, h2, fun j hj hjk a b => ?_⟩
      by_cases e : j = k
      · subst e; exact absurd ⟨a, b⟩ hc
      · exact h3 j hj (by omega) a b
/-- What the interval of most is like. -/
structure MostOk (l : List Sp) (lo hi n : Int) : Prop where
  pos : 0 < n
  at_lo : cov l lo = n
  le : lo ≤ hi
  all : ∀ j (hj : j < l.length), l[j].lo ≤ lo → lo ≤ l[j].hi → hi ≤ l[j].hi
  some : ∃ j, ∃ hj : j < l.length, (l[j].lo ≤ lo ∧ lo ≤ l[j].hi) ∧ hi = l[j].hi
  most : ∀ j (hj : j < l.length), cov l l[j].lo ≤ n
  least : ∀ j (hj : j < l.length), cov l l[j].lo = n → lo ≤ l[j].lo
  bd : -1000000000000000000 ≤ lo ∧ hi ≤ 1000000000000000000
theorem most_ok {l : List Sp} (hv : SpsOk l) : MostOk l (mLo l) (mHi l) (mK l) := by
  have hpos := hv.pos
  rcases bst_inv hv l.length (Nat.le_refl _) with ⟨h, _⟩ | ⟨⟨j, hj, h1, h2⟩, h3, h4⟩
  · omega
  · obtain ⟨g1, g2, g3⟩ := mhi_inv (l := l) (mLo l) (bst l l.length).2.1 l.length (Nat.le_refl _)
    have hlo : mLo l = l[j].lo := h1
    have hj2 := hv.up j hj
    have hself : l[j].lo ≤ mLo l ∧ mLo l ≤ l[j].hi := by rw [hlo]; exact ⟨Int.le_refl _, hj2⟩
    have hk : mK l = cov l (mLo l) := h3
    have hsome : ∃ j, ∃ hj : j < l.length, (l[j].lo ≤ mLo l ∧ mLo l ≤ l[j].hi) ∧ mHi l = l[j].hi := by
      rcases g1 with g1 | g1
      · exact ⟨j, hj, hself, by unfold mHi; rw [g1, h2]⟩
      · exact g1
    refine ⟨?_, hk.symm, ?_, fun i hi a b => g3 i hi hi a b, hsome, fun i hi => (h4 i hi hi).1, fun i hi => (h4 i hi hi).2, ?_⟩
    · rw [hk]; exact cov_pos (List.getElem_mem hj) hself.1 hself.2
    · obtain ⟨i, hi, a, b⟩ := hsome; omega
    · obtain ⟨i, hi, a, b⟩ := hsome
      have b1 := hv.lo j hj
      have b2 := hv.hi i hi
      omega
theorem most_le {l : List Sp} {lo hi n : Int} (h : MostOk l lo hi n) (p : Int) : cov l p ≤ n := by
  have hp := h.pos
  by_cases h0 : 0 < cov l p
  · obtain ⟨s, hs, _, h2⟩ := cov_top h0
    obtain ⟨j, hj, rfl⟩ := List.getElem_of_mem hs
    have := h.most j hj; omega
  · omega
theorem most_hi {l : List Sp} {lo hi n : Int} (h : MostOk l lo hi n) : cov l hi = n := by
  have h1 := most_le h hi
  have h2 : cov l lo ≤ cov l hi := cov_mono fun s hs a b => by
    obtain ⟨j, hj, rfl⟩ := List.getElem_of_mem hs
    have := h.all j hj a b
    have := h.le
    omega
  have := h.at_lo
  omega
theorem most_before {l : List Sp} {lo hi n : Int} (h : MostOk l lo hi n) : cov l (lo - 1) ≠ n := by
  intro e
  obtain ⟨s, hs, h1, h2⟩ := cov_top (l := l) (p := lo - 1) (by have := h.pos; omega)
  obtain ⟨j, hj, rfl⟩ := List.getElem_of_mem hs
  have g := h.most j hj
  have := h.least j hj (by omega)
  omega
theorem starts_zero {l : List Sp} {p : Int} (h : starts l p = 0) : ∀ s ∈ l, s.lo ≠ p := by
  intro s hs e
  have h' : l.countP (fun s : Sp => s.lo == p) = 0 := by unfold starts at h; omega
  have := List.countP_eq_zero.1 h' s hs
  simp [e] at this
theorem most_after {l : List Sp} {lo hi n : Int} (h : MostOk l lo hi n) (h0 : starts l (hi + 1) = 0) : cov l (hi + 1) ≠ n := by
  have hz := starts_zero h0
  have hlt : cov l (hi + 1) < cov l hi := by
    refine cov_lt (fun s hs a b => ?_) ?_
    · have := hz s hs; omega
    · obtain ⟨j, hj, a, b⟩ := h.some
      have := h.le
      exact ⟨l[j], List.getElem_mem hj, by omega, by omega⟩
  have := most_hi h
  omega
theorem most_in {l : List Sp} {lo hi n : Int} (hv : SpsOk l) (h : MostOk l lo hi n) (j : Nat) (hj : j < l.length) : ¬ (lo < l[j].lo ∧ l[j].lo ≤ hi) := by
  rintro ⟨a, b⟩
  have hlt : cov l lo < cov l l[j].lo := by
    refine cov_lt (fun s hs c d => ?_) ⟨l[j], List.getElem_mem hj, ⟨Int.le_refl _, hv.up j hj⟩, by omega⟩
    obtain ⟨i, hi', rfl⟩ := List.getElem_of_mem hs
    have := h.all i hi' c d
    omega
  have := h.most j hj
  have := h.at_lo
  omega
theorem most_out {l : List Sp} {lo hi n : Int} (hv : SpsOk l) (h : MostOk l lo hi n) (j : Nat) (hj : j < l.length) : ¬ (lo ≤ l[j].hi ∧ l[j].hi < hi) := by
  rintro ⟨a, b⟩
  have hup := hv.up j hj
  by_cases c : l[j].lo ≤ lo
  · have := h.all j hj c a; omega
  · exact most_in hv h j hj ⟨by omega, by omega⟩
end Go.Proofs.Ytdpddidfdifbhaa
