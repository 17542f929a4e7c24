/- Lower bounds in the relaxation. No program in sight. -/
import Derived.Test.YtdpddidfdifbhaaPlainChr
set_option linter.unusedVariables false
set_option linter.unusedSimpArgs false
namespace Go.Proofs.Ytdpddidfdifbhaa
theorem low_rl {s : (Nat → Int) × Bool} {e : Edge} {B : Int} (h : ∀ x, -B ≤ s.1 x) (hB : 0 ≤ B) (hw : -8000000 ≤ e.2.2) : ∀ x, -(B + 8000000) ≤ (rl s e).1 x := by
  intro x
  have hx := h x
  have h1 := h e.1
  rcases rl_cases s e with ⟨_, he⟩ | ⟨_, he⟩ <;> rw [he]
  · show _ ≤ stV s.1 e.2.1 (s.1 e.1 + e.2.2) x
    unfold stV
    split <;> omega
  · omega
theorem low_fold : ∀ (l : List Bd) (s : (Nat → Int) × Bool) (B : Int), (∀ c ∈ l, -8000000 ≤ c.hi ∧ -8000000 ≤ -c.lo) → (∀ x, -B ≤ s.1 x) → 0 ≤ B → ∀ x, -(B + 16000000 * l.length) ≤ (l.foldl rlx s).1 x
  | [], s, B, _, h, _ => fun x => by have := h x; simp; omega
  | c :: l, s, B, hc, h, hB => fun x => by
    obtain ⟨c1, c2⟩ := hc c (by simp)
    have h1 := low_rl (e := (c.a.toNat, c.b.toNat, c.hi)) h hB c1
    have h2 := low_rl (e := (c.b.toNat, c.a.toNat, -c.lo)) h1 (by omega) c2
    have h3 := low_fold l (rlx s c) (B + 8000000 + 8000000) (fun d hd => hc d (by simp [hd])) h2 (by omega) x
    rw [List.foldl_cons, List.length_cons]
    have e : -(B + 16000000 * ((l.length + 1 : Nat) : Int)) = -(B + 8000000 + 8000000 + 16000000 * (l.length : Int)) := by omega
    rw [e]; exact h3
/-- The state within a round. -/
def prt (l : List Bd) (i r t : Nat) : (Nat → Int) × Bool := (l.take t).foldl rlx (it l i r, false)
theorem prt_snoc (l : List Bd) (i r t : Nat) (h : t < l.length) : prt l i r (t + 1) = rlx (prt l i r t) l[t] := by
  unfold prt; rw [fe_take l t h, List.foldl_append]; rfl
theorem prt_end (l : List Bd) (i r : Nat) : prt l i r l.length = (it l i (r + 1), dch l i r) := by
  unfold prt dch; rw [List.take_of_length_le (Nat.le_refl _)]; rfl
theorem low_it {n : Nat} {l : List Bd} (hv : BdOk n l) (i : Nat) : ∀ (r : Nat) (x : Nat), -(640000000 * (r : Int)) ≤ it l i r x
  | 0, x => by
    have hF : FAR = 1000000000 := rfl
    show -(640000000 * ((0 : Nat) : Int)) ≤ if x = i then 0 else FAR
    split <;> simp <;> omega
  | r + 1, x => by
    have ih := low_it hv i r
    have hl := hv.len
    have h := low_fold l (it l i r, false) (640000000 * (r : Int)) (fun c hc => by have := hv.lo c hc; have := hv.le c hc; have := hv.hi c hc; omega) ih (by omega) x
    show _ ≤ (rnd l (it l i r)).1 x
    have e : (rnd l (it l i r)).1 x = (l.foldl rlx (it l i r, false)).1 x := rfl
    rw [e]
    omega
theorem prt_bd {n : Nat} {l : List Bd} (hv : BdOk n l) {i : Nat} (hi : i < n) (r t : Nat) (hr : r ≤ 30) (ht : t ≤ l.length) : (∀ x, x < n → (prt l i r t).1 x ≤ FAR) ∧ ∀ x, -30000000000 ≤ (prt l i r t).1 x := by
  have hl := hv.len
  have hmem : ∀ c ∈ l.take t, c ∈ l := fun c hc => List.mem_of_mem_take hc
  constructor
  · have hsub : ∀ e ∈ els (l.take t), e ∈ els l := by
      rintro ⟨a, b, w⟩ he
      obtain ⟨c, hc, h⟩ := mem_els.1 he
      exact mem_els.2 ⟨c, hmem c hc, h⟩
    have := ub_fold hv.n12 (els (l.take t)) (it l i r, false) (fun e he => by have := els_bd hv e (hsub e he); exact ⟨this.1, this.2.1, this.2.2.2.2⟩) (ub_it hv hi r)
    unfold prt; rw [rnd_els]
    exact this.far
  · intro x
    have h := low_fold (l.take t) (it l i r, false) (640000000 * (r : Int)) (fun c hc => by have hc := hmem c hc; have := hv.lo c hc; have := hv.le c hc; have := hv.hi c hc; omega) (low_it hv i r) (by omega) x
    have h2 : (l.take t).length ≤ 40 := by have := List.length_take_le t l; omega
    unfold prt
    omega
end Go.Proofs.Ytdpddidfdifbhaa
