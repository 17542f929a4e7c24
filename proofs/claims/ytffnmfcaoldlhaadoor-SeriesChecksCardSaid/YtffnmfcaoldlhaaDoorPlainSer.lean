/- Checks and bounds of sums of terms, in plain terms. No program in sight. -/
import Derived.Test.YtffnmfcaoldlhaaDoorPlainTerm
import Derived.Test.YtffnmfcaoldlhaaDoorPlainFe
set_option linter.unusedVariables false
set_option linter.unusedSimpArgs false
namespace Go.Proofs.YtffnmfcaoldlhaaDoor
def tmOne (t : Tm) : Int := if t.amp < -1000000000 ∨ 1000000000 < t.amp ∨ t.ph < 0 ∨ 999999999 < t.ph ∨ t.rt < -4000000000000000 ∨ 4000000000000000 < t.rt then 3 else 0
def hdOne (m r s : Int) : Int := if m < -1000000000 ∨ 1000000000 < m ∨ r < -4000000000000000 ∨ 4000000000000000 < r ∨ s < 0 ∨ 100000000 < s then 3 else 0
/-- The error of a sum. -/
def sumE (m r : Int) (l : List Tm) (s : Int) : Int := if 40 < l.length then 2 else if hdOne m r s ≠ 0 then hdOne m r s else fe tmOne l
structure TmOk (t : Tm) : Prop where
  a1 : -1000000000 ≤ t.amp
  a2 : t.amp ≤ 1000000000
  p1 : 0 ≤ t.ph
  p2 : t.ph ≤ 999999999
  r1 : -4000000000000000 ≤ t.rt
  r2 : t.rt ≤ 4000000000000000
theorem tmOk_of {t : Tm} (h : tmOne t = 0) : TmOk t := by
  unfold tmOne at h
  by_cases q : t.amp < -1000000000 ∨ 1000000000 < t.amp ∨ t.ph < 0 ∨ 999999999 < t.ph ∨ t.rt < -4000000000000000 ∨ 4000000000000000 < t.rt
  · rw [if_pos q] at h; omega
  · constructor <;> omega
theorem fe_all {α : Type} (f : α → Int) : ∀ (l : List α), fe f l = 0 → ∀ x ∈ l, f x = 0 := by
  have key : ∀ (l : List α) (e : Int), l.foldl (fun e x => if e = 0 then f x else e) e = 0 → e = 0 ∧ ∀ x ∈ l, f x = 0 := by
    intro l
    induction l with
    | nil => intro e h; exact ⟨h, by simp⟩
    | cons y l ih =>
      intro e h
      rw [List.foldl_cons] at h
      obtain ⟨h1, h2⟩ := ih _ h
      by_cases he : e = 0
      · rw [if_pos he] at h1
        refine ⟨he, fun x hx => ?_⟩
        rcases List.mem_cons.1 hx with rfl | hx
        · exact h1
        · exact h2 x hx
      · rw [if_neg he] at h1; exact absurd h1 he
  exact fun l h => (key l 0 h).2
/-- A sum without an error. -/
structure SumOk (m r : Int) (l : List Tm) (s : Int) : Prop where
  len : l.length ≤ 40
  m1 : -1000000000 ≤ m
  m2 : m ≤ 1000000000
  r1 : -4000000000000000 ≤ r
  r2 : r ≤ 4000000000000000
  s1 : 0 ≤ s
  s2 : s ≤ 100000000
  tm : ∀ t ∈ l, TmOk t
theorem sumOk_of {m r : Int} {l : List Tm} {s : Int} (h : sumE m r l s = 0) : SumOk m r l s := by
  unfold sumE at h
  by_cases h1 : 40 < l.length
  · rw [if_pos h1] at h; omega
  · rw [if_neg h1] at h
    by_cases h2 : hdOne m r s = 0
    · rw [if_neg (by omega)] at h
      unfold hdOne at h2
      by_cases q : m < -1000000000 ∨ 1000000000 < m ∨ r < -4000000000000000 ∨ 4000000000000000 < r ∨ s < 0 ∨ 100000000 < s
      · rw [if_pos q] at h2; omega
      · exact ⟨by omega, by omega, by omega, by omega, by omega, by omega, by omega, fun t ht => tmOk_of (fe_all tmOne l h t ht)⟩
    · rw [if_pos h2] at h; exact absurd h h2
def absT (n : Int) : Int := if n < 0 then -n else n
/-- The greatest width of a value. -/
def bndAt (s : Int) (l : List Tm) : Int := l.foldl (fun n t => n + (2 + absT t.amp / 100000000)) (2 * s)
theorem bnd_snoc (s : Int) (l : List Tm) (k : Nat) (h : k < l.length) : bndAt s (l.take (k + 1)) = bndAt s (l.take k) + (2 + absT l[k].amp / 100000000) := by
  unfold bndAt; rw [fe_take l k h, List.foldl_append]; rfl
theorem bnd_bd {s : Int} {l : List Tm} (s1 : 0 ≤ s) (s2 : s ≤ 100000000) (h : ∀ t ∈ l, TmOk t) (k : Nat) : 0 ≤ bndAt s (l.take k) ∧ bndAt s (l.take k) ≤ 200000000 + 12 * k := by
  induction k with
  | zero => unfold bndAt; simp; omega
  | succ k ih =>
    by_cases hk : k < l.length
    · rw [bnd_snoc s l k hk]
      have := h l[k] (List.getElem_mem hk)
      have a1 := this.a1
      have a2 := this.a2
      have : 0 ≤ absT l[k].amp ∧ absT l[k].amp ≤ 1000000000 := by unfold absT; split <;> omega
      omega
    · rw [List.take_of_length_le (by omega)] at ih ⊢
      omega
end Go.Proofs.YtffnmfcaoldlhaaDoor
