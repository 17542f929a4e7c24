/- What smear.Smear answers, in plain terms. No program in sight. -/
import Derived.Test.YtenmiilndiaopaaPlainInst2
set_option linter.unusedVariables false
set_option linter.unusedSimpArgs false
namespace Go.Proofs.Ytenmiilndiaopaa
def halfB (h : Int) : Bool := decide (1000 ≤ h) && decide (h ≤ 43200000)
/-- The begin of a leap's window in counts, its width, and the smeared instant in it. -/
def smBeg (h n : Int) (x : Lp) : Int := (x.day + 1) * 86400000 - h + 1000 * n
def smWid (h : Int) (x : Lp) : Int := 2 * h + 1000 * x.sh
def smMid (c h n : Int) (x : Lp) : Int := (x.day + 1) * 86400000 - h + ((c - smBeg h n x) * 2 * h).tdiv (smWid h x)
def sm (c h : Int) : Int → List Lp → Int
  | n, [] => c - 1000 * n
  | n, x :: l => if c < smBeg h n x then c - 1000 * n else if c < smBeg h n x + smWid h x then smMid c h n x else sm c h (n + x.sh) l
theorem sm_at (c h n : Int) (l : List Lp) (k : Nat) (hk : k < l.length) : sm c h n (l.drop k) = if c < smBeg h n l[k] then c - 1000 * n else if c < smBeg h n l[k] + smWid h l[k] then smMid c h n l[k] else sm c h (n + l[k].sh) (l.drop (k + 1)) := by
  rw [List.drop_eq_getElem_cons hk]; rfl
theorem prod_bd {y h : Int} (y0 : 0 ≤ y) (y1 : y ≤ 86401000) (h0 : 1000 ≤ h) (h1 : h ≤ 43200000) : 0 ≤ y * 2 * h ∧ y * 2 * h ≤ 7465046400000000 := by
  refine ⟨Int.mul_nonneg (by omega) (by omega), ?_⟩
  calc y * 2 * h ≤ y * 2 * 43200000 := Int.mul_le_mul_of_nonneg_left h1 (by omega)
    _ ≤ 7465046400000000 := by omega
theorem tdiv_bd {p q : Int} (p0 : 0 ≤ p) (q0 : 1000 ≤ q) : 0 ≤ p.tdiv q ∧ p.tdiv q ≤ p := by
  rw [Int.tdiv_eq_ediv_of_nonneg p0]
  exact ⟨Int.ediv_nonneg p0 (by omega), Int.ediv_le_self q p0⟩
theorem halfB_of {h : Int} (hb : halfB h = true) : 1000 ≤ h ∧ h ≤ 43200000 := by simpa [halfB] using hb
/-- Where the loop over the leaps stands: all windows passed, or the answer fixed. -/
def SmAt (c h : Int) (l : List Lp) (k : Nat) (n o : Int) : Prop :=
  (o = c - 1000 * n ∧ sm c h 0 l = sm c h n (l.drop k)) ∨ (o = sm c h 0 l ∧ ∃ (j : Nat) (hj : j < l.length), k = j + 1 ∧ c < (l[j].day + 1) * 86400000 + h + 1000 * n)
theorem smAt_step {c h : Int} {l : List Lp} {k : Nat} {n o : Int} (hv : LpOk l) (h1000 : 1000 ≤ h) (h432 : h ≤ 43200000) (hk : k < l.length) (hs : SmAt c h l k n o) :
    (c < smBeg h n l[k] → SmAt c h l (k + 1) (n + l[k].sh) o) ∧
    (¬ c < smBeg h n l[k] → c < smBeg h n l[k] + smWid h l[k] → SmAt c h l (k + 1) (n + l[k].sh) (smMid c h n l[k])) ∧
    (¬ c < smBeg h n l[k] → ¬ c < smBeg h n l[k] + smWid h l[k] → SmAt c h l (k + 1) (n + l[k].sh) (c - 1000 * (n + l[k].sh))) := by
  have hsh := hv.sh k hk
  rcases hs with ⟨ho, he⟩ | ⟨ho, j, hj, rfl, hc⟩
  · rw [sm_at c h n l k hk] at he
    refine ⟨fun a => ?_, fun a b => ?_, fun a b => ?_⟩
    · rw [if_pos a] at he
      refine .inr ⟨by omega, k, hk, rfl, ?_⟩
      unfold smBeg at a; rcases hsh with q | q <;> omega
    · rw [if_neg a, if_pos b] at he
      refine .inr ⟨he.symm, k, hk, rfl, ?_⟩
      unfold smBeg smWid at b; omega
    · rw [if_neg a, if_neg b] at he
      exact .inl ⟨rfl, he⟩
  · have hup := hv.up j hk
    have a : c < smBeg h n l[j + 1] := by unfold smBeg; omega
    refine ⟨fun _ => .inr ⟨ho, j + 1, hk, rfl, ?_⟩, fun q => absurd a q, fun q => absurd a q⟩
    rcases hsh with q | q <;> omega
theorem smAt_end {c h : Int} {l : List Lp} {n o : Int} (hs : SmAt c h l l.length n o) : o = sm c h 0 l := by
  rcases hs with ⟨ho, he⟩ | ⟨ho, _⟩
  · rw [he, List.drop_length]; exact ho
  · exact ho
/-- Where the law's own loop stands. -/
def LwAt (c h : Int) (l : List Lp) (k : Nat) (n want : Int) (is : Bool) : Prop :=
  (is = false ∧ sm c h 0 l = sm c h n (l.drop k)) ∨ (sm c h 0 l = (if is = true then want else c - 1000 * n) ∧ ∃ (j : Nat) (hj : j < l.length), k = j + 1 ∧ c < (l[j].day + 1) * 86400000 + h + 1000 * n + 1000)
theorem lwAt_step {c h : Int} {l : List Lp} {k : Nat} {n want : Int} {is : Bool} (hv : LpOk l) (h1000 : 1000 ≤ h) (h432 : h ≤ 43200000) (hk : k < l.length) (hs : LwAt c h l k n want is) :
    (c < smBeg h n l[k] → LwAt c h l (k + 1) n want is) ∧
    (¬ c < smBeg h n l[k] → c < smBeg h n l[k] + smWid h l[k] → LwAt c h l (k + 1) n (smMid c h n l[k]) true) ∧
    (¬ c < smBeg h n l[k] → ¬ c < smBeg h n l[k] + smWid h l[k] → LwAt c h l (k + 1) (n + l[k].sh) want is) := by
  have hsh := hv.sh k hk
  rcases hs with ⟨ho, he⟩ | ⟨ho, j, hj, rfl, hc⟩
  · subst ho
    rw [sm_at c h n l k hk] at he
    refine ⟨fun a => ?_, fun a b => ?_, fun a b => ?_⟩
    · rw [if_pos a] at he
      refine .inr ⟨by rw [he]; rfl, k, hk, rfl, ?_⟩
      unfold smBeg at a; rcases hsh with q | q <;> omega
    · rw [if_neg a, if_pos b] at he
      refine .inr ⟨by rw [he]; rfl, k, hk, rfl, ?_⟩
      unfold smBeg smWid at b; rcases hsh with q | q <;> omega
    · rw [if_neg a, if_neg b] at he
      exact .inl ⟨rfl, he⟩
  · have hup := hv.up j hk
    have a : c < smBeg h n l[j + 1] := by unfold smBeg; omega
    exact ⟨fun _ => .inr ⟨ho, j + 1, hk, rfl, by omega⟩, fun q => absurd a q, fun q => absurd a q⟩
theorem lwAt_end {c h : Int} {l : List Lp} {n want : Int} {is : Bool} (hs : LwAt c h l l.length n want is) : sm c h 0 l = if is = true then want else c - 1000 * n := by
  rcases hs with ⟨ho, he⟩ | ⟨ho, _⟩
  · subst ho
    rw [he, List.drop_length]; rfl
  · exact ho
theorem smMid_bd {c h n : Int} {x : Lp} (h1000 : 1000 ≤ h) (h432 : h ≤ 43200000) (hsh : x.sh = 1 ∨ x.sh = -1) (a : ¬ c < smBeg h n x) (b : c < smBeg h n x + smWid h x) : (x.day + 1) * 86400000 - h ≤ smMid c h n x ∧ smMid c h n x ≤ (x.day + 1) * 86400000 - h + 7465046400000000 := by
  have hw : smWid h x = 2 * h + 1000 * x.sh := rfl
  have y0 : 0 ≤ c - smBeg h n x := by omega
  have y1 : c - smBeg h n x ≤ 86401000 := by rcases hsh with q | q <;> omega
  obtain ⟨p0, p1⟩ := prod_bd y0 y1 h1000 h432
  obtain ⟨q0, q1⟩ := tdiv_bd (q := smWid h x) p0 (by rcases hsh with q | q <;> omega)
  unfold smMid
  omega
theorem sm_bd (c h : Int) (h1000 : 1000 ≤ h) (h432 : h ≤ 43200000) (c1 : -400000000000000 ≤ c) (c2 : c ≤ 400000000000000) : ∀ (l : List Lp) (n : Int), (∀ x ∈ l, -3999998 ≤ x.day ∧ x.day ≤ 3999998 ∧ (x.sh = 1 ∨ x.sh = -1)) → -60 ≤ n - l.length → n + l.length ≤ 60 →
    (-8000000000000000 ≤ sm c h n l ∧ sm c h n l ≤ 8000000000000000) ∧ (c < -345600864000000 → sm c h n l < -345600000000000) ∧ (345600864000000 < c → 345600086400000 ≤ sm c h n l)
  | [], n, _, n1, n2 => by
    simp at n1 n2
    have e : sm c h n [] = c - 1000 * n := rfl
    rw [e]; omega
  | x :: l, n, hx, n1, n2 => by
    simp only [List.length_cons] at n1 n2
    obtain ⟨d1, d2, hsh⟩ := hx x (by simp)
    have e : sm c h n (x :: l) = if c < smBeg h n x then c - 1000 * n else if c < smBeg h n x + smWid h x then smMid c h n x else sm c h (n + x.sh) l := rfl
    rw [e]
    split
    · omega
    · split
      · next a b =>
        obtain ⟨m1, m2⟩ := smMid_bd h1000 h432 hsh a b
        unfold smBeg at a
        unfold smBeg smWid at b
        rcases hsh with q | q <;> omega
      · exact sm_bd c h h1000 h432 c1 c2 l (n + x.sh) (fun y hy => hx y (by simp [hy])) (by rcases hsh with q | q <;> omega) (by rcases hsh with q | q <;> omega)
theorem sm_bd0 {c h : Int} {l : List Lp} (hv : LpOk l) (h1000 : 1000 ≤ h) (h432 : h ≤ 43200000) (c1 : -400000000000000 ≤ c) (c2 : c ≤ 400000000000000) :
    (-8000000000000000 ≤ sm c h 0 l ∧ sm c h 0 l ≤ 8000000000000000) ∧ (c < -345600864000000 → sm c h 0 l < -345600000000000) ∧ (345600864000000 < c → 345600086400000 ≤ sm c h 0 l) := by
  refine sm_bd c h h1000 h432 c1 c2 l 0 ?_ (by have := hv.len; omega) (by have := hv.len; omega)
  intro x hx
  obtain ⟨k, hk, rfl⟩ := List.getElem_of_mem hx
  exact ⟨hv.lo k hk, hv.hi k hk, hv.sh k hk⟩
end Go.Proofs.Ytenmiilndiaopaa
