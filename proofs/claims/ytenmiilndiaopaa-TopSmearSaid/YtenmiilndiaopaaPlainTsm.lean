/- The table of leaps that the law TopSmear makes, and what the clocks tell of it. No program in sight. -/
import Derived.Test.YtenmiilndiaopaaPlainTs
import Derived.Test.YtenmiilndiaopaaPlainInst2
set_option linter.unusedVariables false
set_option linter.unusedSimpArgs false
namespace Go.Proofs.Ytenmiilndiaopaa
def tsOne (n d : Int) : Lp := ⟨d + 2 + n % 300, 1 - 2 * ((n % 3) / 2)⟩
def tsE (d : Int) (l : List Int) : Int := l.foldl (fun d n => d + 2 + n % 300) d
def tsL : Int → List Int → List Lp
  | _, [] => []
  | d, n :: l => tsOne n d :: tsL (d + 2 + n % 300) l
theorem tsL_append : ∀ (l : List Int) (d n : Int), tsL d (l ++ [n]) = tsL d l ++ [tsOne n (tsE d l)]
  | [], _, _ => rfl
  | x :: l, d, n => by
    show tsOne x d :: tsL (d + 2 + x % 300) (l ++ [n]) = tsOne x d :: (tsL (d + 2 + x % 300) l ++ [tsOne n (tsE (d + 2 + x % 300) l)])
    rw [tsL_append l]
theorem tsE_append (l : List Int) (d n : Int) : tsE d (l ++ [n]) = tsE d l + 2 + n % 300 := by simp [tsE]
theorem tsL_length : ∀ (l : List Int) (d : Int), (tsL d l).length = l.length
  | [], _ => rfl
  | x :: l, d => by
    show (tsL (d + 2 + x % 300) l).length + 1 = l.length + 1
    rw [tsL_length l]
theorem tsE_bd : ∀ (l : List Int) (d : Int), d ≤ tsE d l ∧ tsE d l ≤ d + 301 * l.length
  | [], d => ⟨Int.le_refl _, by show d ≤ d + 301 * ((0 : Nat) : Int); omega⟩
  | x :: l, d => by
    have ih := tsE_bd l (d + 2 + x % 300)
    have e : tsE d (x :: l) = tsE (d + 2 + x % 300) l := rfl
    rw [e, List.length_cons]
    omega
theorem tsL_err : ∀ (l : List Int) (d last : Int), last ≤ d → 0 ≤ d → d + 301 * l.length ≤ 3999998 → lpsFrom last (tsL d l) = 0
  | [], _, _, _, _, _ => rfl
  | x :: l, d, last, h1, h2, h3 => by
    rw [List.length_cons] at h3
    have e : lpOne last (tsOne x d) = 0 := by
      unfold lpOne tsOne
      rw [if_neg (by show ¬ (d + 2 + x % 300 < -3999998 ∨ 3999998 < d + 2 + x % 300); omega), if_neg (by show ¬ (1 - 2 * (x % 3 / 2) ≠ 1 ∧ 1 - 2 * (x % 3 / 2) ≠ -1); omega), if_neg (by show ¬ d + 2 + x % 300 - last < 2; omega)]
    show (if lpOne last (tsOne x d) ≠ 0 then lpOne last (tsOne x d) else lpsFrom (d + 2 + x % 300) (tsL (d + 2 + x % 300) l)) = 0
    rw [if_neg (by omega)]
    exact tsL_err l _ _ (Int.le_refl _) (by omega) (by omega)
theorem tsL_day : ∀ (l : List Int) (d : Int) (x : Lp), x ∈ tsL d l → d + 2 ≤ x.day ∧ x.day ≤ d + 301 * l.length
  | [], _, _, h => absurd h (by simp [tsL])
  | y :: l, d, x, h => by
    rw [List.length_cons]
    rcases List.mem_cons.1 (show x ∈ tsOne y d :: tsL (d + 2 + y % 300) l from h) with rfl | h
    · show d + 2 ≤ d + 2 + y % 300 ∧ d + 2 + y % 300 ≤ _
      omega
    · have := tsL_day l _ x h
      omega
theorem gap_mid (l : List Lp) (d : Int) : gapB l d 0 = false := by
  unfold gapB
  rw [List.any_eq_false]
  intro x _
  rw [gapOne_ms (by omega)]
  simp
theorem fin_in {c n : Int} (h : -345600000000000 ≤ c - 1000 * n) (h2 : c - 1000 * n < 345600000000000) : fin c n = (c - 1000 * n, false, 0) := by
  unfold fin
  rw [if_pos (by simp [dayB]; omega)]
theorem tsL_len12 (ns : List Int) (hn : ns.length ≤ 12) : (tsL 10 ns).length ≤ 12 := by rw [tsL_length]; exact hn
theorem ts_law (ns : List Int) (hn : ns.length ≤ 12) {h c more : Int} (h1 : 1000 ≤ h) (h2 : h ≤ 43200000) (c0 : 0 ≤ c) (c1 : c < 345600000000) (m0 : 0 ≤ more) (m1 : more < 1000000) :
    leapsErr (tsL 10 ns) = 0 ∧ ∃ a b t is n, sm c h 0 (tsL 10 ns) = a ∧ sm (c + more) h 0 (tsL 10 ns) = b ∧ 0 ≤ a ∧ a ≤ 691200000000 ∧ a ≤ b ∧ b - a ≤ 2 * more + 2 ∧ inst c 0 (tsL 10 ns) = (t, is, 0) ∧ -345600000000000 ≤ t ∧ t < 345600086400000 ∧ a - t ≤ 1001 ∧ t - a ≤ 1001 ∧ gapB (tsL 10 ns) (a / 86400000) 0 = false ∧ lpSum (tsL 10 ns) (a / 86400000) = n ∧ -60 ≤ n ∧ n ≤ 60 ∧ inst (a / 86400000 * 86400000 + 1000 * n) 0 (tsL 10 ns) = (a / 86400000 * 86400000, false, 0) := by
  have hl := tsL_len12 ns hn
  have e0 : lpsFrom (-5000000) (tsL 10 ns) = 0 := tsL_err ns 10 (-5000000) (by omega) (by omega) (by omega)
  have e1 : leapsErr (tsL 10 ns) = 0 := by unfold leapsErr; rw [if_neg (by omega)]; exact e0
  have hv := lpOk_of e1
  have hday := tsL_day ns 10
  generalize tsL 10 ns = l at *
  refine ⟨e1, ?_⟩
  have z : sm 0 h 0 l = 0 := sm_before (fun x hx => by have := (hday x hx).1; show 0 < (x.day + 1) * 86400000 - h + 1000 * 0; omega)
  obtain ⟨p1, p2⟩ := sm_lip h1 h2 l (-5000000) 0 0 c e0 c0
  obtain ⟨q1, q2⟩ := sm_lip h1 h2 l (-5000000) 0 c (c + more) e0 (by omega)
  rw [z] at p1 p2
  rcases inst_cases c l (-5000000) 0 e0 (by omega) (by omega) with ⟨_, hb⟩ | ⟨t, is, hi⟩
  · omega
  · obtain ⟨r1, r2⟩ := inst_range c l (-5000000) 0 t is e0 hi
    obtain ⟨s1, s2⟩ := sm_near h1 h2 c l (-5000000) 0 t is e0 hi
    have hsum := lpSum_bd hv (sm c h 0 l / 86400000) l.length (Nat.le_refl _)
    rw [List.take_of_length_le (Nat.le_refl _)] at hsum
    have hm := inst_mid (sm c h 0 l / 86400000) l (-5000000) 0 e0
    rw [show sumFrom 0 l (sm c h 0 l / 86400000) = lpSum l (sm c h 0 l / 86400000) from rfl] at hm
    generalize sm c h 0 l = a at *
    refine ⟨a, _, t, is, _, rfl, rfl, p1, by omega, q1, by omega, hi, r1, r2, s1, s2, gap_mid _ _, rfl, by omega, by omega, ?_⟩
    rw [hm, fin_in (by omega) (by omega)]
    simp
end Go.Proofs.Ytenmiilndiaopaa
