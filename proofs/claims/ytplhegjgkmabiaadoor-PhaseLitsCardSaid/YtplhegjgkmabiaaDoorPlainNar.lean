/- Narrowing an interval at whose ends a function is -1 and 1. No program in sight. -/
import Derived.Test.YtplhegjgkmabiaaDoorPlA
set_option linter.unusedVariables false
set_option linter.unusedSimpArgs false
namespace Go.Proofs.YtplhegjgkmabiaaDoor
/-- The last number at which a condition holds, by halving. -/
def lastF (P : Int → Bool) : Nat → Int → Int → Int
  | 0, lo, _ => lo
  | n + 1, lo, hi => if 1 < hi - lo then (if P (lo + (hi - lo) / 2) = true then lastF P n (lo + (hi - lo) / 2) hi else lastF P n lo (lo + (hi - lo) / 2)) else lo
structure NarR where
  lo : Int
  hi : Int
  is : Bool
/-- What is looked for on both sides of a number at which nothing is decided. -/
def narE (s : Int → Int) (width lo hi mid : Int) : NarR :=
  ⟨lastF (fun x => s x == -1) 62 lo mid, -lastF (fun x => s (-x) == 1) 62 (-hi) (-mid), decide (-lastF (fun x => s (-x) == 1) 62 (-hi) (-mid) - lastF (fun x => s x == -1) 62 lo mid ≤ width)⟩
def narF (s : Int → Int) (width : Int) : Nat → Int → Int → NarR
  | 0, lo, hi => ⟨lo, hi, true⟩
  | n + 1, lo, hi => if width < hi - lo then
      (if s (lo + (hi - lo) / 2) = -1 then narF s width n (lo + (hi - lo) / 2) hi
       else if s (lo + (hi - lo) / 2) = 1 then narF s width n lo (lo + (hi - lo) / 2)
       else narE s width lo hi (lo + (hi - lo) / 2))
    else ⟨lo, hi, true⟩
theorem lastF_all (P : Int → Bool) : ∀ (n : Nat) (lo hi : Int), lo ≤ hi → hi - lo ≤ 2 ^ n → lo ≤ lastF P n lo hi ∧ lastF P n lo hi ≤ hi ∧ (lo < hi → lastF P n lo hi < hi) ∧ (lastF P n lo hi = lo ∨ P (lastF P n lo hi) = true) ∧ (lo < hi → lastF P n lo hi + 1 = hi ∨ P (lastF P n lo hi + 1) = false)
  | 0, lo, hi, h, hp => by
    unfold lastF
    rw [show (2 : Int) ^ 0 = 1 from rfl] at hp
    exact ⟨by omega, h, fun h => h, .inl rfl, fun h => .inl (by omega)⟩
  | n + 1, lo, hi, h, hp => by
    have e : (2 : Int) ^ (n + 1) = 2 * 2 ^ n := by rw [Int.pow_succ]; omega
    rw [e] at hp
    have ih := lastF_all P n
    generalize (2 : Int) ^ n = p at *
    unfold lastF
    by_cases h1 : 1 < hi - lo
    · rw [if_pos h1]
      obtain ⟨mid, hm⟩ : ∃ mid, mid = lo + (hi - lo) / 2 := ⟨_, rfl⟩
      rw [← hm]
      by_cases hP : P mid = true
      · rw [if_pos hP]
        obtain ⟨a, b, c, d, f⟩ := ih mid hi (by omega) (by omega)
        refine ⟨by omega, b, fun _ => c (by omega), ?_, fun _ => f (by omega)⟩
        rcases d with d | d
        · rw [d]; exact .inr hP
        · exact .inr d
      · rw [if_neg hP]
        obtain ⟨a, b, c, d, f⟩ := ih lo mid (by omega) (by omega)
        refine ⟨a, by omega, fun _ => by omega, d, fun _ => ?_⟩
        rcases f (by omega) with f | f
        · rw [f]; exact .inr (by simpa using hP)
        · exact .inr f
    · rw [if_neg h1]
      exact ⟨by omega, h, fun h => h, .inl rfl, fun h => .inl (by omega)⟩
/-- What narrowing yields from an interval at whose ends the function is -1 and 1. -/
structure NarOk (s : Int → Int) (width lo hi : Int) (r : NarR) : Prop where
  a : lo ≤ r.lo
  b : r.lo < r.hi
  c : r.hi ≤ hi
  m : s r.lo = -1
  p : s r.hi = 1
  w : r.is = true → r.hi - r.lo ≤ width
theorem narE_all {s : Int → Int} {width lo hi mid : Int} (h1 : lo < mid) (h2 : mid < hi) (hs : hi - lo ≤ 2 ^ 62) (hm : s lo = -1) (hp : s hi = 1) (hmm : s mid ≠ -1) (hmp : s mid ≠ 1) : NarOk s width lo hi (narE s width lo hi mid) ∧
    (∀ d, (∀ x y, lo ≤ x → y ≤ hi → x + d ≤ y → s x ≠ -1 → s y = 1) → d + 2 ≤ width → 0 ≤ d → (narE s width lo hi mid).is = true) := by
  obtain ⟨a1, a2, a3, a4, a5⟩ := lastF_all (fun x => s x == -1) 62 lo mid (by omega) (by omega)
  obtain ⟨b1, b2, b3, b4, b5⟩ := lastF_all (fun x => s (-x) == 1) 62 (-hi) (-mid) (by omega) (by omega)
  unfold narE
  generalize lastF (fun x => s x == -1) 62 lo mid = l at *
  generalize lastF (fun x => s (-x) == 1) 62 (-hi) (-mid) = r at *
  have a3 := a3 (by omega)
  have b3 := b3 (by omega)
  have sl : s l = -1 := by
    rcases a4 with e | e
    · rw [e]; exact hm
    · simpa using e
  have sr : s (-r) = 1 := by
    rcases b4 with e | e
    · rw [e, Int.neg_neg]; exact hp
    · simpa using e
  refine ⟨⟨a1, by show l < -r; omega, by show -r ≤ hi; omega, sl, sr, fun h => by simpa using h⟩, fun d hg hd d0 => ?_⟩
  have sl1 : s (l + 1) ≠ -1 := by
    rcases a5 (by omega) with e | e
    · rw [e]; exact hmm
    · simpa using e
  have sr1 : s (-r - 1) ≠ 1 := by
    rcases b5 (by omega) with e | e
    · rw [show -r - 1 = mid by omega]; exact hmp
    · have : s (-(r + 1)) ≠ 1 := by simpa using e
      rw [show -(r + 1) = -r - 1 by omega] at this; exact this
  have hw : -r - l ≤ width := by
    by_cases h : l + 1 + d ≤ -r - 1
    · exact absurd (hg (l + 1) (-r - 1) (by omega) (by omega) h sl1) sr1
    · omega
  exact decide_eq_true hw
theorem narF_all {s : Int → Int} {width : Int} (w0 : 1 ≤ width) : ∀ (n : Nat) (lo hi : Int), lo < hi → hi - lo ≤ 2 ^ n → hi - lo ≤ 2 ^ 62 → s lo = -1 → s hi = 1 → NarOk s width lo hi (narF s width n lo hi) ∧
    (∀ d, (∀ x y, lo ≤ x → y ≤ hi → x + d ≤ y → s x ≠ -1 → s y = 1) → d + 2 ≤ width → 0 ≤ d → (narF s width n lo hi).is = true)
  | 0, lo, hi, h, hp, hs, hm, hq => by
    unfold narF
    rw [show (2 : Int) ^ 0 = 1 from rfl] at hp
    exact ⟨⟨Int.le_refl _, h, Int.le_refl _, hm, hq, fun _ => by show hi - lo ≤ width; omega⟩, fun _ _ _ _ => rfl⟩
  | n + 1, lo, hi, h, hp, hs, hm, hq => by
    have e : (2 : Int) ^ (n + 1) = 2 * 2 ^ n := by rw [Int.pow_succ]; omega
    rw [e] at hp
    have ih := narF_all (s := s) w0 n
    generalize (2 : Int) ^ n = p at *
    unfold narF
    by_cases h1 : width < hi - lo
    · rw [if_pos h1]
      obtain ⟨mid, hmid⟩ : ∃ mid, mid = lo + (hi - lo) / 2 := ⟨_, rfl⟩
      rw [← hmid]
      by_cases c1 : s mid = -1
      · rw [if_pos c1]
        obtain ⟨⟨q2, q3, q4, q5, q6, q7⟩, q8⟩ := ih mid hi (by omega) (by omega) (by omega) c1 hq
        exact ⟨⟨by omega, q3, q4, q5, q6, q7⟩, fun d hg hd d0 => q8 d (fun x y h1 h2 h3 h4 => hg x y (by omega) h2 h3 h4) hd d0⟩
      · rw [if_neg c1]
        by_cases c2 : s mid = 1
        · rw [if_pos c2]
          obtain ⟨⟨q2, q3, q4, q5, q6, q7⟩, q8⟩ := ih lo mid (by omega) (by omega) (by omega) hm c2
          exact ⟨⟨q2, q3, by omega, q5, q6, q7⟩, fun d hg hd d0 => q8 d (fun x y h1 h2 h3 h4 => hg x y h1 (by omega) h3 h4) hd d0⟩
        · rw [if_neg c2]
          exact narE_all (by omega) (by omega) hs hm hq c1 c2
    · rw [if_neg h1]
      exact ⟨⟨Int.le_refl _, h, Int.le_refl _, hm, hq, fun _ => by show hi - lo ≤ width; omega⟩, fun _ _ _ _ => rfl⟩
/-- Whatever the function: the result lies within, and is narrow where that is told. -/
theorem narF_in (s : Int → Int) (width : Int) : ∀ (n : Nat) (lo hi : Int), lo ≤ hi → 1 ≤ width → hi - lo ≤ 2 ^ n → hi - lo ≤ 2 ^ 62 → lo ≤ (narF s width n lo hi).lo ∧ (narF s width n lo hi).hi ≤ hi ∧ (narF s width n lo hi).lo ≤ (narF s width n lo hi).hi ∧ ((narF s width n lo hi).is = true → (narF s width n lo hi).hi - (narF s width n lo hi).lo ≤ width)
  | 0, lo, hi, h, hw, hp, _ => by
    unfold narF
    rw [show (2 : Int) ^ 0 = 1 from rfl] at hp
    exact ⟨Int.le_refl _, Int.le_refl _, h, fun _ => by show hi - lo ≤ width; omega⟩
  | n + 1, lo, hi, h, hw, hp, hs => by
    have e : (2 : Int) ^ (n + 1) = 2 * 2 ^ n := by rw [Int.pow_succ]; omega
    rw [e] at hp
    have ih := narF_in s width n
    generalize (2 : Int) ^ n = p at *
    unfold narF
    by_cases h1 : width < hi - lo
    · rw [if_pos h1]
      obtain ⟨mid, hmid⟩ : ∃ mid, mid = lo + (hi - lo) / 2 := ⟨_, rfl⟩
      rw [← hmid]
      by_cases c1 : s mid = -1
      · rw [if_pos c1]
        obtain ⟨q1, q2, q3, q4⟩ := ih mid hi (by omega) hw (by omega) (by omega)
        exact ⟨by omega, q2, q3, q4⟩
      · rw [if_neg c1]
        by_cases c2 : s mid = 1
        · rw [if_pos c2]
          obtain ⟨q1, q2, q3, q4⟩ := ih lo mid (by omega) hw (by omega) (by omega)
          exact ⟨q1, by omega, q3, q4⟩
        · rw [if_neg c2]
          obtain ⟨a1, a2, a3, a4, a5⟩ := lastF_all (fun x => s x == -1) 62 lo mid (by omega) (by omega)
          obtain ⟨b1, b2, b3, b4, b5⟩ := lastF_all (fun x => s (-x) == 1) 62 (-hi) (-mid) (by omega) (by omega)
          unfold narE
          generalize lastF (fun x => s x == -1) 62 lo mid = l at *
          generalize lastF (fun x => s (-x) == 1) 62 (-hi) (-mid) = r at *
          exact ⟨a1, by show -r ≤ hi; omega, by show l ≤ -r; omega, fun h => by simpa using h⟩
    · rw [if_neg h1]
      exact ⟨Int.le_refl _, Int.le_refl _, h, fun _ => by show hi - lo ≤ width; omega⟩
/-- Which side of a target an interval of angles lies on. -/
def sideV (lo hi target : Int) : Int :=
  if (lo - target) % 1000000000 = 0 ∨ 1000000000 ≤ (lo - target) % 1000000000 + (hi - lo) then 0
  else if (lo - target) % 1000000000 ≤ 500000000 ∧ 500000000 ≤ (lo - target) % 1000000000 + (hi - lo) then 2
  else if (lo - target) % 1000000000 < 500000000 then 1 else -1
/-- The same of bounds that are not brought into a turn, near a target that is not either. -/
theorem side_lift {lo hi target L H T : Int} (e1 : lo = L % 1000000000) (e2 : hi - lo = H - L) (e3 : T % 1000000000 = target % 1000000000) (h1 : -400000000 < L - T) (h2 : L - T < 400000000) (h3 : L ≤ H) (h4 : H - L ≤ 1000000) :
    sideV lo hi target = if H < T then -1 else if L ≤ T then 0 else 1 := by
  unfold sideV
  rw [e2]
  have e : (lo - target) % 1000000000 = (L - T) % 1000000000 := by omega
  rw [e]
  by_cases c1 : H < T
  · rw [if_pos c1, if_neg (by omega), if_neg (by omega), if_neg (by omega)]
  · rw [if_neg c1]
    by_cases c2 : L ≤ T
    · rw [if_pos c2, if_pos (by omega)]
    · rw [if_neg c2, if_neg (by omega), if_neg (by omega), if_pos (by omega)]
end Go.Proofs.YtplhegjgkmabiaaDoor
