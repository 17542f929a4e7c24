/- Narrowing an interval at whose ends a function is -1 and 1. No program in sight. Contracts of series.Side, series.last, series.Narrow for any function that is told by a function on numbers. The contract of series.Narrow for any function that is told by a function on numbers. The contract of series.Narrow for any function with three captured variables that is told by a function on numbers. -/
import Derived.Test.YtcgnhnmigmdalaaGreatDoorPlA
import Derived.Test.YtcgnhnmigmdalaaGreatDoorWkA
import Derived.Test.YtcgnhnmigmdalaaGreatDoorWkB
import Derived.Deep.LoopGhost
import Derived.Deep.QuietTactic
import Derived.BigQuiet
set_option linter.unusedVariables false
set_option linter.unusedSimpArgs false
namespace Go.Proofs.YtcgnhnmigmdalaaGreatDoor
section
/-- The last number at which a condition holds, by halving. -/
def lastF (P : Int → Bool) : Nat → Int → Int → Int
  | 0, lo, _ => lo
  | n + 1, lo, hi => if 1 < hi - lo then (if P (lo + (hi - lo) / 2) = true then lastF P n (lo + (hi - lo) / 2) hi else lastF P n lo (lo + (hi - lo) / 2)) else lo
structure NarR where
  lo : Int
  hi : Int
  is : Bool
/-- What is looked for on both sides of a number at which nothing is decided. -/
def narE (s : Int → Int) (width lo hi mid : Int) : NarR :=
  ⟨lastF (fun x => s x == -1) 62 lo mid, -lastF (fun x => s (-x) == 1) 62 (-hi) (-mid), decide (-lastF (fun x => s (-x) == 1) 62 (-hi) (-mid) - lastF (fun x => s x == -1) 62 lo mid ≤ width)⟩
def narF (s : Int → Int) (width : Int) : Nat → Int → Int → NarR
  | 0, lo, hi => ⟨lo, hi, true⟩
  | n + 1, lo, hi => if width < hi - lo then
      (if s (lo + (hi - lo) / 2) = -1 then narF s width n (lo + (hi - lo) / 2) hi
       else if s (lo + (hi - lo) / 2) = 1 then narF s width n lo (lo + (hi - lo) / 2)
       else narE s width lo hi (lo + (hi - lo) / 2))
    else ⟨lo, hi, true⟩
theorem lastF_all (P : Int → Bool) : ∀ (n : Nat) (lo hi : Int), lo ≤ hi → hi - lo ≤ 2 ^ n → lo ≤ lastF P n lo hi ∧ lastF P n lo hi ≤ hi ∧ (lo < hi → lastF P n lo hi < hi) ∧ (lastF P n lo hi = lo ∨ P (lastF P n lo hi) = true) ∧ (lo < hi → lastF P n lo hi + 1 = hi ∨ P (lastF P n lo hi + 1) = false)
  | 0, lo, hi, h, hp => by
    unfold lastF
    rw [show (2 : Int) ^ 0 = 1 from rfl] at hp
    exact ⟨by omega, h, fun h => h, .inl rfl, fun h => .inl (by omega)⟩
  | n + 1, lo, hi, h, hp => by
    have e : (2 : Int) ^ (n + 1) = 2 * 2 ^ n := by rw [Int.pow_succ]; omega
    rw [e] at hp
    have ih := lastF_all P n
    generalize (2 : Int) ^ n = p at *
    unfold lastF
    by_cases h1 : 1 < hi - lo
    · rw [if_pos h1]
      obtain ⟨mid, hm⟩ : ∃ mid, mid = lo + (hi - lo) / 2 := ⟨_, rfl⟩
      rw [← hm]
      by_cases hP : P mid = true
      · rw [if_pos hP]
        obtain ⟨a, b, c, d, f⟩ := ih mid hi (by omega) (by omega)
        refine ⟨by omega, b, fun _ => c (by omega), ?_, fun _ => f (by omega)⟩
        rcases d with d | d
        · rw [d]; exact .inr hP
        · exact .inr d
      · rw [if_neg hP]
        obtain ⟨a, b, c, d, f⟩ := ih lo mid (by omega) (by omega)
        refine ⟨a, by omega, fun _ => by omega, d, fun _ => ?_⟩
        rcases f (by omega) with f | f
        · rw [f]; exact .inr (by simpa using hP)
        · exact .inr f
    · rw [if_neg h1]
      exact ⟨by omega, h, fun h => h, .inl rfl, fun h => .inl (by omega)⟩
/-- What narrowing yields from an interval at whose ends the function is -1 and 1. -/
structure NarOk (s : Int → Int) (width lo hi : Int) (r : NarR) : Prop where
  a : lo ≤ r.lo
  b : r.lo < r.hi
  c : r.hi ≤ hi
  m : s r.lo = -1
  p : s r.hi = 1
  w : r.is = true → r.hi - r.lo ≤ width
theorem narE_all {s : Int → Int} {width lo hi mid : Int} (h1 : lo < mid) (h2 : mid < hi) (hs : hi - lo ≤ 2 ^ 62) (hm : s lo = -1) (hp : s hi = 1) (hmm : s mid ≠ -1) (hmp : s mid ≠ 1) : NarOk s width lo hi (narE s width lo hi mid) ∧
    (∀ d, (∀ x y, lo ≤ x → y ≤ hi → x + d ≤ y → s x ≠ -1 → s y = 1) → d + 2 ≤ width → 0 ≤ d → (narE s width lo hi mid).is = true) := by
  obtain ⟨a1, a2, a3, a4, a5⟩ := lastF_all (fun x => s x == -1) 62 lo mid (by omega) (by omega)
  obtain ⟨b1, b2, b3, b4, b5⟩ := lastF_all (fun x => s (-x) == 1) 62 (-hi) (-mid) (by omega) (by omega)
  unfold narE
  generalize lastF (fun x => s x == -1) 62 lo mid = l at *
  generalize lastF (fun x => s (-x) == 1) 62 (-hi) (-mid) = r at *
  have a3 := a3 (by omega)
  have b3 := b3 (by omega)
  have sl : s l = -1 := by
    rcases a4 with e | e
    · rw [e]; exact hm
    · simpa using e
  have sr : s (-r) = 1 := by
    rcases b4 with e | e
    · rw [e, Int.neg_neg]; exact hp
    · simpa using e
  refine ⟨⟨a1, by show l < -r; omega, by show -r ≤ hi; omega, sl, sr, fun h => by simpa using h⟩, fun d hg hd d0 => ?_⟩
  have sl1 : s (l + 1) ≠ -1 := by
    rcases a5 (by omega) with e | e
    · rw [e]; exact hmm
    · simpa using e
  have sr1 : s (-r - 1) ≠ 1 := by
    rcases b5 (by omega) with e | e
    · rw [show -r - 1 = mid by omega]; exact hmp
    · have : s (-(r + 1)) ≠ 1 := by simpa using e
      rw [show -(r + 1) = -r - 1 by omega] at this; exact this
  have hw : -r - l ≤ width := by
    by_cases h : l + 1 + d ≤ -r - 1
    · exact absurd (hg (l + 1) (-r - 1) (by omega) (by omega) h sl1) sr1
    · omega
  exact decide_eq_true hw
theorem narF_all {s : Int → Int} {width : Int} (w0 : 1 ≤ width) : ∀ (n : Nat) (lo hi : Int), lo < hi → hi - lo ≤ 2 ^ n → hi - lo ≤ 2 ^ 62 → s lo = -1 → s hi = 1 → NarOk s width lo hi (narF s width n lo hi) ∧
    (∀ d, (∀ x y, lo ≤ x → y ≤ hi → x + d ≤ y → s x ≠ -1 → s y = 1) → d + 2 ≤ width → 0 ≤ d → (narF s width n lo hi).is = true)
  | 0, lo, hi, h, hp, hs, hm, hq => by
    unfold narF
    rw [show (2 : Int) ^ 0 = 1 from rfl] at hp
    exact ⟨⟨Int.le_refl _, h, Int.le_refl _, hm, hq, fun _ => by show hi - lo ≤ width; omega⟩, fun _ _ _ _ => rfl⟩
  | n + 1, lo, hi, h, hp, hs, hm, hq => by
    have e : (2 : Int) ^ (n + 1) = 2 * 2 ^ n := by rw [Int.pow_succ]; omega
    rw [e] at hp
    have ih := narF_all (s := s) w0 n
    generalize (2 : Int) ^ n = p at *
    unfold narF
    by_cases h1 : width < hi - lo
    · rw [if_pos h1]
      obtain ⟨mid, hmid⟩ : ∃ mid, mid = lo + (hi - lo) / 2 := ⟨_, rfl⟩
      rw [← hmid]
      by_cases c1 : s mid = -1
      · rw [if_pos c1]
        obtain ⟨⟨q2, q3, q4, q5, q6, q7⟩, q8⟩ := ih mid hi (by omega) (by omega) (by omega) c1 hq
        exact ⟨⟨by omega, q3, q4, q5, q6, q7⟩, fun d hg hd d0 => q8 d (fun x y h1 h2 h3 h4 => hg x y (by omega) h2 h3 h4) hd d0⟩
      · rw [if_neg c1]
        by_cases c2 : s mid = 1
        · rw [if_pos c2]
          obtain ⟨⟨q2, q3, q4, q5, q6, q7⟩, q8⟩ := ih lo mid (by omega) (by omega) (by omega) hm c2
          exact ⟨⟨q2, q3, by omega, q5, q6, q7⟩, fun d hg hd d0 => q8 d (fun x y h1 h2 h3 h4 => hg x y h1 (by omega) h3 h4) hd d0⟩
        · rw [if_neg c2]
          exact narE_all (by omega) (by omega) hs hm hq c1 c2
    · rw [if_neg h1]
      exact ⟨⟨Int.le_refl _, h, Int.le_refl _, hm, hq, fun _ => by show hi - lo ≤ width; omega⟩, fun _ _ _ _ => rfl⟩
/-- Whatever the function: the result lies within, and is narrow where that is told. -/
theorem narF_in (s : Int → Int) (width : Int) : ∀ (n : Nat) (lo hi : Int), lo ≤ hi → 1 ≤ width → hi - lo ≤ 2 ^ n → hi - lo ≤ 2 ^ 62 → lo ≤ (narF s width n lo hi).lo ∧ (narF s width n lo hi).hi ≤ hi ∧ (narF s width n lo hi).lo ≤ (narF s width n lo hi).hi ∧ ((narF s width n lo hi).is = true → (narF s width n lo hi).hi - (narF s width n lo hi).lo ≤ width)
  | 0, lo, hi, h, hw, hp, _ => by
    unfold narF
    rw [show (2 : Int) ^ 0 = 1 from rfl] at hp
    exact ⟨Int.le_refl _, Int.le_refl _, h, fun _ => by show hi - lo ≤ width; omega⟩
  | n + 1, lo, hi, h, hw, hp, hs => by
    have e : (2 : Int) ^ (n + 1) = 2 * 2 ^ n := by rw [Int.pow_succ]; omega
    rw [e] at hp
    have ih := narF_in s width n
    generalize (2 : Int) ^ n = p at *
    unfold narF
    by_cases h1 : width < hi - lo
    · rw [if_pos h1]
      obtain ⟨mid, hmid⟩ : ∃ mid, mid = lo + (hi - lo) / 2 := ⟨_, rfl⟩
      rw [← hmid]
      by_cases c1 : s mid = -1
      · rw [if_pos c1]
        obtain ⟨q1, q2, q3, q4⟩ := ih mid hi (by omega) hw (by omega) (by omega)
        exact ⟨by omega, q2, q3, q4⟩
      · rw [if_neg c1]
        by_cases c2 : s mid = 1
        · rw [if_pos c2]
          obtain ⟨q1, q2, q3, q4⟩ := ih lo mid (by omega) hw (by omega) (by omega)
          exact ⟨q1, by omega, q3, q4⟩
        · rw [if_neg c2]
          obtain ⟨a1, a2, a3, a4, a5⟩ := lastF_all (fun x => s x == -1) 62 lo mid (by omega) (by omega)
          obtain ⟨b1, b2, b3, b4, b5⟩ := lastF_all (fun x => s (-x) == 1) 62 (-hi) (-mid) (by omega) (by omega)
          unfold narE
          generalize lastF (fun x => s x == -1) 62 lo mid = l at *
          generalize lastF (fun x => s (-x) == 1) 62 (-hi) (-mid) = r at *
          exact ⟨a1, by show -r ≤ hi; omega, by show l ≤ -r; omega, fun h => by simpa using h⟩
    · rw [if_neg h1]
      exact ⟨Int.le_refl _, Int.le_refl _, h, fun _ => by show hi - lo ≤ width; omega⟩
/-- Which side of a target an interval of angles lies on. -/
def sideV (lo hi target : Int) : Int :=
  if (lo - target) % 1000000000 = 0 ∨ 1000000000 ≤ (lo - target) % 1000000000 + (hi - lo) then 0
  else if (lo - target) % 1000000000 ≤ 500000000 ∧ 500000000 ≤ (lo - target) % 1000000000 + (hi - lo) then 2
  else if (lo - target) % 1000000000 < 500000000 then 1 else -1
/-- The same of bounds that are not brought into a turn, near a target that is not either. -/
theorem side_lift {lo hi target L H T : Int} (e1 : lo = L % 1000000000) (e2 : hi - lo = H - L) (e3 : T % 1000000000 = target % 1000000000) (h1 : -400000000 < L - T) (h2 : L - T < 400000000) (h3 : L ≤ H) (h4 : H - L ≤ 1000000) :
    sideV lo hi target = if H < T then -1 else if L ≤ T then 0 else 1 := by
  unfold sideV
  rw [e2]
  have e : (lo - target) % 1000000000 = (L - T) % 1000000000 := by omega
  rw [e]
  by_cases c1 : H < T
  · rw [if_pos c1, if_neg (by omega), if_neg (by omega), if_neg (by omega)]
  · rw [if_neg c1]
    by_cases c2 : L ≤ T
    · rw [if_pos c2, if_pos (by omega)]
    · rw [if_neg c2, if_neg (by omega), if_neg (by omega), if_pos (by omega)]
end
section
open Go.RowKit
/-- A condition on the world that stands while memory is made. -/
def Kept (W : World → Prop) : Prop := ∀ w1 w2, W w1 → Below w1.heap.size w1 w2 → W w2
set_option maxRecDepth 100000 in
set_option maxHeartbeats 1000000 in
theorem c_last (F : Nat) (c : Value) (P : Int → Bool) (W : World → Prop) (lo hi : Int) (w : World) (hW : Kept W) (hw : W w) (h1 : -1000000000000000000 ≤ lo) (h2 : lo ≤ hi) (h3 : hi ≤ 1000000000000000000) (hF : ∀ args w, (callFunc F args).run Tryz.prog w = .ok (.enter F args) w)
    (hf : ∀ w1 x, W w1 → lo ≤ x → x ≤ hi → Calls Tryz.prog F #[.int .i64 x, c] w1 fun e w' => e = .returned (.bool (P x)) ∧ Below w1.heap.size w1 w') :
    Calls Tryz.prog 110 #[.int .i64 lo, .int .i64 hi, .func (.func F) #[] #[c]] w fun e w' => e = .returned (.int .i64 (lastF P 62 lo hi)) ∧ Below w.heap.size w w' := by
  have HF := Lib.hid hf
  have HW := Lib.hid (show ∀ w1 w2, W w1 → Below w1.heap.size w1 w2 → W w2 from hW)
  have HWW := Lib.hid hw
  have e62 : hi - lo ≤ 2 ^ 62 := by rw [show (2 : Int) ^ 62 = 4611686018427387904 from rfl]; omega
  have HE := Lib.hid e62
  obtain ⟨R, hR⟩ : ∃ R, R = lastF P 62 lo hi := ⟨_, rfl⟩
  have HR := Lib.hid hR
  rw [← hR]
  clear hf hW hw e62 hR
  have hgen := sgen; have hgen2 := sgen2; have hgen3 := sgen3; go_enter Tryz.func110, Tryz.ntmps110
  go_wp2_with fail
  go_loopg [0, 1] 62 (fun gk x0 x1 wr => ∃ l h : Int, x0 = .int .i64 l ∧ x1 = .int .i64 h ∧ lo ≤ l ∧ l ≤ h ∧ h ≤ hi ∧ h - l ≤ 2 ^ gk ∧ lastF P gk l h = R ∧ Below w.heap.size w wr)
  case atStart => exact ⟨lo, hi, rfl, rfl, Int.le_refl _, h2, Int.le_refl _, HE.out, HR.out.symm, Below.refl _ _⟩
  case round =>
    obtain ⟨l, h, rfl, rfl, a1, a2, a3, a4, a5, hbel⟩ := hrel
    have hsz := hbel.size
    have HP := Lib.hid a4
    have HL := Lib.hid a5
    clear a4 a5
    have HC := Lib.hid (fun w1 (hb : Below w.heap.size w w1) (x1 : lo ≤ l + (h - l) / 2) (x2 : l + (h - l) / 2 ≤ hi) => HF.out w1 (l + (h - l) / 2) (HW.out _ _ HWW.out hb) x1 x2)
    by_cases hlt : 1 < h - l
    · have gt1 : decide (1 < h - l) = true := decide_eq_true hlt
      cases gk with
      | zero =>
        have := HP.out
        rw [show (2 : Int) ^ 0 = 1 from rfl] at this
        omega
      | succ m =>
      have e : (2 : Int) ^ (m + 1) = 2 * 2 ^ m := by rw [Int.pow_succ]; omega
      have HP2 := Lib.hid (by have := HP.out; rw [e] at this; exact this)
      have hL := HL.out
      unfold lastF at hL
      rw [if_pos hlt] at hL
      have hmid : 0 < (h - l) / 2 ∧ (h - l) / 2 < h - l := by omega
      have hmm : 2 * ((h - l) / 2) ≤ h - l ∧ h - l ≤ 2 * ((h - l) / 2) + 1 := by omega
      cases hP : P (l + (h - l) / 2) with
      | true =>
        rw [hP, if_pos rfl] at hL
        have HL2 := Lib.hid hL
        rw [hP] at HC
        clear hL e hP
        go_wp2_with fail
        ((refine (HC.out wr hbel (by omega) (by omega)).mono ?_); rintro e w1 ⟨rfl, hb⟩; have hz := hb.size; (try simp only [szA, szS, szD, szN] at hz); (try (refine bcB (n := w.heap.size) hb ?_; intro h_w_0 e_w_0 d_w_0 _ _)); (try (refine bcB (n := wr.heap.size) hb ?_; intro h_wr_0 e_wr_0 d_wr_0 _ _)))
        go_wp2
        go_roundg m
        case measure => omega
        case rel => exact ⟨l + (h - l) / 2, h, rfl, rfl, by omega, by omega, a3, by have := HP2.out; omega, HL2.out, by exact belz⟩
      | false =>
        rw [hP, if_neg (by decide)] at hL
        have HL2 := Lib.hid hL
        rw [hP] at HC
        clear hL e hP
        go_wp2_with fail
        ((refine (HC.out wr hbel (by omega) (by omega)).mono ?_); rintro e w1 ⟨rfl, hb⟩; have hz := hb.size; (try simp only [szA, szS, szD, szN] at hz); (try (refine bcB (n := w.heap.size) hb ?_; intro h_w_0 e_w_0 d_w_0 _ _)); (try (refine bcB (n := wr.heap.size) hb ?_; intro h_wr_0 e_wr_0 d_wr_0 _ _)))
        go_wp2
        go_roundg m
        case measure => omega
        case rel => exact ⟨l, l + (h - l) / 2, rfl, rfl, a1, by omega, by omega, by have := HP2.out; omega, HL2.out, by exact belz⟩
    · have gt1 : decide (1 < h - l) = false := decide_eq_false hlt
      have hL := HL.out
      have eR : lastF P gk l h = l := by
        cases gk with
        | zero => rfl
        | succ m => unfold lastF; rw [if_neg hlt]
      rw [eR] at hL
      subst hL
      clear eR
      go_wp2
      go_ret
      refine ⟨rfl, ?_⟩
      exact belz
/-- What a call through a cell with the function does. -/
theorem c_n1 (b : Nat) (F : Nat) (c : Value) (s : Int → Int) (x : Int) (w : World) (hF : ∀ args w, (callFunc F args).run Tryz.prog w = .ok (.enter F args) w) (hb : w.cell? ⟨b, 0, none⟩ = some (.func (.func F) #[] #[c]))
    (hf : ∀ w1, w1 = w → Calls Tryz.prog F #[.int .i64 x, c] w1 fun e w' => e = .returned (.int .i64 (s x)) ∧ Below w1.heap.size w1 w') :
    Calls Tryz.prog 111 #[.int .i64 x, .pointer (some ⟨b, 0, none⟩)] w fun e w' => e = .returned (.bool (s x == -1)) ∧ Below w.heap.size w w' := by
  have HF := Lib.hid hf
  clear hf
  have hgen := sgen; have hgen2 := sgen2; have hgen3 := sgen3; go_enter Tryz.func111, Tryz.ntmps111
  go_wp2_with fail
  ((refine (HF.out _ rfl).mono ?_); rintro e w1 ⟨rfl, hb⟩; have hz := hb.size; (try simp only [szA, szS, szD, szN] at hz); (try (refine bcB (n := w.heap.size) hb ?_; intro h_w_0 e_w_0 d_w_0 _ _)))
  go_wp2
  go_ret
  refine ⟨rfl, ?_⟩
  exact belz
theorem c_n2 (b : Nat) (F : Nat) (c : Value) (s : Int → Int) (x : Int) (w : World) (hF : ∀ args w, (callFunc F args).run Tryz.prog w = .ok (.enter F args) w) (x1 : -1000000000000000000 ≤ x) (x2 : x ≤ 1000000000000000000) (hb : w.cell? ⟨b, 0, none⟩ = some (.func (.func F) #[] #[c]))
    (hf : ∀ w1, w1 = w → Calls Tryz.prog F #[.int .i64 (-x), c] w1 fun e w' => e = .returned (.int .i64 (s (-x))) ∧ Below w1.heap.size w1 w') :
    Calls Tryz.prog 112 #[.int .i64 x, .pointer (some ⟨b, 0, none⟩)] w fun e w' => e = .returned (.bool (s (-x) == 1)) ∧ Below w.heap.size w w' := by
  have HF := Lib.hid hf
  clear hf
  have hgen := sgen; have hgen2 := sgen2; have hgen3 := sgen3; go_enter Tryz.func112, Tryz.ntmps112
  go_wp2_with fail
  ((refine (HF.out _ rfl).mono ?_); rintro e w1 ⟨rfl, hb⟩; have hz := hb.size; (try simp only [szA, szS, szD, szN] at hz); (try (refine bcB (n := w.heap.size) hb ?_; intro h_w_0 e_w_0 d_w_0 _ _)))
  go_wp2
  go_ret
  refine ⟨rfl, ?_⟩
  exact belz
theorem call_n1 (args : Array Value) (w : World) : (callFunc 111 args).run Tryz.prog w = .ok (.enter 111 args) w := by
  go_simp
theorem call_n2 (args : Array Value) (w : World) : (callFunc 112 args).run Tryz.prog w = .ok (.enter 112 args) w := by
  go_simp
end
section
open Go.RowKit
theorem kept_cell {W : World → Prop} (hW : Kept W) (b : Nat) (v : Value) : Kept (fun w1 => W w1 ∧ b < w1.heap.size ∧ w1.cell? ⟨b, 0, none⟩ = some v) := by
  rintro w1 w2 ⟨a, b1, c⟩ hb
  exact ⟨hW _ _ a hb, Nat.lt_of_lt_of_le b1 hb.size, by rw [(bc hb b1).1]; exact c⟩
theorem c_lastA (b F : Nat) (c : Value) (s : Int → Int) (W : World → Prop) (lo hi : Int) (w : World) (hW : Kept W) (hw : W w) (hbl : b < w.heap.size) (hb : w.cell? ⟨b, 0, none⟩ = some (.func (.func F) #[] #[c])) (h1 : -1000000000000000000 ≤ lo) (h2 : lo ≤ hi) (h3 : hi ≤ 1000000000000000000)
    (hF : ∀ args w, (callFunc F args).run Tryz.prog w = .ok (.enter F args) w)
    (hf : ∀ w1 x, W w1 → lo ≤ x → x ≤ hi → Calls Tryz.prog F #[.int .i64 x, c] w1 fun e w' => e = .returned (.int .i64 (s x)) ∧ Below w1.heap.size w1 w') :
    Calls Tryz.prog 110 #[.int .i64 lo, .int .i64 hi, .func (.func 111) #[] #[.pointer (some ⟨b, 0, none⟩)]] w fun e w' => e = .returned (.int .i64 (lastF (fun x => s x == -1) 62 lo hi)) ∧ Below w.heap.size w w' :=
  c_last 111 (.pointer (some ⟨b, 0, none⟩)) (fun x => s x == -1) _ lo hi w (kept_cell hW b _) ⟨hw, hbl, hb⟩ h1 h2 h3 call_n1
    (fun w1 x h x1 x2 => c_n1 b F c s x w1 hF h.2.2 (fun w2 e => by subst e; exact hf w2 x h.1 x1 x2))
theorem c_lastB (b F : Nat) (c : Value) (s : Int → Int) (W : World → Prop) (lo hi : Int) (w : World) (hW : Kept W) (hw : W w) (hbl : b < w.heap.size) (hb : w.cell? ⟨b, 0, none⟩ = some (.func (.func F) #[] #[c])) (h1 : -1000000000000000000 ≤ lo) (h2 : lo ≤ hi) (h3 : hi ≤ 1000000000000000000)
    (hF : ∀ args w, (callFunc F args).run Tryz.prog w = .ok (.enter F args) w)
    (hf : ∀ w1 x, W w1 → lo ≤ x → x ≤ hi → Calls Tryz.prog F #[.int .i64 x, c] w1 fun e w' => e = .returned (.int .i64 (s x)) ∧ Below w1.heap.size w1 w') :
    Calls Tryz.prog 110 #[.int .i64 (-hi), .int .i64 (-lo), .func (.func 112) #[] #[.pointer (some ⟨b, 0, none⟩)]] w fun e w' => e = .returned (.int .i64 (lastF (fun x => s (-x) == 1) 62 (-hi) (-lo))) ∧ Below w.heap.size w w' :=
  c_last 112 (.pointer (some ⟨b, 0, none⟩)) (fun x => s (-x) == 1) _ (-hi) (-lo) w (kept_cell hW b _) ⟨hw, hbl, hb⟩ (by omega) (by omega) (by omega) call_n2
    (fun w1 x h x1 x2 => c_n2 b F c s x w1 hF (by omega) (by omega) h.2.2 (fun w2 e => by subst e; exact hf w2 (-x) h.1 (by omega) (by omega)))
set_option maxRecDepth 100000 in
set_option maxHeartbeats 2000000 in
theorem c_Narrow (F : Nat) (c : Value) (s : Int → Int) (W : World → Prop) (lo hi width : Int) (w : World) (hW : Kept W) (hw : W w) (h1 : -1000000000000000000 ≤ lo) (h2 : lo ≤ hi) (h3 : hi ≤ 1000000000000000000) (hF : ∀ args w, (callFunc F args).run Tryz.prog w = .ok (.enter F args) w) (hwd : 1 ≤ width) (hwd2 : width ≤ 9223372036854775807)
    (hf : ∀ w1 x, W w1 → lo ≤ x → x ≤ hi → Calls Tryz.prog F #[.int .i64 x, c] w1 fun e w' => e = .returned (.int .i64 (s x)) ∧ Below w1.heap.size w1 w') :
    Calls Tryz.prog 82 #[.agg #[.int .i64 lo, .int .i64 hi], .int .i64 width, .func (.func F) #[] #[c]] w fun e w' => e = .returned (.tuple #[.agg #[.int .i64 (narF s width 62 lo hi).lo, .int .i64 (narF s width 62 lo hi).hi], .bool (narF s width 62 lo hi).is]) ∧ Below w.heap.size w w' := by
  have HF := Lib.hid hf
  have HWK := Lib.hid hW
  have HW := Lib.hid (show ∀ w1 w2, W w1 → Below w1.heap.size w1 w2 → W w2 from hW)
  have HWW := Lib.hid hw
  have e62 : hi - lo ≤ 2 ^ 62 := by rw [show (2 : Int) ^ 62 = 4611686018427387904 from rfl]; omega
  have HE := Lib.hid e62
  obtain ⟨R, hR⟩ : ∃ R, R = narF s width 62 lo hi := ⟨_, rfl⟩
  have HR := Lib.hid hR
  have HFF := Lib.hid hF
  rw [← hR]
  clear hf hW hw e62 hR hF
  have hgen := sgen; have hgen2 := sgen2; have hgen3 := sgen3; go_enter Tryz.func82, Tryz.ntmps82
  go_wp2_with fail
  go_quiet (fail)
  go_wp2_with fail
  go_loopg [8, 9] 62 (fun gk x8 x9 wr => ∃ l h : Int, x8 = .int .i64 l ∧ x9 = .int .i64 h ∧ lo ≤ l ∧ l ≤ h ∧ h ≤ hi ∧ h - l ≤ 2 ^ gk ∧ narF s width gk l h = R ∧ Below w.heap.size w wr ∧ w.heap.size + 1 + 1 < wr.heap.size ∧ wr.cell? ⟨w.heap.size + 1, 0, none⟩ = some (.func (.func F) #[] #[c]) ∧ wr.cell? ⟨w.heap.size + 1 + 1, 0, none⟩ = some (.int .i64 0) ∧ wr.cell? ⟨w.heap.size + 1 + 1, 1, none⟩ = some (.int .i64 0) ∧ wr.frozen? ⟨w.heap.size + 1 + 1, 0, none⟩ = false ∧ wr.frozen? ⟨w.heap.size + 1 + 1, 1, none⟩ = false)
  case atStart => exact ⟨lo, hi, rfl, rfl, Int.le_refl _, h2, Int.le_refl _, HE.out, HR.out.symm, by exact belz, by simp, by go_simp, by go_simp, by go_simp, by go_simp, by go_simp⟩
  case round =>
    obtain ⟨l, h, rfl, rfl, a1, a2, a3, a4, a5, hbel, hsz2, k1, k2, k3, k4, k5⟩ := hrel
    have hsz := hbel.size
    have HP := Lib.hid a4
    have HL := Lib.hid a5
    clear a4 a5
    have hFF := HFF.out
    have HC := Lib.hid (fun w1 (hb : Below w.heap.size w w1) (x1 : lo ≤ l + (h - l) / 2) (x2 : l + (h - l) / 2 ≤ hi) => HF.out w1 (l + (h - l) / 2) (HW.out _ _ HWW.out hb) x1 x2)
    have HA := Lib.hid (fun w1 (hb : Below w.heap.size w w1) (hl : w.heap.size + 1 < w1.heap.size) hc (q1 : lo ≤ l) (q2 : l ≤ l + (h - l) / 2) (q3 : l + (h - l) / 2 ≤ hi) => c_lastA (w.heap.size + 1) F c s W l (l + (h - l) / 2) w1 HWK.out (HW.out _ _ HWW.out hb) hl hc (by omega) q2 (by omega) HFF.out (fun w2 x hw2 x1 x2 => HF.out w2 x hw2 (by omega) (by omega)))
    have HB := Lib.hid (fun w1 (hb : Below w.heap.size w w1) (hl : w.heap.size + 1 < w1.heap.size) hc (q1 : lo ≤ l + (h - l) / 2) (q2 : l + (h - l) / 2 ≤ h) (q3 : h ≤ hi) => c_lastB (w.heap.size + 1) F c s W (l + (h - l) / 2) h w1 HWK.out (HW.out _ _ HWW.out hb) hl hc (by omega) q2 (by omega) HFF.out (fun w2 x hw2 x1 x2 => HF.out w2 x hw2 (by omega) (by omega)))
    by_cases hlt : width < h - l
    · have gt1 : decide (width < h - l) = true := decide_eq_true hlt
      cases gk with
      | zero =>
        have := HP.out
        rw [show (2 : Int) ^ 0 = 1 from rfl] at this
        omega
      | succ m =>
      have e : (2 : Int) ^ (m + 1) = 2 * 2 ^ m := by rw [Int.pow_succ]; omega
      have HP2 := Lib.hid (by have := HP.out; rw [e] at this; exact this)
      have hL := HL.out
      unfold narF at hL
      rw [if_pos hlt] at hL
      have hmid : 0 < (h - l) / 2 ∧ (h - l) / 2 < h - l := by omega
      have hmm : 2 * ((h - l) / 2) ≤ h - l ∧ h - l ≤ 2 * ((h - l) / 2) + 1 := by omega
      by_cases c1 : s (l + (h - l) / 2) = -1
      · rw [if_pos c1] at hL
        have HL2 := Lib.hid hL
        rw [c1] at HC
        clear hL e c1 HA HB
        go_wp2_with fail
        ((refine (HC.out wr hbel (by omega) (by omega)).mono ?_); rintro e w1 ⟨rfl, hb⟩; have hz := hb.size; (try simp only [szA, szS, szD, szN] at hz); (try (refine bcB (n := w.heap.size) hb ?_; intro h_w_0 e_w_0 d_w_0 _ _)); (try (refine bcB (n := w.heap.size + 1) hb ?_; intro h_w_1 e_w_1 d_w_1 _ _)); (try (refine bcB (n := w.heap.size + 1 + 1) hb ?_; intro h_w_2 e_w_2 d_w_2 _ _)); (try (refine bcB (n := wr.heap.size) hb ?_; intro h_wr_0 e_wr_0 d_wr_0 _ _)))
        go_wp2
        go_roundg m
        case measure => omega
        case rel => exact ⟨l + (h - l) / 2, h, rfl, rfl, by omega, by omega, a3, by have := HP2.out; omega, HL2.out, by exact belz, by omega, by simp only [*], by simp only [*], by simp only [*], by simp only [*], by simp only [*]⟩
      · by_cases c2 : s (l + (h - l) / 2) = 1
        · rw [if_neg c1, if_pos c2] at hL
          have HL2 := Lib.hid hL
          rw [c2] at HC
          clear hL e c1 c2 HA HB
          go_wp2_with fail
          ((refine (HC.out wr hbel (by omega) (by omega)).mono ?_); rintro e w1 ⟨rfl, hb⟩; have hz := hb.size; (try simp only [szA, szS, szD, szN] at hz); (try (refine bcB (n := w.heap.size) hb ?_; intro h_w_0 e_w_0 d_w_0 _ _)); (try (refine bcB (n := w.heap.size + 1) hb ?_; intro h_w_1 e_w_1 d_w_1 _ _)); (try (refine bcB (n := w.heap.size + 1 + 1) hb ?_; intro h_w_2 e_w_2 d_w_2 _ _)); (try (refine bcB (n := wr.heap.size) hb ?_; intro h_wr_0 e_wr_0 d_wr_0 _ _)))
          go_wp2
          go_roundg m
          case measure => omega
          case rel => exact ⟨l, l + (h - l) / 2, rfl, rfl, a1, by omega, by omega, by have := HP2.out; omega, HL2.out, by exact belz, by omega, by simp only [*], by simp only [*], by simp only [*], by simp only [*], by simp only [*]⟩
        · rw [if_neg c1, if_neg c2] at hL
          have HL2 := Lib.hid hL
          have f1 : (s (l + (h - l) / 2) == -1) = false := by simpa using c1
          have f2 : (s (l + (h - l) / 2) == 1) = false := by simpa using c2
          generalize s (l + (h - l) / 2) = sv at HC f1 f2
          obtain ⟨A1, A2, -, -, -⟩ := lastF_all (fun x => s x == -1) 62 l (l + (h - l) / 2) (by omega) (by rw [show (2 : Int) ^ 62 = 4611686018427387904 from rfl]; omega)
          obtain ⟨B1, B2, -, -, -⟩ := lastF_all (fun x => s (-x) == 1) 62 (-h) (-(l + (h - l) / 2)) (by omega) (by rw [show (2 : Int) ^ 62 = 4611686018427387904 from rfl]; omega)
          unfold narE at HL2
          generalize lastF (fun x => s x == -1) 62 l (l + (h - l) / 2) = LA at *
          generalize lastF (fun x => s (-x) == 1) 62 (-h) (-(l + (h - l) / 2)) = LB at *
          have hR2 := HL2.out
          subst hR2
          clear HL2 HL HR
          clear hL e c1 c2
          go_wp2_with fail
          ((refine (HC.out wr hbel (by omega) (by omega)).mono ?_); rintro e w1 ⟨rfl, hb⟩; have hz := hb.size; (try simp only [szA, szS, szD, szN] at hz); (try (refine bcB (n := w.heap.size) hb ?_; intro h_w_0 e_w_0 d_w_0 _ _)); (try (refine bcB (n := w.heap.size + 1) hb ?_; intro h_w_1 e_w_1 d_w_1 _ _)); (try (refine bcB (n := w.heap.size + 1 + 1) hb ?_; intro h_w_2 e_w_2 d_w_2 _ _)); (try (refine bcB (n := wr.heap.size) hb ?_; intro h_wr_0 e_wr_0 d_wr_0 _ _)))
          go_wp2_with (first | (go_at_call 110; (with_reducible refine (HA.out _ (by exact belz) (by omega) (by go_simp) a1 (by omega) (by omega)).mono ?_); rintro e w2 ⟨rfl, hb⟩; have hz := hb.size; (try simp only [szA, szS, szD, szN] at hz); (try (refine bcB (n := w.heap.size) hb ?_; intro h_w_0 e_w_0 d_w_0 _ _)); (try (refine bcB (n := w.heap.size + 1) hb ?_; intro h_w_1 e_w_1 d_w_1 _ _)); (try (refine bcB (n := w.heap.size + 1 + 1) hb ?_; intro h_w_2 e_w_2 d_w_2 _ _)); (try (refine bcB (n := wr.heap.size) hb ?_; intro h_wr_0 e_wr_0 d_wr_0 _ _)); (try (refine bcB (n := w1.heap.size) hb ?_; intro h_w1_0 e_w1_0 d_w1_0 _ _))) | (go_at_call 110; (with_reducible refine (HB.out _ (by exact belz) (by omega) (by go_simp) (by omega) (by omega) a3).mono ?_); rintro e w3 ⟨rfl, hb⟩; have hz := hb.size; (try simp only [szA, szS, szD, szN] at hz); (try (refine bcB (n := w.heap.size) hb ?_; intro h_w_0 e_w_0 d_w_0 _ _)); (try (refine bcB (n := w.heap.size + 1) hb ?_; intro h_w_1 e_w_1 d_w_1 _ _)); (try (refine bcB (n := w.heap.size + 1 + 1) hb ?_; intro h_w_2 e_w_2 d_w_2 _ _)); (try (refine bcB (n := wr.heap.size) hb ?_; intro h_wr_0 e_wr_0 d_wr_0 _ _)); (try (refine bcB (n := w1.heap.size) hb ?_; intro h_w1_0 e_w1_0 d_w1_0 _ _)); (try (refine bcB (n := w2.heap.size) hb ?_; intro h_w2_0 e_w2_0 d_w2_0 _ _))))
          refine bodyPost_ret (v := .tuple #[.agg #[.int .i64 LA, .int .i64 (-LB)], .bool (decide (-LB - LA ≤ width))]) (by simp only [results, Tryz.results82]; go_simp) rfl ⟨rfl, ?_⟩
          exact belz
    · have gt1 : decide (width < h - l) = false := decide_eq_false hlt
      have hL := HL.out
      have eR : narF s width gk l h = ⟨l, h, true⟩ := by
        cases gk with
        | zero => rfl
        | succ m => unfold narF; rw [if_neg hlt]
      rw [eR] at hL
      subst hL
      clear eR
      go_wp2
      refine bodyPost_ret (v := .tuple #[.agg #[.int .i64 l, .int .i64 h], .bool true]) (by simp only [results, Tryz.results82]; go_simp) rfl ⟨rfl, ?_⟩
      exact belz
end
section
open Go.RowKit
theorem c_n1T (b : Nat) (F : Nat) (c c2 c3 : Value) (s : Int → Int) (x : Int) (w : World) (hF : ∀ args w, (callFunc F args).run Tryz.prog w = .ok (.enter F args) w) (hb : w.cell? ⟨b, 0, none⟩ = some (.func (.func F) #[] #[c, c2, c3]))
    (hf : ∀ w1, w1 = w → Calls Tryz.prog F #[.int .i64 x, c, c2, c3] w1 fun e w' => e = .returned (.int .i64 (s x)) ∧ Below w1.heap.size w1 w') :
    Calls Tryz.prog 111 #[.int .i64 x, .pointer (some ⟨b, 0, none⟩)] w fun e w' => e = .returned (.bool (s x == -1)) ∧ Below w.heap.size w w' := by
  have HF := Lib.hid hf
  clear hf
  have hgen := sgen; have hgen2 := sgen2; have hgen3 := sgen3; go_enter Tryz.func111, Tryz.ntmps111
  go_wp2_with fail
  ((refine (HF.out _ rfl).mono ?_); rintro e w1 ⟨rfl, hb⟩; have hz := hb.size; (try simp only [szA, szS, szD, szN] at hz); (try (refine bcB (n := w.heap.size) hb ?_; intro h_w_0 e_w_0 d_w_0 _ _)))
  go_wp2
  go_ret
  refine ⟨rfl, ?_⟩
  exact belz
theorem c_n2T (b : Nat) (F : Nat) (c c2 c3 : Value) (s : Int → Int) (x : Int) (w : World) (hF : ∀ args w, (callFunc F args).run Tryz.prog w = .ok (.enter F args) w) (x1 : -1000000000000000000 ≤ x) (x2 : x ≤ 1000000000000000000) (hb : w.cell? ⟨b, 0, none⟩ = some (.func (.func F) #[] #[c, c2, c3]))
    (hf : ∀ w1, w1 = w → Calls Tryz.prog F #[.int .i64 (-x), c, c2, c3] w1 fun e w' => e = .returned (.int .i64 (s (-x))) ∧ Below w1.heap.size w1 w') :
    Calls Tryz.prog 112 #[.int .i64 x, .pointer (some ⟨b, 0, none⟩)] w fun e w' => e = .returned (.bool (s (-x) == 1)) ∧ Below w.heap.size w w' := by
  have HF := Lib.hid hf
  clear hf
  have hgen := sgen; have hgen2 := sgen2; have hgen3 := sgen3; go_enter Tryz.func112, Tryz.ntmps112
  go_wp2_with fail
  ((refine (HF.out _ rfl).mono ?_); rintro e w1 ⟨rfl, hb⟩; have hz := hb.size; (try simp only [szA, szS, szD, szN] at hz); (try (refine bcB (n := w.heap.size) hb ?_; intro h_w_0 e_w_0 d_w_0 _ _)))
  go_wp2
  go_ret
  refine ⟨rfl, ?_⟩
  exact belz
theorem c_lastAT (b F : Nat) (c c2 c3 : Value) (s : Int → Int) (W : World → Prop) (lo hi : Int) (w : World) (hW : Kept W) (hw : W w) (hbl : b < w.heap.size) (hb : w.cell? ⟨b, 0, none⟩ = some (.func (.func F) #[] #[c, c2, c3])) (h1 : -1000000000000000000 ≤ lo) (h2 : lo ≤ hi) (h3 : hi ≤ 1000000000000000000)
    (hF : ∀ args w, (callFunc F args).run Tryz.prog w = .ok (.enter F args) w)
    (hf : ∀ w1 x, W w1 → lo ≤ x → x ≤ hi → Calls Tryz.prog F #[.int .i64 x, c, c2, c3] w1 fun e w' => e = .returned (.int .i64 (s x)) ∧ Below w1.heap.size w1 w') :
    Calls Tryz.prog 110 #[.int .i64 lo, .int .i64 hi, .func (.func 111) #[] #[.pointer (some ⟨b, 0, none⟩)]] w fun e w' => e = .returned (.int .i64 (lastF (fun x => s x == -1) 62 lo hi)) ∧ Below w.heap.size w w' :=
  c_last 111 (.pointer (some ⟨b, 0, none⟩)) (fun x => s x == -1) _ lo hi w (kept_cell hW b _) ⟨hw, hbl, hb⟩ h1 h2 h3 call_n1
    (fun w1 x h x1 x2 => c_n1T b F c c2 c3 s x w1 hF h.2.2 (fun w2 e => by subst e; exact hf w2 x h.1 x1 x2))
theorem c_lastBT (b F : Nat) (c c2 c3 : Value) (s : Int → Int) (W : World → Prop) (lo hi : Int) (w : World) (hW : Kept W) (hw : W w) (hbl : b < w.heap.size) (hb : w.cell? ⟨b, 0, none⟩ = some (.func (.func F) #[] #[c, c2, c3])) (h1 : -1000000000000000000 ≤ lo) (h2 : lo ≤ hi) (h3 : hi ≤ 1000000000000000000)
    (hF : ∀ args w, (callFunc F args).run Tryz.prog w = .ok (.enter F args) w)
    (hf : ∀ w1 x, W w1 → lo ≤ x → x ≤ hi → Calls Tryz.prog F #[.int .i64 x, c, c2, c3] w1 fun e w' => e = .returned (.int .i64 (s x)) ∧ Below w1.heap.size w1 w') :
    Calls Tryz.prog 110 #[.int .i64 (-hi), .int .i64 (-lo), .func (.func 112) #[] #[.pointer (some ⟨b, 0, none⟩)]] w fun e w' => e = .returned (.int .i64 (lastF (fun x => s (-x) == 1) 62 (-hi) (-lo))) ∧ Below w.heap.size w w' :=
  c_last 112 (.pointer (some ⟨b, 0, none⟩)) (fun x => s (-x) == 1) _ (-hi) (-lo) w (kept_cell hW b _) ⟨hw, hbl, hb⟩ (by omega) (by omega) (by omega) call_n2
    (fun w1 x h x1 x2 => c_n2T b F c c2 c3 s x w1 hF (by omega) (by omega) h.2.2 (fun w2 e => by subst e; exact hf w2 (-x) h.1 (by omega) (by omega)))
set_option maxRecDepth 100000 in
set_option maxHeartbeats 2000000 in
theorem c_NarrowT (F : Nat) (c c2 c3 : Value) (s : Int → Int) (W : World → Prop) (lo hi width : Int) (w : World) (hW : Kept W) (hw : W w) (h1 : -1000000000000000000 ≤ lo) (h2 : lo ≤ hi) (h3 : hi ≤ 1000000000000000000) (hF : ∀ args w, (callFunc F args).run Tryz.prog w = .ok (.enter F args) w) (hwd : 1 ≤ width) (hwd2 : width ≤ 9223372036854775807)
    (hf : ∀ w1 x, W w1 → lo ≤ x → x ≤ hi → Calls Tryz.prog F #[.int .i64 x, c, c2, c3] w1 fun e w' => e = .returned (.int .i64 (s x)) ∧ Below w1.heap.size w1 w') :
    Calls Tryz.prog 82 #[.agg #[.int .i64 lo, .int .i64 hi], .int .i64 width, .func (.func F) #[] #[c, c2, c3]] w fun e w' => e = .returned (.tuple #[.agg #[.int .i64 (narF s width 62 lo hi).lo, .int .i64 (narF s width 62 lo hi).hi], .bool (narF s width 62 lo hi).is]) ∧ Below w.heap.size w w' := by
  have HF := Lib.hid hf
  have HWK := Lib.hid hW
  have HW := Lib.hid (show ∀ w1 w2, W w1 → Below w1.heap.size w1 w2 → W w2 from hW)
  have HWW := Lib.hid hw
  have e62 : hi - lo ≤ 2 ^ 62 := by rw [show (2 : Int) ^ 62 = 4611686018427387904 from rfl]; omega
  have HE := Lib.hid e62
  obtain ⟨R, hR⟩ : ∃ R, R = narF s width 62 lo hi := ⟨_, rfl⟩
  have HR := Lib.hid hR
  have HFF := Lib.hid hF
  rw [← hR]
  clear hf hW hw e62 hR hF
  have hgen := sgen; have hgen2 := sgen2; have hgen3 := sgen3; go_enter Tryz.func82, Tryz.ntmps82
  go_wp2_with fail
  go_quiet (fail)
  go_wp2_with fail
  go_loopg [8, 9] 62 (fun gk x8 x9 wr => ∃ l h : Int, x8 = .int .i64 l ∧ x9 = .int .i64 h ∧ lo ≤ l ∧ l ≤ h ∧ h ≤ hi ∧ h - l ≤ 2 ^ gk ∧ narF s width gk l h = R ∧ Below w.heap.size w wr ∧ w.heap.size + 1 + 1 < wr.heap.size ∧ wr.cell? ⟨w.heap.size + 1, 0, none⟩ = some (.func (.func F) #[] #[c, c2, c3]) ∧ wr.cell? ⟨w.heap.size + 1 + 1, 0, none⟩ = some (.int .i64 0) ∧ wr.cell? ⟨w.heap.size + 1 + 1, 1, none⟩ = some (.int .i64 0) ∧ wr.frozen? ⟨w.heap.size + 1 + 1, 0, none⟩ = false ∧ wr.frozen? ⟨w.heap.size + 1 + 1, 1, none⟩ = false)
  case atStart => exact ⟨lo, hi, rfl, rfl, Int.le_refl _, h2, Int.le_refl _, HE.out, HR.out.symm, by exact belz, by simp, by go_simp, by go_simp, by go_simp, by go_simp, by go_simp⟩
  case round =>
    obtain ⟨l, h, rfl, rfl, a1, a2, a3, a4, a5, hbel, hsz2, k1, k2, k3, k4, k5⟩ := hrel
    have hsz := hbel.size
    have HP := Lib.hid a4
    have HL := Lib.hid a5
    clear a4 a5
    have hFF := HFF.out
    have HC := Lib.hid (fun w1 (hb : Below w.heap.size w w1) (x1 : lo ≤ l + (h - l) / 2) (x2 : l + (h - l) / 2 ≤ hi) => HF.out w1 (l + (h - l) / 2) (HW.out _ _ HWW.out hb) x1 x2)
    have HA := Lib.hid (fun w1 (hb : Below w.heap.size w w1) (hl : w.heap.size + 1 < w1.heap.size) hc (q1 : lo ≤ l) (q2 : l ≤ l + (h - l) / 2) (q3 : l + (h - l) / 2 ≤ hi) => c_lastAT (w.heap.size + 1) F c c2 c3 s W l (l + (h - l) / 2) w1 HWK.out (HW.out _ _ HWW.out hb) hl hc (by omega) q2 (by omega) HFF.out (fun w2 x hw2 x1 x2 => HF.out w2 x hw2 (by omega) (by omega)))
    have HB := Lib.hid (fun w1 (hb : Below w.heap.size w w1) (hl : w.heap.size + 1 < w1.heap.size) hc (q1 : lo ≤ l + (h - l) / 2) (q2 : l + (h - l) / 2 ≤ h) (q3 : h ≤ hi) => c_lastBT (w.heap.size + 1) F c c2 c3 s W (l + (h - l) / 2) h w1 HWK.out (HW.out _ _ HWW.out hb) hl hc (by omega) q2 (by omega) HFF.out (fun w2 x hw2 x1 x2 => HF.out w2 x hw2 (by omega) (by omega)))
    by_cases hlt : width < h - l
    · have gt1 : decide (width < h - l) = true := decide_eq_true hlt
      cases gk with
      | zero =>
        have := HP.out
        rw [show (2 : Int) ^ 0 = 1 from rfl] at this
        omega
      | succ m =>
      have e : (2 : Int) ^ (m + 1) = 2 * 2 ^ m := by rw [Int.pow_succ]; omega
      have HP2 := Lib.hid (by have := HP.out; rw [e] at this; exact this)
      have hL := HL.out
      unfold narF at hL
      rw [if_pos hlt] at hL
      have hmid : 0 < (h - l) / 2 ∧ (h - l) / 2 < h - l := by omega
      have hmm : 2 * ((h - l) / 2) ≤ h - l ∧ h - l ≤ 2 * ((h - l) / 2) + 1 := by omega
      by_cases c1 : s (l + (h - l) / 2) = -1
      · rw [if_pos c1] at hL
        have HL2 := Lib.hid hL
        rw [c1] at HC
        clear hL e c1 HA HB
        go_wp2_with fail
        ((refine (HC.out wr hbel (by omega) (by omega)).mono ?_); rintro e w1 ⟨rfl, hb⟩; have hz := hb.size; (try simp only [szA, szS, szD, szN] at hz); (try (refine bcB (n := w.heap.size) hb ?_; intro h_w_0 e_w_0 d_w_0 _ _)); (try (refine bcB (n := w.heap.size + 1) hb ?_; intro h_w_1 e_w_1 d_w_1 _ _)); (try (refine bcB (n := w.heap.size + 1 + 1) hb ?_; intro h_w_2 e_w_2 d_w_2 _ _)); (try (refine bcB (n := wr.heap.size) hb ?_; intro h_wr_0 e_wr_0 d_wr_0 _ _)))
        go_wp2
        go_roundg m
        case measure => omega
        case rel => exact ⟨l + (h - l) / 2, h, rfl, rfl, by omega, by omega, a3, by have := HP2.out; omega, HL2.out, by exact belz, by omega, by simp only [*], by simp only [*], by simp only [*], by simp only [*], by simp only [*]⟩
      · by_cases c2 : s (l + (h - l) / 2) = 1
        · rw [if_neg c1, if_pos c2] at hL
          have HL2 := Lib.hid hL
          rw [c2] at HC
          clear hL e c1 c2 HA HB
          go_wp2_with fail
          ((refine (HC.out wr hbel (by omega) (by omega)).mono ?_); rintro e w1 ⟨rfl, hb⟩; have hz := hb.size; (try simp only [szA, szS, szD, szN] at hz); (try (refine bcB (n := w.heap.size) hb ?_; intro h_w_0 e_w_0 d_w_0 _ _)); (try (refine bcB (n := w.heap.size + 1) hb ?_; intro h_w_1 e_w_1 d_w_1 _ _)); (try (refine bcB (n := w.heap.size + 1 + 1) hb ?_; intro h_w_2 e_w_2 d_w_2 _ _)); (try (refine bcB (n := wr.heap.size) hb ?_; intro h_wr_0 e_wr_0 d_wr_0 _ _)))
          go_wp2
          go_roundg m
          case measure => omega
          case rel => exact ⟨l, l + (h - l) / 2, rfl, rfl, a1, by omega, by omega, by have := HP2.out; omega, HL2.out, by exact belz, by omega, by simp only [*], by simp only [*], by simp only [*], by simp only [*], by simp only [*]⟩
        · rw [if_neg c1, if_neg c2] at hL
          have HL2 := Lib.hid hL
          have f1 : (s (l + (h - l) / 2) == -1) = false := by simpa using c1
          have f2 : (s (l + (h - l) / 2) == 1) = false := by simpa using c2
          generalize s (l + (h - l) / 2) = sv at HC f1 f2
          obtain ⟨A1, A2, -, -, -⟩ := lastF_all (fun x => s x == -1) 62 l (l + (h - l) / 2) (by omega) (by rw [show (2 : Int) ^ 62 = 4611686018427387904 from rfl]; omega)
          obtain ⟨B1, B2, -, -, -⟩ := lastF_all (fun x => s (-x) == 1) 62 (-h) (-(l + (h - l) / 2)) (by omega) (by rw [show (2 : Int) ^ 62 = 4611686018427387904 from rfl]; omega)
          unfold narE at HL2
          generalize lastF (fun x => s x == -1) 62 l (l + (h - l) / 2) = LA at *
          generalize lastF (fun x => s (-x) == 1) 62 (-h) (-(l + (h - l) / 2)) = LB at *
          have hR2 := HL2.out
          subst hR2
          clear HL2 HL HR
          clear hL e c1 c2
          go_wp2_with fail
          ((refine (HC.out wr hbel (by omega) (by omega)).mono ?_); rintro e w1 ⟨rfl, hb⟩; have hz := hb.size; (try simp only [szA, szS, szD, szN] at hz); (try (refine bcB (n := w.heap.size) hb ?_; intro h_w_0 e_w_0 d_w_0 _ _)); (try (refine bcB (n := w.heap.size + 1) hb ?_; intro h_w_1 e_w_1 d_w_1 _ _)); (try (refine bcB (n := w.heap.size + 1 + 1) hb ?_; intro h_w_2 e_w_2 d_w_2 _ _)); (try (refine bcB (n := wr.heap.size) hb ?_; intro h_wr_0 e_wr_0 d_wr_0 _ _)))
          go_wp2_with (first | (go_at_call 110; (with_reducible refine (HA.out _ (by exact belz) (by omega) (by go_simp) a1 (by omega) (by omega)).mono ?_); rintro e w2 ⟨rfl, hb⟩; have hz := hb.size; (try simp only [szA, szS, szD, szN] at hz); (try (refine bcB (n := w.heap.size) hb ?_; intro h_w_0 e_w_0 d_w_0 _ _)); (try (refine bcB (n := w.heap.size + 1) hb ?_; intro h_w_1 e_w_1 d_w_1 _ _)); (try (refine bcB (n := w.heap.size + 1 + 1) hb ?_; intro h_w_2 e_w_2 d_w_2 _ _)); (try (refine bcB (n := wr.heap.size) hb ?_; intro h_wr_0 e_wr_0 d_wr_0 _ _)); (try (refine bcB (n := w1.heap.size) hb ?_; intro h_w1_0 e_w1_0 d_w1_0 _ _))) | (go_at_call 110; (with_reducible refine (HB.out _ (by exact belz) (by omega) (by go_simp) (by omega) (by omega) a3).mono ?_); rintro e w3 ⟨rfl, hb⟩; have hz := hb.size; (try simp only [szA, szS, szD, szN] at hz); (try (refine bcB (n := w.heap.size) hb ?_; intro h_w_0 e_w_0 d_w_0 _ _)); (try (refine bcB (n := w.heap.size + 1) hb ?_; intro h_w_1 e_w_1 d_w_1 _ _)); (try (refine bcB (n := w.heap.size + 1 + 1) hb ?_; intro h_w_2 e_w_2 d_w_2 _ _)); (try (refine bcB (n := wr.heap.size) hb ?_; intro h_wr_0 e_wr_0 d_wr_0 _ _)); (try (refine bcB (n := w1.heap.size) hb ?_; intro h_w1_0 e_w1_0 d_w1_0 _ _)); (try (refine bcB (n := w2.heap.size) hb ?_; intro h_w2_0 e_w2_0 d_w2_0 _ _))))
          refine bodyPost_ret (v := .tuple #[.agg #[.int .i64 LA, .int .i64 (-LB)], .bool (decide (-LB - LA ≤ width))]) (by simp only [results, Tryz.results82]; go_simp) rfl ⟨rfl, ?_⟩
          exact belz
    · have gt1 : decide (width < h - l) = false := decide_eq_false hlt
      have hL := HL.out
      have eR : narF s width gk l h = ⟨l, h, true⟩ := by
        cases gk with
        | zero => rfl
        | succ m => unfold narF; rw [if_neg hlt]
      rw [eR] at hL
      subst hL
      clear eR
      go_wp2
      refine bodyPost_ret (v := .tuple #[.agg #[.int .i64 l, .int .i64 h], .bool true]) (by simp only [results, Tryz.results82]; go_simp) rfl ⟨rfl, ?_⟩
      exact belz
end
end Go.Proofs.YtcgnhnmigmdalaaGreatDoor
