/- A smeared clock goes on without a step, in plain terms. No program in sight. -/
import Derived.Test.YtenmiilndiaopaaPlainSm
set_option linter.unusedVariables false
set_option linter.unusedSimpArgs false
namespace Go.Proofs.Ytenmiilndiaopaa
theorem fl_bd {w h y z : Int} (hw : 0 < w) (h0 : 0 ≤ h) (hh : h ≤ w) (hy : y ≤ z) : y * 2 * h / w ≤ z * 2 * h / w ∧ z * 2 * h / w ≤ y * 2 * h / w + 2 * (z - y) := by
  constructor
  · exact Int.ediv_le_ediv hw (Int.mul_le_mul_of_nonneg_right (by omega) h0)
  · have e : y * 2 * h + 2 * (z - y) * w - z * 2 * h = 2 * ((z - y) * (w - h)) := by grind
    have p : 0 ≤ (z - y) * (w - h) := Int.mul_nonneg (by omega) (by omega)
    have l : z * 2 * h ≤ y * 2 * h + 2 * (z - y) * w := by omega
    have := Int.ediv_le_ediv hw l
    rw [Int.add_mul_ediv_right _ _ (by omega : w ≠ 0)] at this
    exact this
theorem fl_full {w h : Int} (hw : 0 < w) : w * 2 * h / w = 2 * h := by
  rw [Int.mul_assoc, Int.mul_ediv_cancel_left _ (by omega)]
theorem fl_zero {w h : Int} : 0 * 2 * h / w = 0 := by simp
/-- How far the smeared instant in a window is from the count. -/
theorem fl_near {w h y s : Int} (hw : 0 < w) (e : w = 2 * h + 1000 * s) (hs : s = 1 ∨ s = -1) (y0 : 0 ≤ y) (y1 : y ≤ w) : (s = 1 → y - 1000 ≤ y * 2 * h / w ∧ y * 2 * h / w ≤ y) ∧ (s = -1 → y ≤ y * 2 * h / w ∧ y * 2 * h / w ≤ y + 1000) := by
  constructor <;> intro q <;> subst q
  · have e1 : y * 2 * h = y * w - 1000 * y := by rw [e]; grind
    constructor
    · rw [Int.le_ediv_iff_mul_le hw]
      have : (y - 1000) * w = y * w - 1000 * w := by grind
      omega
    · rw [← Int.lt_add_one_iff, Int.ediv_lt_iff_lt_mul hw]
      have : (y + 1) * w = y * w + w := by grind
      omega
  · have e1 : y * 2 * h = y * w + 1000 * y := by rw [e]; grind
    constructor
    · rw [Int.le_ediv_iff_mul_le hw]; omega
    · rw [← Int.lt_add_one_iff, Int.ediv_lt_iff_lt_mul hw]
      have : (y + 1000 + 1) * w = y * w + 1000 * w + w := by grind
      omega
theorem sm_before {c h n : Int} {l : List Lp} (hb : ∀ x ∈ l, c < smBeg h n x) : sm c h n l = c - 1000 * n := by
  cases l with
  | nil => rfl
  | cons x l =>
    unfold sm
    rw [if_pos (hb x (by simp))]
theorem mid_eq {c h n : Int} {x : Lp} (h0 : 0 ≤ h) (a : ¬ c < smBeg h n x) : smMid c h n x = (x.day + 1) * 86400000 - h + (c - smBeg h n x) * 2 * h / smWid h x := by
  unfold smMid
  rw [Int.tdiv_eq_ediv_of_nonneg (Int.mul_nonneg (by omega) h0)]
/-- The smeared clock does not go back, and at most twice as fast. -/
theorem sm_lip {h : Int} (h1 : 1000 ≤ h) (h2 : h ≤ 43200000) : ∀ (l : List Lp) (last n c d : Int), lpsFrom last l = 0 → c ≤ d → sm c h n l ≤ sm d h n l ∧ sm d h n l ≤ sm c h n l + 2 * (d - c)
  | [], _, n, c, d, _, hcd => by
    show c - 1000 * n ≤ d - 1000 * n ∧ d - 1000 * n ≤ c - 1000 * n + 2 * (d - c)
    omega
  | x :: l, last, n, c, d, hl, hcd => by
    obtain ⟨hl', hx, hs⟩ := lps_cons hl
    have late := lps_late l x.day hl'
    have hw : smWid h x = 2 * h + 1000 * x.sh := rfl
    have hb : smBeg h n x = (x.day + 1) * 86400000 - h + 1000 * n := rfl
    have w0 : 0 < smWid h x := by rcases hs with q | q <;> omega
    have w1 : h ≤ smWid h x := by rcases hs with q | q <;> omega
    have hend : sm (smBeg h n x + smWid h x) h (n + x.sh) l = smBeg h n x + smWid h x - 1000 * (n + x.sh) := by
      refine sm_before (fun y hy => ?_)
      have := late y hy
      have hby : smBeg h (n + x.sh) y = (y.day + 1) * 86400000 - h + 1000 * (n + x.sh) := rfl
      rcases hs with q | q <;> omega
    have ih := sm_lip h1 h2 l x.day (n + x.sh)
    have e : ∀ c, sm c h n (x :: l) = if c < smBeg h n x then c - 1000 * n else if c < smBeg h n x + smWid h x then smMid c h n x else sm c h (n + x.sh) l := fun _ => rfl
    have ff := fl_full (h := h) w0
    have fz := fl_zero (w := smWid h x) (h := h)
    rw [e c, e d]
    by_cases c1 : c < smBeg h n x
    · rw [if_pos c1]
      by_cases d1 : d < smBeg h n x
      · rw [if_pos d1]; omega
      · rw [if_neg d1]
        by_cases d2 : d < smBeg h n x + smWid h x
        · rw [if_pos d2, mid_eq (by omega) d1]
          have g := fl_bd (y := 0) (z := d - smBeg h n x) w0 (by omega) w1 (by omega)
          omega
        · rw [if_neg d2]
          have i := ih (smBeg h n x + smWid h x) d hl' (by omega)
          rw [hend] at i
          rcases hs with q | q <;> omega
    · rw [if_neg c1, if_neg (show ¬ d < smBeg h n x by omega)]
      by_cases c2 : c < smBeg h n x + smWid h x
      · rw [if_pos c2, mid_eq (by omega) c1]
        by_cases d2 : d < smBeg h n x + smWid h x
        · rw [if_pos d2, mid_eq (by omega) (by omega)]
          have g := fl_bd (y := c - smBeg h n x) (z := d - smBeg h n x) w0 (by omega) w1 (by omega)
          omega
        · rw [if_neg d2]
          have i := ih (smBeg h n x + smWid h x) d hl' (by omega)
          rw [hend] at i
          have g := fl_bd (y := c - smBeg h n x) (z := smWid h x) w0 (by omega) w1 (by omega)
          omega
      · rw [if_neg c2, if_neg (show ¬ d < smBeg h n x + smWid h x by omega)]
        exact ih c d hl' hcd
theorem lps_sh : ∀ (l : List Lp) (last : Int), lpsFrom last l = 0 → ∀ x ∈ l, x.sh = 1 ∨ x.sh = -1
  | [], _, _, x, hx => absurd hx (by simp)
  | y :: l, last, h, x, hx => by
    obtain ⟨h1, _, h3⟩ := lps_cons h
    rcases List.mem_cons.1 hx with rfl | hx
    · exact h3
    · exact lps_sh l y.day h1 x hx
theorem inst_before {c n : Int} {l : List Lp} (hb : ∀ x ∈ l, c < (x.day + 1) * 86400000 + 1000 * n + min 0 (1000 * x.sh)) : inst c n l = fin c n := by
  cases l with
  | nil => rfl
  | cons x l =>
    unfold inst
    rw [if_pos (hb x (by simp))]
/-- It is near the clock with leaps. -/
theorem sm_near {h : Int} (h1 : 1000 ≤ h) (h2 : h ≤ 43200000) (c : Int) : ∀ (l : List Lp) (last n t : Int) (is : Bool), lpsFrom last l = 0 → inst c n l = (t, is, 0) → sm c h n l - t ≤ 1001 ∧ t - sm c h n l ≤ 1001
  | [], _, n, t, is, _, hi => by
    have := (fin_ok hi).1
    show c - 1000 * n - t ≤ 1001 ∧ t - (c - 1000 * n) ≤ 1001
    omega
  | x :: l, last, n, t, is, hl, hi => by
    obtain ⟨hl', hx, hs⟩ := lps_cons hl
    have late := lps_late l x.day hl'
    have hw : smWid h x = 2 * h + 1000 * x.sh := rfl
    have hb : smBeg h n x = (x.day + 1) * 86400000 - h + 1000 * n := rfl
    have w0 : 0 < smWid h x := by rcases hs with q | q <;> omega
    have e : sm c h n (x :: l) = if c < smBeg h n x then c - 1000 * n else if c < smBeg h n x + smWid h x then smMid c h n x else sm c h (n + x.sh) l := rfl
    have ei : inst c n (x :: l) = if c < (x.day + 1) * 86400000 + 1000 * n + min 0 (1000 * x.sh) then fin c n else if c < (x.day + 1) * 86400000 + 1000 * n + 1000 * x.sh then ((x.day + 1) * 86400000 - 1, true, 0) else inst c (n + x.sh) l := rfl
    rw [ei] at hi
    rw [e]
    by_cases c1 : c < smBeg h n x
    · rw [if_pos c1]
      rw [if_pos (by rcases hs with q | q <;> omega)] at hi
      have := (fin_ok hi).1
      omega
    · rw [if_neg c1]
      by_cases c2 : c < smBeg h n x + smWid h x
      · rw [if_pos c2, mid_eq (by omega) c1]
        obtain ⟨n1, n2⟩ := fl_near (y := c - smBeg h n x) w0 hw hs (by omega) (by omega)
        by_cases i1 : c < (x.day + 1) * 86400000 + 1000 * n + min 0 (1000 * x.sh)
        · rw [if_pos i1] at hi
          have := (fin_ok hi).1
          rcases hs with q | q
          · have := n1 q; omega
          · have := n2 q; omega
        · rw [if_neg i1] at hi
          by_cases i2 : c < (x.day + 1) * 86400000 + 1000 * n + 1000 * x.sh
          · rw [if_pos i2] at hi
            simp only [Prod.mk.injEq] at hi
            rcases hs with q | q
            · have := n1 q; omega
            · omega
          · rw [if_neg i2, inst_before (fun y hy => by have := late y hy; rcases lps_sh l x.day hl' y hy with q' | q' <;> rcases hs with q | q <;> omega)] at hi
            have := (fin_ok hi).1
            rcases hs with q | q
            · have := n1 q; omega
            · have := n2 q; omega
      · rw [if_neg c2]
        rw [if_neg (by rcases hs with q | q <;> omega), if_neg (by rcases hs with q | q <;> omega)] at hi
        exact sm_near h1 h2 c l x.day (n + x.sh) t is hl' hi
theorem sum_low (d : Int) : ∀ (l : List Lp) (last m : Int), lpsFrom last l = 0 → last < d → m - (d - 1 - last) ≤ sumFrom m l d
  | [], last, m, _, hd => by show m - (d - 1 - last) ≤ m; omega
  | y :: l, last, m, hl, hd => by
    obtain ⟨hl', hx, hs⟩ := lps_cons hl
    by_cases hy : y.day < d
    · have e : sumFrom m (y :: l) d = sumFrom (m + y.sh) l d := by unfold sumFrom; rw [List.foldl_cons, if_pos hy]
      have := sum_low d l y.day (m + y.sh) hl' hy
      rw [e]
      rcases hs with q | q <;> omega
    · have late := lps_late l y.day hl'
      have e : sumFrom m (y :: l) d = m := sumFrom_late d (y :: l) m (fun z hz => by rcases List.mem_cons.1 hz with rfl | hz; omega; have := late z hz; omega)
      rw [e]; omega
/-- A midnight is found again from its count. -/
theorem inst_mid (d : Int) : ∀ (l : List Lp) (last n : Int), lpsFrom last l = 0 → inst (d * 86400000 + 1000 * sumFrom n l d) n l = fin (d * 86400000 + 1000 * sumFrom n l d) (sumFrom n l d)
  | [], _, _, _ => rfl
  | x :: l, last, n, hl => by
    obtain ⟨hl', hx, hs⟩ := lps_cons hl
    have late := lps_late l x.day hl'
    by_cases hy : x.day < d
    · have e : sumFrom n (x :: l) d = sumFrom (n + x.sh) l d := by unfold sumFrom; rw [List.foldl_cons, if_pos hy]
      have low := sum_low d l x.day (n + x.sh) hl' hy
      rw [e]
      unfold inst
      rw [if_neg (by rcases hs with q | q <;> omega), if_neg (by rcases hs with q | q <;> omega)]
      exact inst_mid d l x.day (n + x.sh) hl'
    · have e : sumFrom n (x :: l) d = n := sumFrom_late d (x :: l) n (fun z hz => by rcases List.mem_cons.1 hz with rfl | hz; omega; have := late z hz; omega)
      rw [e]
      exact inst_before (fun y hy' => by
        have : x.day ≤ y.day := by rcases List.mem_cons.1 hy' with rfl | hy'; omega; have := late y hy'; omega
        rcases lps_sh (x :: l) last hl y hy' with q | q <;> omega)
end Go.Proofs.Ytenmiilndiaopaa
