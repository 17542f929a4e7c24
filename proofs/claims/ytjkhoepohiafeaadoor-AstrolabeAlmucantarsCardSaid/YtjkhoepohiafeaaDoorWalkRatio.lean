/- The contract of the reference's InRatio. -/
import Derived.Test.YtjkhoepohiafeaaDoorPlainAst3
import Derived.Test.YtjkhoepohiafeaaDoorWalkCmpA
set_option linter.unusedVariables false
set_option linter.unusedSimpArgs false
namespace Go.Proofs.YtjkhoepohiafeaaDoor
open Go.RowKit
/-- The digits of a number of the base 10^9. -/
def wd (x : Int) (i : Nat) : Int := x / pw i % 1000000000
theorem wd_of {d : Nat → Int} (h : Dig d) {i : Nat} (hi : i < 6) : d i = wd (val6 d) i := by
  have l0 := h.lo 0 (by omega); have l1 := h.lo 1 (by omega); have l2 := h.lo 2 (by omega); have l3 := h.lo 3 (by omega); have l4 := h.lo 4 (by omega); have l5 := h.lo 5 (by omega)
  have u0 := h.hi 0 (by omega); have u1 := h.hi 1 (by omega); have u2 := h.hi 2 (by omega); have u3 := h.hi 3 (by omega); have u4 := h.hi 4 (by omega); have u5 := h.hi 5 (by omega)
  unfold wd val6
  rcases lt6 hi with rfl | rfl | rfl | rfl | rfl | rfl <;> (simp only [pw]; omega)
theorem wd_dig (x : Int) : Dig (wd x) := ⟨fun i _ => by unfold wd; omega, fun i _ => by unfold wd; omega⟩
theorem wd_val {x : Int} (h0 : 0 ≤ x) (h1 : x < 1000000000000000000000000000000000000000000000000000000) : val6 (wd x) = x := by
  unfold val6 wd
  simp only [pw]
  omega
/-- The value of a wide number. -/
def wideN (neg : Bool) (x : Int) : Value := .agg #[.bool neg, .int .i64 (wd x 0), .int .i64 (wd x 1), .int .i64 (wd x 2), .int .i64 (wd x 3), .int .i64 (wd x 4), .int .i64 (wd x 5)]
theorem wideN_of {neg : Bool} {d : Nat → Int} {x : Int} (h : Dig d) (hv : val6 d = x) : WideV neg d = wideN neg x := by
  subst hv
  unfold WideV wideN
  rw [← wd_of h (i := 0) (by omega), ← wd_of h (i := 1) (by omega), ← wd_of h (i := 2) (by omega), ← wd_of h (i := 3) (by omega), ← wd_of h (i := 4) (by omega), ← wd_of h (i := 5) (by omega)]
theorem c_tw (n : Int) (w : World) (h0 : -9223372036854775807 ≤ n) (h1 : n ≤ 9223372036854775807) : Calls Tryd.prog 62 #[.int .i64 n] w fun e w' => e = .returned (wideN (decide (n < 0)) (n.natAbs : Int)) ∧ Below w.heap.size w w' := by
  by_cases h : n < 0
  · refine (c_toWide_neg n w h h0).mono ?_
    rintro e w' ⟨⟨d, he, hd, hv, -⟩, hb⟩
    rw [decide_eq_true h, he, wideN_of (x := (n.natAbs : Int)) hd (by omega)]
    exact ⟨rfl, hb⟩
  · refine (c_toWide_pos n w (by omega) h1).mono ?_
    rintro e w' ⟨⟨d, he, hd, hv, -⟩, hb⟩
    rw [decide_eq_false h, he, wideN_of (x := (n.natAbs : Int)) hd (by omega)]
    exact ⟨rfl, hb⟩
theorem wd_small {x : Int} (h0 : 0 ≤ x) (h1 : x < 1000000000000000000000000000) : wd x 3 = 0 ∧ wd x 4 = 0 ∧ wd x 5 = 0 := by
  unfold wd
  simp only [pw]
  omega
theorem c_tm {na nb nc : Bool} {X Y Z : Int} (w : World) (x0 : 0 ≤ X) (x1 : X < 1000000000000000000000000000) (y0 : 0 ≤ Y) (y1 : Y < 1000000000000000000000000000) (hn : (na != nb) = nc) (hz : X * Y = Z) : Calls Tryd.prog 61 #[wideN na X, wideN nb Y] w fun e w' => e = .returned (wideN nc Z) ∧ Below w.heap.size w w' := by
  obtain ⟨a3, a4, a5⟩ := wd_small x0 x1
  obtain ⟨b3, b4, b5⟩ := wd_small y0 y1
  refine (c_times na nb (wd X) (wd Y) w (wd_dig X) (wd_dig Y) a3 a4 a5 b3 b4 b5).mono ?_
  rintro e w' ⟨⟨d, he, hd, hv⟩, hb⟩
  rw [wd_val x0 (by omega), wd_val y0 (by omega), hz] at hv
  rw [he, wideN_of hd hv, hn]
  exact ⟨rfl, hb⟩
theorem c_cm {na nb : Bool} {X Y : Int} {c : Int} (w : World) (x0 : 0 ≤ X) (x1 : X < 1000000000000000000000000000000000000000000000000000000) (y0 : 0 ≤ Y) (y1 : Y < 1000000000000000000000000000000000000000000000000000000) (hc : cmpI (wsgn na X) (wsgn nb Y) = c) : Calls Tryd.prog 63 #[wideN na X, wideN nb Y] w fun e w' => e = .returned (.int .i64 c) ∧ Below w.heap.size w w' := by
  have h := c_compare na nb (wd X) (wd Y) w (wd_dig X) (wd_dig Y)
  unfold cmpW at h
  rw [wd_val x0 x1, wd_val y0 y1, hc] at h
  exact h
theorem cmpI_le {x y : Int} (h : x ≤ y) : cmpI x y ≤ 0 := by
  rcases Int.lt_or_eq_of_le h with q | q
  · rw [cmpI_lt q]; omega
  · rw [cmpI_eq q]; omega
theorem sgn_nat (n : Int) : wsgn (decide (n < 0)) (n.natAbs : Int) = n := by
  by_cases h : n < 0
  · rw [decide_eq_true h, wsgn_t]; omega
  · rw [decide_eq_false h, wsgn_f]; omega
theorem sgn_mul (na : Bool) (X Y : Int) : wsgn na (X * Y) = wsgn na X * Y := by
  cases na
  · rfl
  · rw [wsgn_t, wsgn_t, Int.neg_mul]
theorem sgn_mul' (na : Bool) (X Y : Int) : wsgn na (X * Y) = X * wsgn na Y := by
  rw [Int.mul_comm, sgn_mul, Int.mul_comm]
theorem bne_f (b : Bool) : (b != false) = b := by cases b <;> rfl
theorem f_bne (b : Bool) : (false != b) = b := by cases b <;> rfl
theorem mul_lt54 {x y X Y : Int} (x0 : 0 ≤ x) (y0 : 0 ≤ y) (hx : x < X) (hy : y < Y) : 0 ≤ x * y ∧ x * y < X * Y := by
  refine ⟨Int.mul_nonneg x0 y0, ?_⟩
  have a := Int.mul_le_mul_of_nonneg_right (Int.le_of_lt hx) y0
  have b := Int.mul_lt_mul_of_pos_left hy (show 0 < X by omega)
  omega
/-- The calls of InRatio. -/
structure RatC (lo hi a b : Int) (nl nh np nq : Bool) (L H B M P Q LB HB MP MQ c1 c2 : Int) : Prop where
  tl : ∀ w : World, Calls Tryd.prog 62 #[.int .i64 lo] w fun e w' => e = .returned (wideN nl L) ∧ Below w.heap.size w w'
  th : ∀ w : World, Calls Tryd.prog 62 #[.int .i64 hi] w fun e w' => e = .returned (wideN nh H) ∧ Below w.heap.size w w'
  tb : ∀ w : World, Calls Tryd.prog 62 #[.int .i64 (2 * b)] w fun e w' => e = .returned (wideN false B) ∧ Below w.heap.size w w'
  tm : ∀ w : World, Calls Tryd.prog 62 #[.int .i64 1000000] w fun e w' => e = .returned (wideN false M) ∧ Below w.heap.size w w'
  tp : ∀ w : World, Calls Tryd.prog 62 #[.int .i64 (a - 1048576)] w fun e w' => e = .returned (wideN np P) ∧ Below w.heap.size w w'
  tq : ∀ w : World, Calls Tryd.prog 62 #[.int .i64 (a + 1048576)] w fun e w' => e = .returned (wideN nq Q) ∧ Below w.heap.size w w'
  ml : ∀ w : World, Calls Tryd.prog 61 #[wideN nl L, wideN false B] w fun e w' => e = .returned (wideN nl LB) ∧ Below w.heap.size w w'
  mh : ∀ w : World, Calls Tryd.prog 61 #[wideN nh H, wideN false B] w fun e w' => e = .returned (wideN nh HB) ∧ Below w.heap.size w w'
  mp : ∀ w : World, Calls Tryd.prog 61 #[wideN false M, wideN np P] w fun e w' => e = .returned (wideN np MP) ∧ Below w.heap.size w w'
  mq : ∀ w : World, Calls Tryd.prog 61 #[wideN false M, wideN nq Q] w fun e w' => e = .returned (wideN nq MQ) ∧ Below w.heap.size w w'
  cl : ∀ w : World, Calls Tryd.prog 63 #[wideN nl LB, wideN nq MQ] w fun e w' => e = .returned (.int .i64 c1) ∧ Below w.heap.size w w'
  ch : ∀ w : World, Calls Tryd.prog 63 #[wideN np MP, wideN nh HB] w fun e w' => e = .returned (.int .i64 c2) ∧ Below w.heap.size w w'
  c10 : c1 ≤ 0
  c20 : c2 ≤ 0
theorem ratC {lo hi a b : Int} (h : RatioOk lo hi a (2 * b)) (l0 : -20000000 ≤ lo) (h1 : hi ≤ 20000000) (a0 : -1160000000000000000 ≤ a) (a1 : a ≤ 1160000000000000000) (b0 : 0 ≤ b) (b1 : b ≤ 1160000000000000000) : ∃ nl nh np nq L H B M P Q LB HB MP MQ c1 c2, RatC lo hi a b nl nh np nq L H B M P Q LB HB MP MQ c1 c2 := by
  obtain ⟨o, wdt, hl, hh⟩ := h
  have eb : decide (2 * b < 0) = false := decide_eq_false (by omega)
  have em : decide ((1000000 : Int) < 0) = false := rfl
  have sb : ((2 * b).natAbs : Int) = 2 * b := by omega
  have s1 := sgn_nat lo
  have s2 := sgn_nat hi
  have s3 := sgn_nat (a - 1048576)
  have s4 := sgn_nat (a + 1048576)
  obtain ⟨p1, p2⟩ := mul_lt54 (x := (lo.natAbs : Int)) (y := ((2 * b).natAbs : Int)) (X := 1000000000) (Y := 10000000000000000000) (by omega) (by omega) (by omega) (by omega)
  obtain ⟨p3, p4⟩ := mul_lt54 (x := (hi.natAbs : Int)) (y := ((2 * b).natAbs : Int)) (X := 1000000000) (Y := 10000000000000000000) (by omega) (by omega) (by omega) (by omega)
  obtain ⟨p5, p6⟩ := mul_lt54 (x := 1000000) (y := ((a - 1048576).natAbs : Int)) (X := 1000000000) (Y := 10000000000000000000) (by omega) (by omega) (by omega) (by omega)
  obtain ⟨p7, p8⟩ := mul_lt54 (x := 1000000) (y := ((a + 1048576).natAbs : Int)) (X := 1000000000) (Y := 10000000000000000000) (by omega) (by omega) (by omega) (by omega)
  refine ⟨decide (lo < 0), decide (hi < 0), decide (a - 1048576 < 0), decide (a + 1048576 < 0), (lo.natAbs : Int), (hi.natAbs : Int), ((2 * b).natAbs : Int), 1000000, ((a - 1048576).natAbs : Int), ((a + 1048576).natAbs : Int), (lo.natAbs : Int) * ((2 * b).natAbs : Int), (hi.natAbs : Int) * ((2 * b).natAbs : Int), 1000000 * ((a - 1048576).natAbs : Int), 1000000 * ((a + 1048576).natAbs : Int), _, _, ?_, ?_, ?_, ?_, ?_, ?_, ?_, ?_, ?_, ?_, fun w => c_cm w p1 (by omega) p7 (by omega) rfl, fun w => c_cm w p5 (by omega) p3 (by omega) rfl, ?_, ?_⟩
  · exact fun w => c_tw lo w (by omega) (by omega)
  · exact fun w => c_tw hi w (by omega) (by omega)
  · exact fun w => by have := c_tw (2 * b) w (by omega) (by omega); rw [eb] at this; exact this
  · exact fun w => c_tw 1000000 w (by omega) (by omega)
  · exact fun w => c_tw (a - 1048576) w (by omega) (by omega)
  · exact fun w => c_tw (a + 1048576) w (by omega) (by omega)
  · exact fun w => c_tm w (by omega) (by omega) (by omega) (by omega) (bne_f _) rfl
  · exact fun w => c_tm w (by omega) (by omega) (by omega) (by omega) (bne_f _) rfl
  · exact fun w => c_tm w (by omega) (by omega) (by omega) (by omega) (f_bne _) rfl
  · exact fun w => c_tm w (by omega) (by omega) (by omega) (by omega) (f_bne _) rfl
  · refine cmpI_le ?_
    rw [sgn_mul, sgn_mul', s1, s4, sb]
    exact hl
  · refine cmpI_le ?_
    rw [sgn_mul', sgn_mul, s2, s3, sb]
    exact hh
end Go.Proofs.YtjkhoepohiafeaaDoor
