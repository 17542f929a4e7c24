/- The contract of the law's figureWorks. -/
import Derived.Test.YtbcehnhiedbbbaaDoorWalkBar
import Derived.Test.YtbcehnhiedbbbaaDoorWalkFgT
import Derived.Test.YtbcehnhiedbbbaaDoorWalkFbx2
import Derived.Test.YtbcehnhiedbbbaaDoorWalkRd2
import Derived.Test.YtbcehnhiedbbbaaDoorFgQ
set_option linter.unusedVariables false
set_option linter.unusedSimpArgs false
namespace Go.Proofs.YtbcehnhiedbbbaaDoor
open Go.RowKit
theorem c_barText (a b : Option Addr) (w : World) (hT : NTab w) (hP : FpSlice w a barP) (hL : MatSlice w b barL) :
    Calls Tryd.prog 27 #[.agg #[.slice a 2 2, .slice b 1 1]] w fun e w' => e = .returned (.tuple #[.string ⟨#[112, 32, 48, 32, 48, 10, 112, 32, 49, 47, 50, 32, 49, 10, 108, 32, 48, 32, 49, 10]⟩, .int .i64 0]) ∧ Below w.heap.size w w' := by
  have h := c_fgText_ok a b 2 1 barP barL w hT hP hL (Nat.le_refl 2) (Nat.le_refl 1) bar_ok
  rw [bar_text] at h
  exact h
theorem c_barBox (a b : Option Addr) (w : World) (hP : FpSlice w a barP) (hL : MatSlice w b barL) :
    Calls Tryd.prog 33 #[.agg #[.slice a 2 2, .slice b 1 1]] w fun e w' => ∃ x0 x1 x2 x3, e = .returned (.tuple #[.agg #[.int .i64 x0, .int .i64 x1, .int .i64 x2, .int .i64 x3], .agg #[.int .i64 1, .int .i64 2, .int .i64 1, .int .i64 1], .int .i64 0]) ∧ Below w.heap.size w w' := by
  have h := c_Box_ok a b 2 1 barP barL w hP hL (Nat.le_refl 2) (Nat.le_refl 1) bar_ok (by decide)
  rw [bar_high] at h
  exact h.mono fun e w' ⟨h1, h2⟩ => ⟨_, _, _, _, h1, h2⟩
theorem c_barRead (w : World) (hT : NTab w) (hE : NEr w) (hM : NMx w) :
    Calls Tryd.prog 31 #[.string ⟨#[112, 32, 48, 32, 48, 10, 112, 32, 49, 47, 50, 32, 49, 10, 108, 32, 48, 32, 49, 10]⟩] w fun e w' => ∃ a b ca cb, e = .returned (.tuple #[.agg #[.slice a 2 ca, .slice b 1 cb], .int .i64 0]) ∧ Below w.heap.size w w' := by
  have h := c_Read (fgT barP barL) w hT hE hM (by rw [bar_text]; decide)
  rw [bar_text] at h
  refine h.mono fun e w' ⟨h1, h2⟩ => ?_
  unfold RdOk at h1
  rw [← bar_text, rd_text bar_ok] at h1
  simp only at h1
  rw [if_pos bar_ok] at h1
  obtain ⟨a, b, ca, cb, he, -⟩ := h1
  exact ⟨a, b, ca, cb, he, h2⟩
theorem c_bar2 (w : World) : Calls Tryd.prog 52 #[] w fun e w' => ∃ a b, e = .returned (.agg #[.slice a 2 2, .slice b 1 1]) ∧ FpSlice w' a barP ∧ MatSlice w' b barL ∧ Below w.heap.size w w' :=
  (c_bar w).mono fun e w' ⟨⟨a, b, h1, h2, h3⟩, h4⟩ => ⟨a, b, h1, h2, h3, h4⟩
set_option maxRecDepth 100000 in
set_option maxHeartbeats 4000000 in
theorem c_fgWorks (w : World) (hT : NTab w) (hE : NEr w) (hM : NMx w) :
    Calls Tryd.prog 26 #[] w fun e w' => e = .returned (.bool true) ∧ Below w.heap.size w w' := by
  have HT := Lib.hid hT
  have HE := Lib.hid hE
  have HM := Lib.hid hM
  clear hT hE hM
  have hgen := sgen; have hgen2 := sgen2; have hgen3 := sgen3; go_enter Tryd.func26, Tryd.ntmps26
  go_upto_region 3 with (first | (go_at_call 52; (with_reducible refine (c_bar2 _).mono ?_); rintro e w1 ⟨a1, b1, rfl, hP1, hL1, hb⟩; have hz := hb.size; (try simp only [szA, szS, szD, szN] at hz); (try (refine bcB (n := w.heap.size) hb ?_; intro h_w_0 e_w_0 d_w_0 _ _))) | (go_at_call 27; (with_reducible refine (c_barText _ _ _ (HT.out.below (by exact belz)) hP1 hL1).mono ?_); rintro e w2 ⟨rfl, hb⟩; have hz := hb.size; (try simp only [szA, szS, szD, szN] at hz); (try (refine bcB (n := w.heap.size) hb ?_; intro h_w_0 e_w_0 d_w_0 _ _))) | (go_at_call 31; (with_reducible refine (c_barRead _ (HT.out.below (by exact belz)) (HE.out.below (by exact belz)) (HM.out.below (by exact belz))).mono ?_); rintro e w3 ⟨a3, b3, c3, d3, rfl, hb⟩; have hz := hb.size; (try simp only [szA, szS, szD, szN] at hz); (try (refine bcB (n := w.heap.size) hb ?_; intro h_w_0 e_w_0 d_w_0 _ _))))
  go_wp2_with (first | (go_at_call 52; (with_reducible refine (c_bar2 _).mono ?_); rintro e w4 ⟨a4, b4, rfl, hP4, hL4, hb⟩; have hz := hb.size; (try simp only [szA, szS, szD, szN] at hz); (try (refine bcB (n := w.heap.size) hb ?_; intro h_w_0 e_w_0 d_w_0 _ _)); (try (refine bcB (n := w3.heap.size) hb ?_; intro h_w3_0 e_w3_0 d_w3_0 _ _))) | (go_at_call 33; (with_reducible refine (c_barBox _ _ _ hP4 hL4).mono ?_); rintro e w5 ⟨x0, x1, x2, x3, rfl, hb⟩; have hz := hb.size; (try simp only [szA, szS, szD, szN] at hz); (try (refine bcB (n := w.heap.size) hb ?_; intro h_w_0 e_w_0 d_w_0 _ _)); (try (refine bcB (n := w3.heap.size) hb ?_; intro h_w3_0 e_w3_0 d_w3_0 _ _))))
  go_ret
  refine ⟨rfl, ?_⟩
  exact belz
end Go.Proofs.YtbcehnhiedbbbaaDoor
