/- The contract of placeWorks; the walks through the laws PlaceSidereals and PlaceErrors. -/
import Derived.Test.YtcgnhnmigmdalaaGreatDoorWalkLk2
import Derived.Test.YtcgnhnmigmdalaaGreatDoorTrL
import Derived.Test.YtcgnhnmigmdalaaGreatDoorWalkSva
set_option linter.unusedVariables false
set_option linter.unusedSimpArgs false
namespace Go.Proofs.YtcgnhnmigmdalaaGreatDoor
open Go.RowKit
theorem pw_sid : sidLo 0 0 = 275313108 ∧ sidHi 0 0 = 275313108 := by decide +kernel
theorem pw_up : up0 125000000 (lkH0 0 0 275313108) (lkH1 0 0 275313108) 125000000 125000000 = 999999998 ∧ up1 125000000 (lkH0 0 0 275313108) (lkH1 0 0 275313108) 125000000 125000000 = 1000000000 := by decide +kernel
theorem c_placeWorks (w : World) (hT : Tab w) : Calls Tryz.prog 7 #[] w fun e w' => e = .returned (.bool true) ∧ Below w.heap.size w w' := by
  have hs := fun w1 h => c_Sidereal 0 0 0 w1 h (by decide) (by decide)
  rw [pw_sid.1, pw_sid.2] at hs
  have hl := look_ok (lon := 0) (lat := 125000000) (t := 0) (a0 := 275313108) (a1 := 275313108) (d0 := 125000000) (d1 := 125000000) (by decide) (by decide) (by decide) (by decide) (by decide) (by decide) (by decide) (by decide)
  rw [pw_up.1, pw_up.2] at hl
  have hh := fun w1 h => c_Height hl w1 h
  have HS := Lib.hid hs
  have HH := Lib.hid hh
  have HT := Lib.hid hT
  have H1 := Lib.hid (fun w1 => c_has1 275313108 275313108 275313108 1 w1 (by decide) (by decide) (by decide) (by decide) (by decide))
  have H2 := Lib.hid (fun w1 => c_has1 999999998 1000000000 1000000000 30 w1 (by decide) (by decide) (by decide) (by decide) (by decide))
  clear hs hh hl hT
  generalize ea0 (lkH0 0 0 275313108) (lkH1 0 0 275313108) 125000000 125000000 = q1 at *
  have hgen := sgen; have hgen2 := sgen2; have hgen3 := sgen3; go_enter Tryz.func7, Tryz.ntmps7
  go_wp2_with (first | (go_at_call 44; (with_reducible refine (HS.out _ (HT.out.below (by exact belz))).mono ?_); rintro e w1 ⟨rfl, hb⟩; have hz := hb.size; (try simp only [szA, szS, szD, szN] at hz); (try (refine bcB (n := w.heap.size) hb ?_; intro h_w_0 e_w_0 d_w_0 _ _))) | (go_at_call 11; (with_reducible refine (HH.out _ (HT.out.below (by exact belz))).mono ?_); rintro e w2 ⟨rfl, hb⟩; have hz := hb.size; (try simp only [szA, szS, szD, szN] at hz); (try (refine bcB (n := w.heap.size) hb ?_; intro h_w_0 e_w_0 d_w_0 _ _)); (try (refine bcB (n := w1.heap.size) hb ?_; intro h_w1_0 e_w1_0 d_w1_0 _ _))) | (go_at_call 45; (with_reducible refine (H1.out _).mono ?_); rintro e w3 ⟨rfl, hb⟩; have hz := hb.size; (try simp only [szA, szS, szD, szN] at hz); (try (refine bcB (n := w.heap.size) hb ?_; intro h_w_0 e_w_0 d_w_0 _ _)); (try (refine bcB (n := w1.heap.size) hb ?_; intro h_w1_0 e_w1_0 d_w1_0 _ _)); (try (refine bcB (n := w2.heap.size) hb ?_; intro h_w2_0 e_w2_0 d_w2_0 _ _))) | (go_at_call 45; (with_reducible refine (H2.out _).mono ?_); rintro e w4 ⟨rfl, hb⟩; have hz := hb.size; (try simp only [szA, szS, szD, szN] at hz); (try (refine bcB (n := w.heap.size) hb ?_; intro h_w_0 e_w_0 d_w_0 _ _)); (try (refine bcB (n := w1.heap.size) hb ?_; intro h_w1_0 e_w1_0 d_w1_0 _ _)); (try (refine bcB (n := w2.heap.size) hb ?_; intro h_w2_0 e_w2_0 d_w2_0 _ _)); (try (refine bcB (n := w3.heap.size) hb ?_; intro h_w3_0 e_w3_0 d_w3_0 _ _))))
  go_ret
  refine ⟨rfl, ?_⟩
  exact belz
theorem plE_ne {lon lat : Int} (h : plB lon lat = false) : (plE lon lat == 0) = false := by rw [plE_f h]; decide
theorem twoE_zero {a b c d : Int} (h : twoE a b c d = 0) : spanErr a b = 0 ∧ spanErr c d = 0 := by
  unfold twoE at h
  by_cases q : spanErr a b = 0
  · rw [if_pos q] at h; exact ⟨q, h⟩
  · rw [if_neg q] at h; exact absurd h q
theorem span_ok {lo hi : Int} (h : spanErr lo hi = 0) : lo ≤ hi := by
  unfold spanErr at h
  split at h
  · cases h
  · split at h
    · cases h
    · omega
end Go.Proofs.YtcgnhnmigmdalaaGreatDoor
