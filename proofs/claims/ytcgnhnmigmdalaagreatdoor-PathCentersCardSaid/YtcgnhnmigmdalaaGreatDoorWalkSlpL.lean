/- The walk through the law SeriesSlopes. -/
import Derived.Test.YtcgnhnmigmdalaaGreatDoorWalkSlp
import Derived.Test.YtcgnhnmigmdalaaGreatDoorWalkSva
import Derived.Test.YtcgnhnmigmdalaaGreatDoorPlainSlp4
set_option linter.unusedVariables false
set_option linter.unusedSimpArgs false
namespace Go.Proofs.YtcgnhnmigmdalaaGreatDoor
open Go.RowKit
theorem c_Slope_bad (m r s : Int) (a : Option Addr) (cap : Nat) (l : List Tm) (w : World) (hc : l.length ≤ cap) (hs : TmSlice w a l) (he : sumE m r l s ≠ 0) :
    Calls Tryz.prog 128 #[sumV m r a l.length cap s] w fun e w' => e = .returned (.tuple #[.agg #[.int .i64 0, .int .i64 0], .int .i64 (sumE m r l s)]) ∧ Below w.heap.size w w' := by
  have h1 : (sumE m r l s != 0) = true := by simp [he]
  have HS := Lib.hid hs
  clear hs
  have hgen := sgen; have hgen2 := sgen2; have hgen3 := sgen3; go_enter Tryz.func128, Tryz.ntmps128
  go_wp2_with (go_at_call 113; (refine (c_serCheck _ _ _ _ _ l _ hc (HS.out.below (Nat.le_refl _) (by exact belz))).mono ?_); rintro e w1 ⟨rfl, hb⟩; have hz := hb.size; (try simp only [szA, szS, szD, szN] at hz); (try (refine bcB (n := w.heap.size) hb ?_; intro h_w_0 e_w_0 d_w_0 _ _)); (try (refine bcB (n := w.heap.size + 1) hb ?_; intro h_w_1 e_w_1 d_w_1 _ _)))
  refine bodyPost_ret (v := .tuple #[.agg #[.int .i64 0, .int .i64 0], .int .i64 (sumE m r l s)]) (by simp only [results, Tryz.results128]; go_simp) rfl ⟨rfl, ?_⟩
  exact belz
theorem c_Slope_ok (m r s : Int) (a : Option Addr) (cap : Nat) (l : List Tm) (w : World) (hc : l.length ≤ cap) (hs : TmSlice w a l) (he : sumE m r l s = 0) :
    Calls Tryz.prog 128 #[sumV m r a l.length cap s] w fun e w' => e = .returned (.tuple #[.agg #[.int .i64 (slLo r l), .int .i64 (slHi r l)], .int .i64 0]) ∧ Below w.heap.size w w' := by
  have hk := fun w1 hs1 => c_serCheck m r s a cap l w1 hc hs1
  have HA := Lib.hid (fun w1 hs1 => c_slope m r s a cap l w1 hc hs1 (sumOk_of he))
  rw [he] at hk
  have HK := Lib.hid hk
  have HS := Lib.hid hs
  clear hs hk he
  generalize slLo r l = al at *
  generalize slHi r l = ah at *
  have hgen := sgen; have hgen2 := sgen2; have hgen3 := sgen3; go_enter Tryz.func128, Tryz.ntmps128
  go_wp2_with (first | (go_at_call 113; (refine (HK.out _ (HS.out.below (Nat.le_refl _) (by exact belz))).mono ?_); rintro e w1 ⟨rfl, hb⟩; have hz := hb.size; (try simp only [szA, szS, szD, szN] at hz); (try (refine bcB (n := w.heap.size) hb ?_; intro h_w_0 e_w_0 d_w_0 _ _)); (try (refine bcB (n := w.heap.size + 1) hb ?_; intro h_w_1 e_w_1 d_w_1 _ _))) | (go_at_call 145; (refine (HA.out _ (HS.out.below (Nat.le_refl _) (by exact belz))).mono ?_); rintro e w2 ⟨rfl, hb⟩; have hz := hb.size; (try simp only [szA, szS, szD, szN] at hz); (try (refine bcB (n := w.heap.size) hb ?_; intro h_w_0 e_w_0 d_w_0 _ _)); (try (refine bcB (n := w.heap.size + 1) hb ?_; intro h_w_1 e_w_1 d_w_1 _ _)); (try (refine bcB (n := w1.heap.size) hb ?_; intro h_w1_0 e_w1_0 d_w1_0 _ _))))
  refine bodyPost_ret (v := .tuple #[.agg #[.int .i64 al, .int .i64 ah], .int .i64 0]) (by simp only [results, Tryz.results128]; go_simp) rfl ⟨rfl, ?_⟩
  exact belz
end Go.Proofs.YtcgnhnmigmdalaaGreatDoor
