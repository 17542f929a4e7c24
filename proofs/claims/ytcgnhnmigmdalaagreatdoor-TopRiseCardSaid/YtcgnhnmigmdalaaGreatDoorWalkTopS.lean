/- The fixed example of the sky and the helpers of the laws on top. -/
import Derived.Test.YtcgnhnmigmdalaaGreatDoorSdA
import Derived.Test.YtcgnhnmigmdalaaGreatDoorLuA
import Derived.Test.YtcgnhnmigmdalaaGreatDoorSmA
set_option linter.unusedVariables false
set_option linter.unusedSimpArgs false
namespace Go.Proofs.YtcgnhnmigmdalaaGreatDoor
open Go.RowKit
theorem sun_fix0 : sunLo 0 = 778092769 ∧ sunHi 0 = 778096770 := by decide +kernel
theorem c_sHas (lo hi n wd : Int) (w : World) (h1 : lo ≤ n) (h2 : n ≤ hi) (h3 : hi - lo ≤ wd) (b1 : -4000000000000000000 ≤ lo) (b2 : hi ≤ 4000000000000000000) : Calls Tryz.prog 78 #[.agg #[.int .i64 lo, .int .i64 hi], .int .i64 n, .int .i64 wd] w fun e w' => e = .returned (.bool true) ∧ Below w.heap.size w w' := by
  have hgen := sgen; have hgen2 := sgen2; have hgen3 := sgen3; go_enter Tryz.func78, Tryz.ntmps78
  go_wp2
  go_ret
  refine ⟨rfl, ?_⟩
  exact belz
theorem c_sAt (k n : Int) (w : World) (k1 : -9223372036854775808 ≤ k) (k2 : k ≤ 9223372036854775807) (n1 : 1 ≤ n) (n2 : n ≤ 4000000000000000000) :
    Calls Tryz.prog 40 #[.int .i64 k, .int .i64 n] w fun e w' => e = .returned (.int .i64 (k % n)) ∧ w = w' := by
  have h1 : -n < k.tmod n := by
    have := Int.tmod_lt_of_pos (-k) (show (0 : Int) < n by omega)
    rw [Int.neg_tmod] at this; omega
  have h2 := Int.tmod_lt_of_pos k (show (0 : Int) < n by omega)
  have n0 : ¬ n = 0 := by omega
  have n0' : (n == 0) = false := by simpa using n0
  have v1 : IntKind.i64.wrap (k.tmod n + n) = k.tmod n + n := IntWalk.i64_in _ (by omega)
  have e : (k.tmod n + n).tmod n = k % n := by
    rw [Int.tmod_eq_emod_of_nonneg (by omega), Int.add_emod_right]
    have d := Int.tmod_add_mul_tdiv k n
    have : k.tmod n = k + n * (-(k.tdiv n)) := by rw [Int.mul_neg]; omega
    rw [this, Int.add_mul_emod_self_left]
  have m0 := Int.emod_nonneg k n0
  have m1 := Int.emod_lt_of_pos k (show (0 : Int) < n by omega)
  have v2 : IntKind.i64.wrap (k.tmod n) = k.tmod n := IntWalk.i64_in _ (by omega)
  have v3 : IntKind.i64.wrap (k % n) = k % n := IntWalk.i64_in _ (by omega)
  have hgen := sgen; have hgen2 := sgen2; have hgen3 := sgen3; go_enter Tryz.func40, Tryz.ntmps40
  go_wp2
  go_ret
  refine ⟨?_, rfl⟩
  rfl
theorem c_sSky (w : World) (hT : Tab w) : Calls Tryz.prog 38 #[] w fun e w' => e = .returned (.bool true) ∧ Below w.heap.size w w' := by
  obtain ⟨e1, e2⟩ := sun_fix0
  have hl := fun w1 (h : Tab w1) => c_sunLongitude 0 w1 h (by decide)
  rw [e1, e2] at hl
  have HL := Lib.hid hl
  have HM := Lib.hid (fun w1 (h : Tab w1) => c_Longitude 0 w1 h (by decide))
  obtain ⟨a1, a2, a3⟩ := moon_zero
  obtain ⟨s1, s2⟩ := sea_fix2
  have h := seR_ok (y := 2000) (q := 0) (by omega) (by omega) (by omega) (by omega)
  have hw := h.w
  have HS := Lib.hid (fun w1 (h : Tab w1) => c_sFind_ok 0 2000 w1 h (by omega) (by omega) (by omega) (by omega))
  obtain ⟨p1, p2⟩ := ph_fix2
  have g := phR_ok (n := 0) (q := 0) (by omega) (by omega) (by omega) (by omega)
  have gw := g.w
  have HP := Lib.hid (fun w1 (h : Tab w1) => c_pFind_ok 0 0 w1 h (by omega) (by omega) (by omega) (by omega))
  have HT := Lib.hid hT
  clear hT h g hl e1 e2
  generalize seR 0 2000 = R at *
  generalize phR 0 0 = P at *
  generalize moonLo 0 = lo at *
  generalize moonHi 0 = hi at *
  have H1 := Lib.hid (fun w1 => c_sHas 778092769 778096770 778094769 4010 w1 (by decide) (by decide) (by decide) (by decide) (by decide))
  have H2 := Lib.hid (fun w1 => c_sHas lo hi 406718613 40030 w1 a1 a2 a3 (by omega) (by omega))
  have H3 := Lib.hid (fun w1 => c_sHas R.lo R.hi 63089219834394 600000 w1 s1 s2 hw (by omega) (by omega))
  have H4 := Lib.hid (fun w1 => c_sHas P.lo P.hi 992260421 600000 w1 p1 p2 gw (by omega) (by omega))
  have hgen := sgen; have hgen2 := sgen2; have hgen3 := sgen3; go_enter Tryz.func38, Tryz.ntmps38
  go_wp2_with (first | (go_at_call 46; (refine (HL.out _ (HT.out.below (by exact belz))).mono ?_); rintro e w1 ⟨rfl, hb⟩; have hz := hb.size; (try simp only [szA, szS, szD, szN] at hz); (try (refine bcB (n := w.heap.size) hb ?_; intro h_w_0 e_w_0 d_w_0 _ _))) | (go_at_call 48; (refine (HM.out _ (HT.out.below (by exact belz))).mono ?_); rintro e w2 ⟨rfl, hb⟩; have hz := hb.size; (try simp only [szA, szS, szD, szN] at hz); (try (refine bcB (n := w.heap.size) hb ?_; intro h_w_0 e_w_0 d_w_0 _ _)); (try (refine bcB (n := w1.heap.size) hb ?_; intro h_w1_0 e_w1_0 d_w1_0 _ _))) | (go_at_call 77; (refine (HS.out _ (HT.out.below (by exact belz))).mono ?_); rintro e w3 ⟨rfl, hb⟩; have hz := hb.size; (try simp only [szA, szS, szD, szN] at hz); (try (refine bcB (n := w.heap.size) hb ?_; intro h_w_0 e_w_0 d_w_0 _ _)); (try (refine bcB (n := w1.heap.size) hb ?_; intro h_w1_0 e_w1_0 d_w1_0 _ _)); (try (refine bcB (n := w2.heap.size) hb ?_; intro h_w2_0 e_w2_0 d_w2_0 _ _))) | (go_at_call 72; (refine (HP.out _ (HT.out.below (by exact belz))).mono ?_); rintro e w4 ⟨rfl, hb⟩; have hz := hb.size; (try simp only [szA, szS, szD, szN] at hz); (try (refine bcB (n := w.heap.size) hb ?_; intro h_w_0 e_w_0 d_w_0 _ _)); (try (refine bcB (n := w1.heap.size) hb ?_; intro h_w1_0 e_w1_0 d_w1_0 _ _)); (try (refine bcB (n := w2.heap.size) hb ?_; intro h_w2_0 e_w2_0 d_w2_0 _ _)); (try (refine bcB (n := w3.heap.size) hb ?_; intro h_w3_0 e_w3_0 d_w3_0 _ _))) | (go_at_call 78; (with_reducible refine (H1.out _).mono ?_); rintro e w5 ⟨rfl, hb⟩; have hz := hb.size; (try simp only [szA, szS, szD, szN] at hz); (try (refine bcB (n := w.heap.size) hb ?_; intro h_w_0 e_w_0 d_w_0 _ _)); (try (refine bcB (n := w1.heap.size) hb ?_; intro h_w1_0 e_w1_0 d_w1_0 _ _)); (try (refine bcB (n := w2.heap.size) hb ?_; intro h_w2_0 e_w2_0 d_w2_0 _ _)); (try (refine bcB (n := w3.heap.size) hb ?_; intro h_w3_0 e_w3_0 d_w3_0 _ _)); (try (refine bcB (n := w4.heap.size) hb ?_; intro h_w4_0 e_w4_0 d_w4_0 _ _))) | (go_at_call 78; (with_reducible refine (H2.out _).mono ?_); rintro e w6 ⟨rfl, hb⟩; have hz := hb.size; (try simp only [szA, szS, szD, szN] at hz); (try (refine bcB (n := w.heap.size) hb ?_; intro h_w_0 e_w_0 d_w_0 _ _)); (try (refine bcB (n := w1.heap.size) hb ?_; intro h_w1_0 e_w1_0 d_w1_0 _ _)); (try (refine bcB (n := w2.heap.size) hb ?_; intro h_w2_0 e_w2_0 d_w2_0 _ _)); (try (refine bcB (n := w3.heap.size) hb ?_; intro h_w3_0 e_w3_0 d_w3_0 _ _)); (try (refine bcB (n := w4.heap.size) hb ?_; intro h_w4_0 e_w4_0 d_w4_0 _ _)); (try (refine bcB (n := w5.heap.size) hb ?_; intro h_w5_0 e_w5_0 d_w5_0 _ _))) | (go_at_call 78; (with_reducible refine (H3.out _).mono ?_); rintro e w7 ⟨rfl, hb⟩; have hz := hb.size; (try simp only [szA, szS, szD, szN] at hz); (try (refine bcB (n := w.heap.size) hb ?_; intro h_w_0 e_w_0 d_w_0 _ _)); (try (refine bcB (n := w1.heap.size) hb ?_; intro h_w1_0 e_w1_0 d_w1_0 _ _)); (try (refine bcB (n := w2.heap.size) hb ?_; intro h_w2_0 e_w2_0 d_w2_0 _ _)); (try (refine bcB (n := w3.heap.size) hb ?_; intro h_w3_0 e_w3_0 d_w3_0 _ _)); (try (refine bcB (n := w4.heap.size) hb ?_; intro h_w4_0 e_w4_0 d_w4_0 _ _)); (try (refine bcB (n := w5.heap.size) hb ?_; intro h_w5_0 e_w5_0 d_w5_0 _ _)); (try (refine bcB (n := w6.heap.size) hb ?_; intro h_w6_0 e_w6_0 d_w6_0 _ _))) | (go_at_call 78; (with_reducible refine (H4.out _).mono ?_); rintro e w8 ⟨rfl, hb⟩; have hz := hb.size; (try simp only [szA, szS, szD, szN] at hz); (try (refine bcB (n := w.heap.size) hb ?_; intro h_w_0 e_w_0 d_w_0 _ _)); (try (refine bcB (n := w1.heap.size) hb ?_; intro h_w1_0 e_w1_0 d_w1_0 _ _)); (try (refine bcB (n := w2.heap.size) hb ?_; intro h_w2_0 e_w2_0 d_w2_0 _ _)); (try (refine bcB (n := w3.heap.size) hb ?_; intro h_w3_0 e_w3_0 d_w3_0 _ _)); (try (refine bcB (n := w4.heap.size) hb ?_; intro h_w4_0 e_w4_0 d_w4_0 _ _)); (try (refine bcB (n := w5.heap.size) hb ?_; intro h_w5_0 e_w5_0 d_w5_0 _ _)); (try (refine bcB (n := w6.heap.size) hb ?_; intro h_w6_0 e_w6_0 d_w6_0 _ _)); (try (refine bcB (n := w7.heap.size) hb ?_; intro h_w7_0 e_w7_0 d_w7_0 _ _))))
  go_ret
  refine ⟨rfl, ?_⟩
  exact belz
end Go.Proofs.YtcgnhnmigmdalaaGreatDoor
