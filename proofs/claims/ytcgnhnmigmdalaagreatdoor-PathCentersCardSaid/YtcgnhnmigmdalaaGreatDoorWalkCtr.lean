/- The walk through the law PathCenters. -/
import Derived.Test.YtcgnhnmigmdalaaGreatDoorPhC
import Derived.Test.YtcgnhnmigmdalaaGreatDoorPhD
import Derived.Test.YtcgnhnmigmdalaaGreatDoorMnA
import Derived.Test.YtcgnhnmigmdalaaGreatDoorTrL
import Derived.BigQuiet
set_option linter.unusedVariables false
set_option linter.unusedSimpArgs false
set_option maxRecDepth 100000
namespace Go.Proofs.YtcgnhnmigmdalaaGreatDoor
open Go.RowKit
theorem inst_three {t : Int} (h : instB t = false) : instE t = 3 := by
  unfold instB at h
  unfold instE
  rw [if_neg (of_decide_eq_false h)]
theorem inst_nil {t : Int} (h : instB t = true) : instE t = 0 := by
  unfold instB at h
  unfold instE
  rw [if_pos (of_decide_eq_true h)]
theorem walk_Pc_range (t : Int) (w : World) (hT : Tab w) (h : instB t = false) (t1 : -9223372036854775808 ≤ t) (t2 : t ≤ 9223372036854775807) :
    Calls Tryz.prog 4 #[.int .i64 t] w fun e w' => e = .returned (.bool true) ∧ Below w.heap.size w w' := by
  have HC := Lib.hid (fun w1 => c_Ctr_range t w1 h t1 t2)
  have hI := fun w1 => c_instErr t w1
  have e3 : instE t = 3 := inst_three h
  rw [e3] at hI
  have HI := Lib.hid hI
  have HT := Lib.hid hT
  clear hI hT h e3
  have hgen := sgen; have hgen2 := sgen2; have hgen3 := sgen3; go_enter Tryz.func4, Tryz.ntmps4
  go_wp2_with (first | (go_at_call 23; (with_reducible refine (c_pathWorks _ (HT.out.below (by exact belz))).mono ?_); rintro e w1 ⟨rfl, hb⟩; have hz := hb.size; (try simp only [szA, szS, szD, szN] at hz); (try (refine bcB (n := w.heap.size) hb ?_; intro h_w_0 e_w_0 d_w_0 _ _))) | (go_at_call 24; (with_reducible refine (HC.out _).mono ?_); rintro e w2 ⟨rfl, hb⟩; have hz := hb.size; (try simp only [szA, szS, szD, szN] at hz); (try (refine bcB (n := w.heap.size) hb ?_; intro h_w_0 e_w_0 d_w_0 _ _)); (try (refine bcB (n := w1.heap.size) hb ?_; intro h_w1_0 e_w1_0 d_w1_0 _ _))) | (go_at_call 14; (with_reducible refine (HI.out _).mono ?_); rintro e w' ⟨rfl, rfl⟩))
  go_ret
  refine ⟨rfl, ?_⟩
  exact belz
theorem abs_mul9 {a : Int} (h0 : -1000000000 ≤ a) (h1 : a ≤ 1000000000) : 0 ≤ a * a ∧ a * a ≤ 1000000000000000000 := by
  have m := Int.mul_nonneg (show 0 ≤ 1000000000 - a by omega) (show 0 ≤ 1000000000 + a by omega)
  have e : (1000000000 - a) * (1000000000 + a) = 1000000000000000000 - a * a := by grind
  refine ⟨?_, by omega⟩
  rcases Int.le_total 0 a with h | h
  · exact Int.mul_nonneg h h
  · have := Int.mul_nonneg (show 0 ≤ -a by omega) (show 0 ≤ -a by omega)
    have e : -a * -a = a * a := by grind
    omega
/-- The contracts of the first part: the answer, the longitudes and the latitude. -/
structure PcA (t x r0 r1 r2 r3 r4 m s v n : Int) : Prop where
  ce : ∀ w1, Tab w1 → Calls Tryz.prog 24 #[.int .i64 t] w1 fun e w' => e = .returned (.tuple #[.agg #[.int .i64 r0, .int .i64 r1, .int .i64 r2, .int .i64 r3, .int .i64 r4], .int .i64 x]) ∧ Below w1.heap.size w1 w'
  ie : ∀ w1, Calls Tryz.prog 14 #[.int .i64 t] w1 fun e w' => e = .returned (.int .i64 0) ∧ w1 = w'
  ml : ∀ w1, Calls Tryz.prog 26 #[.int .i64 t, .int .i64 0] w1 fun e w' => e = .returned (.int .i64 m) ∧ Below w1.heap.size w1 w'
  sl : ∀ w1, Calls Tryz.prog 27 #[.int .i64 t, .int .i64 0] w1 fun e w' => e = .returned (.int .i64 s) ∧ Below w1.heap.size w1 w'
  mb : ∀ w1, Calls Tryz.prog 28 #[.int .i64 t, .int .i64 0] w1 fun e w' => e = .returned (.int .i64 n) ∧ Below w1.heap.size w1 w'
  ah : ∀ w1, Calls Tryz.prog 25 #[.int .i64 m, .int .i64 s] w1 fun e w' => e = .returned (.int .i64 v) ∧ w1 = w'
set_option maxHeartbeats 2000000 in
theorem walk_Pc_err {t x m s v n a b : Int} (w : World) (hT : Tab w) (hA : PcA t x 0 0 0 0 0 m s v n) (v0 : -600000000000000 ≤ v) (v1 : v ≤ 600000000000000) (n0 : -1000000000000000 ≤ n) (n1 : n ≤ 1000000000000000) (ha : a = v * 377 / 1048576) (hb' : b = n * 377 / 1048576)
    (h : ((a < -1000000000 ∨ 1000000000 < a) ∧ (x = 6 ∨ x = 11)) ∨ (-1000000000 ≤ a ∧ a ≤ 1000000000 ∧ (b < -1000000000 ∨ 1000000000 < b) ∧ (x = 6 ∨ x = 11)) ∨ (-1000000000 ≤ a ∧ a ≤ 1000000000 ∧ -1000000000 ≤ b ∧ b ≤ 1000000000 ∧ ((1000000000000000000 < a * a + b * b ∧ (x = 6 ∨ x = 11)) ∨ (a * a + b * b ≤ 1000000000000000000 ∧ x = 11)))) :
    Calls Tryz.prog 4 #[.int .i64 t] w fun e w' => e = .returned (.bool true) ∧ Below w.heap.size w w' := by
  have HA := Lib.hid hA
  have HT := Lib.hid hT
  have HH := Lib.hid h
  have wv : IntKind.i64.wrap (v * 377) = v * 377 := IntWalk.i64_in _ (by omega)
  have wn : IntKind.i64.wrap (n * 377) = n * 377 := IntWalk.i64_in _ (by omega)
  have HE := Lib.hid ha
  have HF := Lib.hid hb'
  clear hA hT h ha hb' v0 v1 n0 n1
  have hgen := sgen; have hgen2 := sgen2; have hgen3 := sgen3; go_enter Tryz.func4, Tryz.ntmps4
  go_upto_region 3 with (go_at_call 23; (with_reducible refine (c_pathWorks _ (HT.out.below (by exact belz))).mono ?_); rintro e w1 ⟨rfl, hb⟩; have hz := hb.size; (try simp only [szA, szS, szD, szN] at hz); (try (refine bcB (n := w.heap.size) hb ?_; intro h_w_0 e_w_0 d_w_0 _ _)))
  go_cut [3, 4] (fun s3 s4 wc => ∃ b3 : Nat, s3 = .pointer (some ⟨b3, 0, none⟩) ∧ s4 = .int .i64 x ∧ PpAt wc b3 0 0 0 0 0 ∧ Below w.heap.size w wc)
  case first =>
    go_wp2_with (go_at_call 24; (with_reducible refine (HA.out.ce _ (HT.out.below (by exact belz))).mono ?_); rintro e w2 ⟨rfl, hb⟩; have hz := hb.size; (try simp only [szA, szS, szD, szN] at hz); (try (refine bcB (n := w.heap.size) hb ?_; intro h_w_0 e_w_0 d_w_0 _ _)); (try (refine bcB (n := w1.heap.size) hb ?_; intro h_w1_0 e_w1_0 d_w1_0 _ _)))
    go_meet
    case rel =>
      refine ⟨w2.heap.size, by go_simp, by go_simp, ?_, ?_⟩
      all_goals first | (constructor <;> go_simp; done) | exact belz
  case rest =>
    obtain ⟨b3, rfl, rfl, mp, hbc⟩ := hcut
    obtain ⟨wd, rfl⟩ : ∃ wd : World, wd = wc := ⟨_, rfl⟩
    have hsz := hbc.size
    have hl3 := mp.lt
    go_upto_region 7 with (go_at_call 14; (with_reducible refine (HA.out.ie _).mono ?_); rintro e w' ⟨rfl, rfl⟩)
    go_cut [6, 7] (fun s6 s7 wc => s6 = .int .i64 a ∧ s7 = .int .i64 b ∧ Below wd.heap.size wd wc)
    case first =>
      go_wp2_with (first | (go_at_call 26; (with_reducible refine (HA.out.ml _).mono ?_); rintro e w3 ⟨rfl, hb⟩; have hz := hb.size; (try simp only [szA, szS, szD, szN] at hz); (try (refine bcB (n := b3) hb ?_; intro h_bb3_0 e_bb3_0 d_bb3_0 _ _)); (try (refine bcB (n := wd.heap.size) hb ?_; intro h_wd_0 e_wd_0 d_wd_0 _ _))) | (go_at_call 27; (with_reducible refine (HA.out.sl _).mono ?_); rintro e w4 ⟨rfl, hb⟩; have hz := hb.size; (try simp only [szA, szS, szD, szN] at hz); (try (refine bcB (n := b3) hb ?_; intro h_bb3_0 e_bb3_0 d_bb3_0 _ _)); (try (refine bcB (n := wd.heap.size) hb ?_; intro h_wd_0 e_wd_0 d_wd_0 _ _)); (try (refine bcB (n := w3.heap.size) hb ?_; intro h_w3_0 e_w3_0 d_w3_0 _ _))) | (go_at_call 25; (with_reducible refine (HA.out.ah _).mono ?_); rintro e w' ⟨rfl, rfl⟩) | (go_at_call 28; (with_reducible refine (HA.out.mb _).mono ?_); rintro e w5 ⟨rfl, hb⟩; have hz := hb.size; (try simp only [szA, szS, szD, szN] at hz); (try (refine bcB (n := b3) hb ?_; intro h_bb3_0 e_bb3_0 d_bb3_0 _ _)); (try (refine bcB (n := wd.heap.size) hb ?_; intro h_wd_0 e_wd_0 d_wd_0 _ _)); (try (refine bcB (n := w3.heap.size) hb ?_; intro h_w3_0 e_w3_0 d_w3_0 _ _)); (try (refine bcB (n := w4.heap.size) hb ?_; intro h_w4_0 e_w4_0 d_w4_0 _ _))))
      go_meet
      case rel =>
        refine ⟨by rw [HE.out], by rw [HF.out], ?_⟩
        exact belz
    case rest =>
      obtain ⟨rfl, rfl, hbd⟩ := hcut
      obtain ⟨l3, x0, x1, x2, x3, x4, -, -, -, -, -⟩ := mp.below hbd
      have hW : Below w.heap.size w wc := Below.call hbc (by omega) hbd
      have hsz2 := hW.size
      obtain ⟨we, rfl⟩ : ∃ we : World, we = wc := ⟨_, rfl⟩
      clear hbc hbd mp hl3 hsz
      rcases HH.out with ⟨g1, g2⟩ | ⟨g1, g2, g3, g4⟩ | ⟨g1, g2, g3, g4, ⟨g5, g6⟩ | ⟨g5, rfl⟩⟩
      · rcases g2 with rfl | rfl
        all_goals
          go_wp2_with (go_at_call 29; (with_reducible refine (c_bey1 _ _ _ g1 (by omega) (by omega)).mono ?_); rintro e w' ⟨rfl, rfl⟩)
          go_ret
          refine ⟨rfl, ?_⟩
          exact belz
      · rcases g4 with rfl | rfl
        all_goals
          go_wp2_with (go_at_call 29; (first | (with_reducible refine (c_bey0 a 1000000000 _ g1 g2 (by omega) (by omega)).mono ?_) | (with_reducible refine (c_bey1 b 1000000000 _ g3 (by omega) (by omega)).mono ?_)); rintro e w' ⟨rfl, rfl⟩)
          go_ret
          refine ⟨rfl, ?_⟩
          exact belz
      · have m1 := abs_mul9 g1 g2
        have m2 := abs_mul9 g3 g4
        have d1 : decide (a * a + b * b > 1000000000000000000) = true := decide_eq_true g5
        rcases g6 with rfl | rfl
        all_goals
          go_wp2_with (go_at_call 29; (first | (with_reducible refine (c_bey0 a 1000000000 _ g1 g2 (by omega) (by omega)).mono ?_) | (with_reducible refine (c_bey0 b 1000000000 _ g3 g4 (by omega) (by omega)).mono ?_)); rintro e w' ⟨rfl, rfl⟩)
          go_ret
          refine ⟨rfl, ?_⟩
          exact belz
      · have m1 := abs_mul9 g1 g2
        have m2 := abs_mul9 g3 g4
        have d1 : decide (a * a + b * b > 1000000000000000000) = false := decide_eq_false (by omega)
        go_wp2_with (go_at_call 29; (first | (with_reducible refine (c_bey0 a 1000000000 _ g1 g2 (by omega) (by omega)).mono ?_) | (with_reducible refine (c_bey0 b 1000000000 _ g3 g4 (by omega) (by omega)).mono ?_)); rintro e w' ⟨rfl, rfl⟩)
        go_ret
        refine ⟨rfl, ?_⟩
        exact belz
end Go.Proofs.YtcgnhnmigmdalaaGreatDoor
