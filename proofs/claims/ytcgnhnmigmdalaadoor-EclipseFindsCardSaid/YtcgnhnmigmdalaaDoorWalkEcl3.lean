/- The walk through the law EclipseFinds. -/
import Derived.Test.YtcgnhnmigmdalaaDoorWalkEcl2
set_option linter.unusedVariables false
set_option linter.unusedSimpArgs false
set_option maxRecDepth 100000
namespace Go.Proofs.YtcgnhnmigmdalaaDoor
open Go.RowKit
theorem c_atE (k n : Int) (w : World) (k1 : -9223372036854775808 ≤ k) (k2 : k ≤ 9223372036854775807) (n1 : 0 < n) (n2 : n ≤ 4000000000000000000) :
    Calls Tryd.prog 12 #[.int .i64 k, .int .i64 n] w fun e w' => e = .returned (.int .i64 (k % n)) ∧ w = w' := by
  have b0 : (n == 0) = false := by simp; omega
  have h2 := Int.tmod_lt_of_pos k n1
  have h3 : -n < k.tmod n := by
    have := Int.neg_tmod k n
    have h4 := Int.tmod_lt_of_pos (-k) n1
    omega
  have ht := tmod_twice (k := k) n1
  have m0 := Int.emod_nonneg k (show n ≠ 0 by omega)
  have m1 := Int.emod_lt_of_pos k n1
  have z : IntKind.i64.wrap (k.tmod n + n) = k.tmod n + n := by rw [IntKind.wrap_i64]; omega
  generalize k % n = r at *
  have hgen := sgen; have hgen2 := sgen2; have hgen3 := sgen3; go_enter Tryd.func12, Tryd.ntmps12
  go_wp2
  go_ret
  exact ⟨rfl, rfl⟩
/-- The magnitude's bounds. -/
theorem mag_ok {par size mo le : Int} (hp : par = 4100000 ∨ par = 2700000) (s0 : 0 ≤ size) (s1 : size ≤ mo * 1048576) (s2 : le * 1048576 ≤ size) (s3 : size < par * 1048576) (hw : mo - le ≤ 66001) (hmo : mo ≤ 17000000) (hle : 0 ≤ le) :
    (par - mo) * 1000 / par * 1048576 ≤ (par * 1048576 - size).tdiv par * 1000 + 4096 ∧ (par * 1048576 - size).tdiv par * 1000 ≤ -(-((par - le) * 1000) / par) * 1048576 + 4096 ∧ -(-((par - le) * 1000) / par) - (par - mo) * 1000 / par ≤ 80 ∧ 0 ≤ (par * 1048576 - size).tdiv par ∧ (par * 1048576 - size).tdiv par ≤ 1048576 ∧ -100000 ≤ (par - mo) * 1000 / par ∧ (par - mo) * 1000 / par ≤ 100000 ∧ -100000 ≤ -(-((par - le) * 1000) / par) ∧ -(-((par - le) * 1000) / par) ≤ 100000 := by
  rw [Int.tdiv_eq_ediv_of_nonneg (by omega)]
  rcases hp with rfl | rfl <;> omega
theorem walk_EF_arg (n q k : Int) (w : World) (hT : Tab w) (h0 : q ≠ 0) (h2 : q ≠ 2) :
    Calls Tryd.prog 3 #[.int .i64 n, .int .i64 q, .int .i64 k] w fun e w' => e = .returned (.bool true) ∧ Below w.heap.size w w' := by
  have f1 : (q != 0) = true := by simpa using h0
  have f2 : (q != 2) = true := by simpa using h2
  have HF := Lib.hid (fun w1 => c_eFind_arg n q w1 h0 h2)
  have HT := Lib.hid hT
  clear hT
  have hgen := sgen; have hgen2 := sgen2; have hgen3 := sgen3; go_enter Tryd.func3, Tryd.ntmps3
  go_wp2_with (first | (go_at_call 8; (with_reducible refine (c_eclipseWorks _ (HT.out.below (by exact belz))).mono ?_); rintro e w1 ⟨rfl, hb⟩; have hz := hb.size; (try simp only [szA, szS, szD, szN] at hz); (try (refine bcB (n := w.heap.size) hb ?_; intro h_w_0 e_w_0 d_w_0 _ _))) | (go_at_call 9; (with_reducible refine (HF.out _).mono ?_); rintro e w2 ⟨rfl, hb⟩; have hz := hb.size; (try simp only [szA, szS, szD, szN] at hz); (try (refine bcB (n := w.heap.size) hb ?_; intro h_w_0 e_w_0 d_w_0 _ _)); (try (refine bcB (n := w1.heap.size) hb ?_; intro h_w1_0 e_w1_0 d_w1_0 _ _))))
  go_ret
  refine ⟨rfl, ?_⟩
  exact belz
theorem walk_EF_rng (n q k : Int) (w : World) (hT : Tab w) (hq : q = 0 ∨ q = 2) (h : n < -100000 ∨ 100000 < n) :
    Calls Tryd.prog 3 #[.int .i64 n, .int .i64 q, .int .i64 k] w fun e w' => e = .returned (.bool true) ∧ Below w.heap.size w w' := by
  have HF := Lib.hid (fun w1 => c_eFind_rng n q w1 hq h)
  have HP := Lib.hid (fun w1 => c_pFind_rng n q w1 (by omega) (by omega) h)
  have HT := Lib.hid hT
  clear hT
  rcases hq with rfl | rfl
  all_goals
    have hgen := sgen; have hgen2 := sgen2; have hgen3 := sgen3; go_enter Tryd.func3, Tryd.ntmps3
    go_wp2_with (first | (go_at_call 8; (with_reducible refine (c_eclipseWorks _ (HT.out.below (by exact belz))).mono ?_); rintro e w1 ⟨rfl, hb⟩; have hz := hb.size; (try simp only [szA, szS, szD, szN] at hz); (try (refine bcB (n := w.heap.size) hb ?_; intro h_w_0 e_w_0 d_w_0 _ _))) | (go_at_call 9; (with_reducible refine (HF.out _).mono ?_); rintro e w2 ⟨rfl, hb⟩; have hz := hb.size; (try simp only [szA, szS, szD, szN] at hz); (try (refine bcB (n := w.heap.size) hb ?_; intro h_w_0 e_w_0 d_w_0 _ _)); (try (refine bcB (n := w1.heap.size) hb ?_; intro h_w1_0 e_w1_0 d_w1_0 _ _))) | (go_at_call 10; (with_reducible refine (HP.out _).mono ?_); rintro e w3 ⟨rfl, hb⟩; have hz := hb.size; (try simp only [szA, szS, szD, szN] at hz); (try (refine bcB (n := w.heap.size) hb ?_; intro h_w_0 e_w_0 d_w_0 _ _)); (try (refine bcB (n := w1.heap.size) hb ?_; intro h_w1_0 e_w1_0 d_w1_0 _ _)); (try (refine bcB (n := w2.heap.size) hb ?_; intro h_w2_0 e_w2_0 d_w2_0 _ _)); (try (refine bcB (n := w2.heap.size + 1) hb ?_; intro h_w2_1 e_w2_1 d_w2_1 _ _))))
    go_ret
    refine ⟨rfl, ?_⟩
    exact belz
/-- The size of the latitude lies between the least and the most. -/
theorem size_in {l h b : Int} (h0 : l * 1048576 ≤ b) (h1 : b ≤ h * 1048576) (hw : h - l ≤ 66000) : max b (-b) ≤ eMost l h * 1048576 ∧ eLeast l h * 1048576 ≤ max b (-b) ∧ 0 ≤ max b (-b) ∧ eMost l h - eLeast l h ≤ 66001 ∧ 0 ≤ eLeast l h := by
  unfold eMost eLeast
  omega
set_option maxHeartbeats 2000000 in
theorem walk_EF_gen (n q kk lo hi l h b k a1 a2 a3 a4 a5 a6 x : Int) (w : World) (hT : Tab w) (hq : q = 0 ∨ q = 2) (i0 : -300000000000000 ≤ lo) (i1 : lo ≤ hi) (i2 : hi ≤ 300000000000000) (l0 : -17000000 ≤ l) (l1 : l ≤ h) (l2 : h ≤ 17000000) (lw : h - l ≤ 66000) (b0 : l * 1048576 ≤ b) (b1 : b ≤ h * 1048576) (k1 : -9223372036854775808 ≤ kk) (k2 : kk ≤ 9223372036854775807)
    (hO : EOut q lo hi l h k a1 a2 a3 a4 a5 a6 x)
    (HF : Hid (∀ w1, Tab w1 → Calls Tryd.prog 9 #[.int .i64 n, .int .i64 q] w1 fun e w' => e = .returned (.tuple #[.agg #[.int .i64 k, .int .i64 a1, .int .i64 a2, .int .i64 a3, .int .i64 a4, .int .i64 a5, .int .i64 a6], .int .i64 x]) ∧ Below w1.heap.size w1 w'))
    (HP : Hid (∀ w1, Tab w1 → Calls Tryd.prog 10 #[.int .i64 n, .int .i64 q] w1 fun e w' => e = .returned (.tuple #[.agg #[.int .i64 lo, .int .i64 hi], .int .i64 0]) ∧ Below w1.heap.size w1 w'))
    (HM : Hid (∀ w1, Calls Tryd.prog 11 #[.int .i64 (lo + kk % (hi - lo + 1)), .int .i64 (kk % 17 - 8)] w1 fun e w' => e = .returned (.int .i64 b) ∧ Below w1.heap.size w1 w')) :
    Calls Tryd.prog 3 #[.int .i64 n, .int .i64 q, .int .i64 kk] w fun e w' => e = .returned (.bool true) ∧ Below w.heap.size w w' := by
  have HT := Lib.hid hT
  have HA1 := Lib.hid (fun w1 => c_atE kk (hi - lo + 1) w1 k1 k2 (by omega) (by omega))
  have HA2 := Lib.hid (fun w1 => c_atE kk 17 w1 k1 k2 (by omega) (by omega))
  have HC := Lib.hid (fun w1 => c_Contains1 l h b 0 w1 (by omega) (by omega) (by omega) (by omega) (by omega) (by omega) (by omega) (by omega) (by omega) (by omega))
  obtain ⟨s1, s2, s3, s4, s5⟩ := size_in b0 b1 lw
  have hmo : eMost l h ≤ 17000000 := by unfold eMost; omega
  have m0 := Int.emod_nonneg kk (show hi - lo + 1 ≠ 0 by omega)
  have m1 := Int.emod_lt_of_pos kk (show 0 < hi - lo + 1 by omega)
  have m2 := Int.emod_nonneg kk (show (17 : Int) ≠ 0 by omega)
  have m3 := Int.emod_lt_of_pos kk (show (0 : Int) < 17 by omega)
  obtain ⟨pw, hpw⟩ : ∃ pw, pw = ePar q * 1048576 := ⟨_, rfl⟩
  obtain ⟨tw, htw⟩ : ∃ tw, tw = eTot q * 1048576 := ⟨_, rfl⟩
  have hqp : (q = 0 ∧ ePar q = 4100000 ∧ eTot q = 2500000 ∧ pw = 4299161600000 ∧ tw = 2621440000000) ∨ (q = 2 ∧ ePar q = 2700000 ∧ eTot q = 1300000 ∧ pw = 2831155200000 ∧ tw = 1363148800000) := by
    rcases hq with rfl | rfl
    · exact .inl ⟨rfl, rfl, rfl, hpw, htw⟩
    · exact .inr ⟨rfl, rfl, rfl, hpw, htw⟩
  unfold EOut eM0 eM1 at hO
  generalize ePar q = par at *
  generalize eTot q = tot at *
  generalize eMost l h = mo at *
  generalize eLeast l h = le at *
  generalize hsz : max b (-b) = size at *
  have hmg : size < pw → _ := fun s => mag_ok (par := par) (by omega) s3 s1 s2 (by omega) s4 hmo s5
  rw [← hpw] at hmg
  generalize (par - mo) * 1000 / par = g0 at *
  generalize -(-((par - le) * 1000) / par) = g1 at *
  generalize hdv : (pw - size).tdiv par = dv at *
  generalize hr17 : kk % 17 = r17 at *
  generalize hrw : kk % (hi - lo + 1) = rw at *
  have HO := Lib.hid hO
  have dT : Hid (tot ≤ mo → le < tot → max (size - tw) (-(size - tw)) < 104857600000) := Lib.hid (by omega)
  have dP : Hid (le < par → par ≤ mo → max (size - pw) (-(size - pw)) < 104857600000) := Lib.hid (by omega)
  have wb1 : IntKind.i64.wrap (hi - lo) = hi - lo := IntWalk.i64_in _ (by omega)
  have wb2 : IntKind.i64.wrap (hi - lo + 1) = hi - lo + 1 := IntWalk.i64_in _ (by omega)
  have wb3 : IntKind.i64.wrap (lo + rw) = lo + rw := IntWalk.i64_in _ (by omega)
  have wb4 : IntKind.i64.wrap (r17 - 8) = r17 - 8 := IntWalk.i64_in _ (by omega)
  have wb5 : IntKind.i64.wrap (-b) = -b := IntWalk.i64_in _ (by omega)
  have wb6 : IntKind.i64.wrap (h - l) = h - l := IntWalk.i64_in _ (by omega)
  clear hT hO hq
  rcases hqp with ⟨rfl, rfl, rfl, rfl, rfl⟩ | ⟨rfl, rfl, rfl, rfl, rfl⟩
  all_goals
    have hgen := sgen; have hgen2 := sgen2; have hgen3 := sgen3; go_enter Tryd.func3, Tryd.ntmps3
    go_upto_region 12 with (first | (go_at_call 8; (with_reducible refine (c_eclipseWorks _ (HT.out.below (by exact belz))).mono ?_); rintro e w1 ⟨rfl, hb⟩; have hz := hb.size; (try simp only [szA, szS, szD, szN] at hz); (try (refine bcB (n := w.heap.size) hb ?_; intro h_w_0 e_w_0 d_w_0 _ _))) | (go_at_call 9; (with_reducible refine (HF.out _ (HT.out.below (by exact belz))).mono ?_); rintro e w2 ⟨rfl, hb⟩; have hz := hb.size; (try simp only [szA, szS, szD, szN] at hz); (try (refine bcB (n := w.heap.size) hb ?_; intro h_w_0 e_w_0 d_w_0 _ _)); (try (refine bcB (n := w1.heap.size) hb ?_; intro h_w1_0 e_w1_0 d_w1_0 _ _))) | (go_at_call 10; (with_reducible refine (HP.out _ (HT.out.below (by exact belz))).mono ?_); rintro e w3 ⟨rfl, hb⟩; have hz := hb.size; (try simp only [szA, szS, szD, szN] at hz); (try (refine bcB (n := w.heap.size) hb ?_; intro h_w_0 e_w_0 d_w_0 _ _)); (try (refine bcB (n := w1.heap.size) hb ?_; intro h_w1_0 e_w1_0 d_w1_0 _ _)); (try (refine bcB (n := w2.heap.size) hb ?_; intro h_w2_0 e_w2_0 d_w2_0 _ _)); (try (refine bcB (n := w2.heap.size + 1) hb ?_; intro h_w2_1 e_w2_1 d_w2_1 _ _))))
    go_cut [13] (fun x13 wc => x13 = .int .i64 b ∧ EAt wc w2.heap.size k a1 a2 a3 a4 a5 a6 ∧ wc.cell? ⟨w3.heap.size, 0, none⟩ = some (.int .i64 lo) ∧ wc.cell? ⟨w3.heap.size, 1, none⟩ = some (.int .i64 hi) ∧ w3.heap.size < wc.heap.size ∧ Below w.heap.size w wc)
    case first =>
      go_region_held3 (fun w' => w'.cell? ⟨w3.heap.size, 0, none⟩ = some (.int .i64 lo) ∧ w'.cell? ⟨w3.heap.size, 1, none⟩ = some (.int .i64 hi)) (refine ⟨?_, ?_⟩ <;> (first | (go_simp; done) | go_keep)) (first | (go_at_call 12; (first | (with_reducible refine (HA1.out _).mono ?_) | (with_reducible refine (HA2.out _).mono ?_)); rintro e w' ⟨rfl, rfl⟩) | (go_at_call 11; (with_reducible refine (HM.out _).mono ?_); rintro e w4 ⟨rfl, hb⟩; have hz := hb.size; (try simp only [szA, szS, szD, szN] at hz); (try (refine bcB (n := w.heap.size) hb ?_; intro h_w_0 e_w_0 d_w_0 _ _)); (try (refine bcB (n := w1.heap.size) hb ?_; intro h_w1_0 e_w1_0 d_w1_0 _ _)); (try (refine bcB (n := w2.heap.size) hb ?_; intro h_w2_0 e_w2_0 d_w2_0 _ _)); (try (refine bcB (n := w2.heap.size + 1) hb ?_; intro h_w2_1 e_w2_1 d_w2_1 _ _)); (try (refine bcB (n := w3.heap.size) hb ?_; intro h_w3_0 e_w3_0 d_w3_0 _ _)); (try (refine bcB (n := w3.heap.size + 1) hb ?_; intro h_w3_1 e_w3_1 d_w3_1 _ _))))
      all_goals go_wp2_with fail
      all_goals go_meet
      all_goals exact ⟨rfl, ⟨by (try simp); (try omega), by go_simp, by go_simp, by go_simp, by go_simp, by go_simp, by go_simp, by go_simp, fun o => by go_simp⟩, by go_simp, by go_simp, by (try simp); (try omega), by exact belz⟩
    case rest =>
      obtain ⟨rfl, hE, t0, t1, hz3, hbc⟩ := hcut
      obtain ⟨p0, p1, p2, p3, p4, p5, p6, p7, p8⟩ := hE
      clear HM HA1 HA2 HF HP
      have hbs : -b = -b := rfl
      have hO := HO.out
      clear HO
      rcases hO with ⟨q1, rfl, rfl, rfl, rfl, rfl, rfl, rfl, rfl⟩ | ⟨q1, q2, rfl, rfl, rfl, rfl, rfl, rfl, rfl, rfl⟩ | ⟨q1, q2, q3, q4, rfl, rfl, rfl, rfl, rfl, rfl, rfl, rfl⟩ | ⟨q1, q2, q3, rfl, rfl, rfl, rfl, rfl, rfl, rfl, rfl⟩
      · clear hmg
        go_wp2_with (first | (go_at_call 13; (with_reducible refine (HC.out _).mono ?_); rintro e w4 ⟨rfl, hb⟩; have hz := hb.size; (try simp only [szA, szS, szD, szN] at hz); (try (refine bcB (n := w2.heap.size) hb ?_; intro h_w2_0 e_w2_0 d_w2_0 _ _)); (try (refine bcB (n := w3.heap.size) hb ?_; intro h_w3_0 e_w3_0 d_w3_0 _ _)); (try (refine bcB (n := wc.heap.size) hb ?_; intro h_wc_0 e_wc_0 d_wc_0 _ _))))
        go_ret
        refine ⟨rfl, ?_⟩
        exact belz
      · obtain ⟨d1, d2, d3, d4, d5, d6, d7, d8, d9⟩ := hmg (by omega)
        go_wp2_with (first | (go_at_call 13; (with_reducible refine (HC.out _).mono ?_); rintro e w4 ⟨rfl, hb⟩; have hz := hb.size; (try simp only [szA, szS, szD, szN] at hz); (try (refine bcB (n := w2.heap.size) hb ?_; intro h_w2_0 e_w2_0 d_w2_0 _ _)); (try (refine bcB (n := w3.heap.size) hb ?_; intro h_w3_0 e_w3_0 d_w3_0 _ _)); (try (refine bcB (n := wc.heap.size) hb ?_; intro h_wc_0 e_wc_0 d_wc_0 _ _))))
        go_ret
        refine ⟨rfl, ?_⟩
        exact belz
      · obtain ⟨d1, d2, d3, d4, d5, d6, d7, d8, d9⟩ := hmg (by omega)
        go_wp2_with (first | (go_at_call 13; (with_reducible refine (HC.out _).mono ?_); rintro e w4 ⟨rfl, hb⟩; have hz := hb.size; (try simp only [szA, szS, szD, szN] at hz); (try (refine bcB (n := w2.heap.size) hb ?_; intro h_w2_0 e_w2_0 d_w2_0 _ _)); (try (refine bcB (n := w3.heap.size) hb ?_; intro h_w3_0 e_w3_0 d_w3_0 _ _)); (try (refine bcB (n := wc.heap.size) hb ?_; intro h_wc_0 e_wc_0 d_wc_0 _ _))))
        go_ret
        refine ⟨rfl, ?_⟩
        exact belz
      · clear hmg
        rcases q3 with q3 | q3
        · have d1 := dT.out q2 q3
          go_wp2
          go_ret
          refine ⟨rfl, ?_⟩
          exact belz
        · have d1 := dP.out q1 q3
          go_wp2
          all_goals go_ret
          all_goals refine ⟨rfl, ?_⟩
          all_goals exact belz
end Go.Proofs.YtcgnhnmigmdalaaDoor
