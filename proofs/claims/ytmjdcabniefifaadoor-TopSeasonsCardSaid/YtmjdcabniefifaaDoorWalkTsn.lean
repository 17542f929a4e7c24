/- The fixed example of the sky; the walk through the law TopSeasons. -/
import Derived.Test.YtmjdcabniefifaaDoorPlainTsn
import Derived.Test.YtmjdcabniefifaaDoorLuA
import Derived.Deep.RegionHeld3
set_option linter.unusedVariables false
set_option linter.unusedSimpArgs false
namespace Go.Proofs.YtmjdcabniefifaaDoor
open Go.RowKit
theorem c_sHas (lo hi n wd : Int) (w : World) (h1 : lo ≤ n) (h2 : n ≤ hi) (h3 : hi - lo ≤ wd) (b1 : -4000000000000000000 ≤ lo) (b2 : hi ≤ 4000000000000000000) : Calls Tryd.prog 33 #[.agg #[.int .i64 lo, .int .i64 hi], .int .i64 n, .int .i64 wd] w fun e w' => e = .returned (.bool true) ∧ Below w.heap.size w w' := by
  have hgen := sgen; have hgen2 := sgen2; have hgen3 := sgen3; go_enter Tryd.func33, Tryd.ntmps33
  go_wp2
  go_ret
  refine ⟨rfl, ?_⟩
  exact belz
theorem c_sMeets (l0 l1 m0 m1 : Int) (w : World) (h1 : l0 ≤ m1) (h2 : m0 ≤ l1) : Calls Tryd.prog 22 #[.agg #[.int .i64 l0, .int .i64 l1], .agg #[.int .i64 m0, .int .i64 m1]] w fun e w' => e = .returned (.bool true) ∧ Below w.heap.size w w' := by
  have hgen := sgen; have hgen2 := sgen2; have hgen3 := sgen3; go_enter Tryd.func22, Tryd.ntmps22
  go_wp2
  go_ret
  refine ⟨rfl, ?_⟩
  exact belz
theorem c_sAt (k n : Int) (w : World) (k1 : -9223372036854775808 ≤ k) (k2 : k ≤ 9223372036854775807) (n1 : 1 ≤ n) (n2 : n ≤ 100000) :
    Calls Tryd.prog 18 #[.int .i64 k, .int .i64 n] w fun e w' => e = .returned (.int .i64 (k % n)) ∧ w = w' := by
  have h1 : -n < k.tmod n := by
    have := Int.tmod_lt_of_pos (-k) (show (0 : Int) < n by omega)
    rw [Int.neg_tmod] at this; omega
  have h2 := Int.tmod_lt_of_pos k (show (0 : Int) < n by omega)
  have n0 : ¬ n = 0 := by omega
  have n0' : (n == 0) = false := by simpa using n0
  have v1 : IntKind.i64.wrap (k.tmod n + n) = k.tmod n + n := IntWalk.i64_in _ (by omega)
  have e : (k.tmod n + n).tmod n = k % n := by
    rw [Int.tmod_eq_emod_of_nonneg (by omega), Int.add_emod_right]
    have d := Int.tmod_add_mul_tdiv k n
    have : k.tmod n = k + n * (-(k.tdiv n)) := by rw [Int.mul_neg]; omega
    rw [this, Int.add_mul_emod_self_left]
  have m0 := Int.emod_nonneg k n0
  have m1 := Int.emod_lt_of_pos k (show (0 : Int) < n by omega)
  have v2 : IntKind.i64.wrap (k.tmod n) = k.tmod n := IntWalk.i64_in _ (by omega)
  have v3 : IntKind.i64.wrap (k % n) = k % n := IntWalk.i64_in _ (by omega)
  have hgen := sgen; have hgen2 := sgen2; have hgen3 := sgen3; go_enter Tryd.func18, Tryd.ntmps18
  go_wp2
  go_ret
  refine ⟨?_, rfl⟩
  rfl
theorem c_sSky (w : World) (hT : Tab w) : Calls Tryd.prog 17 #[] w fun e w' => e = .returned (.bool true) ∧ Below w.heap.size w w' := by
  obtain ⟨e1, e2⟩ := sun_fix1
  have hl := fun w1 (h : Tab w1) => c_sunLongitude 0 w1 h (by decide)
  rw [e1, e2] at hl
  have HL := Lib.hid hl
  have HM := Lib.hid (fun w1 (h : Tab w1) => c_Longitude 0 w1 h (by decide))
  obtain ⟨a1, a2, a3⟩ := moon_zero
  obtain ⟨s1, s2⟩ := sea_fix2
  have h := seR_ok (y := 2000) (q := 0) (by omega) (by omega) (by omega) (by omega)
  have hw := h.w
  have HS := Lib.hid (fun w1 (h : Tab w1) => c_sFind_ok 0 2000 w1 h (by omega) (by omega) (by omega) (by omega))
  obtain ⟨p1, p2⟩ := ph_fix2
  have g := phR_ok (n := 0) (q := 0) (by omega) (by omega) (by omega) (by omega)
  have gw := g.w
  have HP := Lib.hid (fun w1 (h : Tab w1) => c_pFind_ok 0 0 w1 h (by omega) (by omega) (by omega) (by omega))
  have HT := Lib.hid hT
  clear hT h g hl e1 e2
  generalize seR 0 2000 = R at *
  generalize phR 0 0 = P at *
  generalize moonLo 0 = lo at *
  generalize moonHi 0 = hi at *
  have H1 := Lib.hid (fun w1 => c_sHas 778092769 778096770 778094769 4010 w1 (by decide) (by decide) (by decide) (by decide) (by decide))
  have H2 := Lib.hid (fun w1 => c_sHas lo hi 406718613 40030 w1 a1 a2 a3 (by omega) (by omega))
  have H3 := Lib.hid (fun w1 => c_sHas R.lo R.hi 63089219834394 600000 w1 s1 s2 hw (by omega) (by omega))
  have H4 := Lib.hid (fun w1 => c_sHas P.lo P.hi 992260421 600000 w1 p1 p2 gw (by omega) (by omega))
  have hgen := sgen; have hgen2 := sgen2; have hgen3 := sgen3; go_enter Tryd.func17, Tryd.ntmps17
  go_wp2_with (first | (go_at_call 30; (refine (HL.out _ (HT.out.below (by exact belz))).mono ?_); rintro e w1 ⟨rfl, hb⟩; have hz := hb.size; (try simp only [szA, szS, szD, szN] at hz); (try (refine bcB (n := w.heap.size) hb ?_; intro h_w_0 e_w_0 d_w_0 _ _))) | (go_at_call 31; (refine (HM.out _ (HT.out.below (by exact belz))).mono ?_); rintro e w2 ⟨rfl, hb⟩; have hz := hb.size; (try simp only [szA, szS, szD, szN] at hz); (try (refine bcB (n := w.heap.size) hb ?_; intro h_w_0 e_w_0 d_w_0 _ _)); (try (refine bcB (n := w1.heap.size) hb ?_; intro h_w1_0 e_w1_0 d_w1_0 _ _))) | (go_at_call 19; (refine (HS.out _ (HT.out.below (by exact belz))).mono ?_); rintro e w3 ⟨rfl, hb⟩; have hz := hb.size; (try simp only [szA, szS, szD, szN] at hz); (try (refine bcB (n := w.heap.size) hb ?_; intro h_w_0 e_w_0 d_w_0 _ _)); (try (refine bcB (n := w1.heap.size) hb ?_; intro h_w1_0 e_w1_0 d_w1_0 _ _)); (try (refine bcB (n := w2.heap.size) hb ?_; intro h_w2_0 e_w2_0 d_w2_0 _ _))) | (go_at_call 32; (refine (HP.out _ (HT.out.below (by exact belz))).mono ?_); rintro e w4 ⟨rfl, hb⟩; have hz := hb.size; (try simp only [szA, szS, szD, szN] at hz); (try (refine bcB (n := w.heap.size) hb ?_; intro h_w_0 e_w_0 d_w_0 _ _)); (try (refine bcB (n := w1.heap.size) hb ?_; intro h_w1_0 e_w1_0 d_w1_0 _ _)); (try (refine bcB (n := w2.heap.size) hb ?_; intro h_w2_0 e_w2_0 d_w2_0 _ _)); (try (refine bcB (n := w3.heap.size) hb ?_; intro h_w3_0 e_w3_0 d_w3_0 _ _))) | (go_at_call 33; (with_reducible refine (H1.out _).mono ?_); rintro e w5 ⟨rfl, hb⟩; have hz := hb.size; (try simp only [szA, szS, szD, szN] at hz); (try (refine bcB (n := w.heap.size) hb ?_; intro h_w_0 e_w_0 d_w_0 _ _)); (try (refine bcB (n := w1.heap.size) hb ?_; intro h_w1_0 e_w1_0 d_w1_0 _ _)); (try (refine bcB (n := w2.heap.size) hb ?_; intro h_w2_0 e_w2_0 d_w2_0 _ _)); (try (refine bcB (n := w3.heap.size) hb ?_; intro h_w3_0 e_w3_0 d_w3_0 _ _)); (try (refine bcB (n := w4.heap.size) hb ?_; intro h_w4_0 e_w4_0 d_w4_0 _ _))) | (go_at_call 33; (with_reducible refine (H2.out _).mono ?_); rintro e w6 ⟨rfl, hb⟩; have hz := hb.size; (try simp only [szA, szS, szD, szN] at hz); (try (refine bcB (n := w.heap.size) hb ?_; intro h_w_0 e_w_0 d_w_0 _ _)); (try (refine bcB (n := w1.heap.size) hb ?_; intro h_w1_0 e_w1_0 d_w1_0 _ _)); (try (refine bcB (n := w2.heap.size) hb ?_; intro h_w2_0 e_w2_0 d_w2_0 _ _)); (try (refine bcB (n := w3.heap.size) hb ?_; intro h_w3_0 e_w3_0 d_w3_0 _ _)); (try (refine bcB (n := w4.heap.size) hb ?_; intro h_w4_0 e_w4_0 d_w4_0 _ _)); (try (refine bcB (n := w5.heap.size) hb ?_; intro h_w5_0 e_w5_0 d_w5_0 _ _))) | (go_at_call 33; (with_reducible refine (H3.out _).mono ?_); rintro e w7 ⟨rfl, hb⟩; have hz := hb.size; (try simp only [szA, szS, szD, szN] at hz); (try (refine bcB (n := w.heap.size) hb ?_; intro h_w_0 e_w_0 d_w_0 _ _)); (try (refine bcB (n := w1.heap.size) hb ?_; intro h_w1_0 e_w1_0 d_w1_0 _ _)); (try (refine bcB (n := w2.heap.size) hb ?_; intro h_w2_0 e_w2_0 d_w2_0 _ _)); (try (refine bcB (n := w3.heap.size) hb ?_; intro h_w3_0 e_w3_0 d_w3_0 _ _)); (try (refine bcB (n := w4.heap.size) hb ?_; intro h_w4_0 e_w4_0 d_w4_0 _ _)); (try (refine bcB (n := w5.heap.size) hb ?_; intro h_w5_0 e_w5_0 d_w5_0 _ _)); (try (refine bcB (n := w6.heap.size) hb ?_; intro h_w6_0 e_w6_0 d_w6_0 _ _))) | (go_at_call 33; (with_reducible refine (H4.out _).mono ?_); rintro e w8 ⟨rfl, hb⟩; have hz := hb.size; (try simp only [szA, szS, szD, szN] at hz); (try (refine bcB (n := w.heap.size) hb ?_; intro h_w_0 e_w_0 d_w_0 _ _)); (try (refine bcB (n := w1.heap.size) hb ?_; intro h_w1_0 e_w1_0 d_w1_0 _ _)); (try (refine bcB (n := w2.heap.size) hb ?_; intro h_w2_0 e_w2_0 d_w2_0 _ _)); (try (refine bcB (n := w3.heap.size) hb ?_; intro h_w3_0 e_w3_0 d_w3_0 _ _)); (try (refine bcB (n := w4.heap.size) hb ?_; intro h_w4_0 e_w4_0 d_w4_0 _ _)); (try (refine bcB (n := w5.heap.size) hb ?_; intro h_w5_0 e_w5_0 d_w5_0 _ _)); (try (refine bcB (n := w6.heap.size) hb ?_; intro h_w6_0 e_w6_0 d_w6_0 _ _)); (try (refine bcB (n := w7.heap.size) hb ?_; intro h_w7_0 e_w7_0 d_w7_0 _ _))))
  go_ret
  refine ⟨rfl, ?_⟩
  exact belz
set_option maxRecDepth 100000 in
set_option maxHeartbeats 4000000 in
theorem walk_TopSeasons (a b : Int) (w : World) (hT : Tab w) (ha : -9223372036854775808 ≤ a ∧ a ≤ 9223372036854775807) (hb : -9223372036854775808 ≤ b ∧ b ≤ 9223372036854775807) :
    Calls Tryd.prog 5 #[.int .i64 a, .int .i64 b] w fun e w' => e = .returned (.bool true) ∧ Below w.heap.size w w' := by
  have HA := Lib.hid (fun w1 => c_sAt a 4 w1 ha.1 ha.2 (by omega) (by omega))
  have HB := Lib.hid (fun w1 => c_sAt b 18000 w1 hb.1 hb.2 (by omega) (by omega))
  have q0 : 0 ≤ a % 4 := by omega
  have q1 : a % 4 ≤ 3 := by omega
  have y0 : 0 ≤ b % 18000 := by omega
  have y1 : b % 18000 < 18000 := by omega
  generalize a % 4 = q at *
  generalize b % 18000 = y at *
  have HC := Lib.hid (fun w1 => c_sAt (q + 1) 4 w1 (by omega) (by omega) (by omega) (by omega))
  have HS := Lib.hid (fun w1 (h : Tab w1) => c_sFind_ok q (y - 9000) w1 h q0 q1 (by omega) (by omega))
  obtain ⟨d1, d2, i1, i2, i3, hs, nlo, nhi, nle⟩ := tsn_ok (q := q) (y := y - 9000) q0 q1 (by omega) (by omega)
  have p0 : 0 ≤ (q + 1) % 4 := by omega
  have p1 : (q + 1) % 4 ≤ 3 := by omega
  generalize (q + 1) % 4 = p at *
  generalize seR q (y - 9000) = R at *
  have HAt := Lib.hid (fun w1 (h : Tab w1) => c_sunAt R.lo w1 h (inst_of (by omega) (by omega)))
  have hsb : seaB R.hi = true := by
    unfold seaB
    rw [inst_of (x := R.hi) (by omega) (by omega), inst_of (x := R.hi - 1728000000) (by omega) (by omega), inst_of (x := R.hi + 34560000000) (by omega) (by omega)]
    rfl
  have HN := Lib.hid (fun w1 (h : Tab w1) => c_sNext_ok (p * 250000000) R.hi w1 h (by omega) (by omega) hsb hs)
  generalize snR (p * 250000000) R.hi = N at *
  obtain ⟨-, -, -, -, z0, z1, z2, -, -, -⟩ := (sun_all R.lo).1
  generalize sdeLo R.lo = e0 at *
  generalize sdeHi R.lo = e1 at *
  generalize sraLo R.lo = r0 at *
  generalize sraHi R.lo = r1 at *
  have bq : -65109000 ≤ wantQ q ∧ wantQ q ≤ 65109000 := by
    rcases (show q = 0 ∨ q = 1 ∨ q = 2 ∨ q = 3 by omega) with rfl | rfl | rfl | rfl <;> decide
  have IX : ∀ w, (Instr.index 45 (.agg #[.int .i64 0, .int .i64 65109000, .int .i64 0, .int .i64 (-65109000)]) (.int .i64 q)).run Tryd.prog w = .ok (.int .i64 (wantQ q)) w := by
    rcases (show q = 0 ∨ q = 1 ∨ q = 2 ∨ q = 3 by omega) with rfl | rfl | rfl | rfl <;> exact fun _ => by kernel_rfl
  generalize wantQ q = wq at *
  have HM := Lib.hid (fun w1 => c_sMeets e0 e1 (wq - 15000) (wq + 15000) w1 d1 d2)
  have HT := Lib.hid hT
  have v1 : IntKind.i64.wrap (y - 9000) = y - 9000 := IntWalk.i64_in _ (by omega)
  have v2 : IntKind.i64.wrap (q + 1) = q + 1 := IntWalk.i64_in _ (by omega)
  have v3 : IntKind.i64.wrap (p * 250000000) = p * 250000000 := IntWalk.i64_in _ (by omega)
  have v4 : IntKind.i64.wrap (wq - 15000) = wq - 15000 := IntWalk.i64_in _ (by omega)
  have v5 : IntKind.i64.wrap (wq + 15000) = wq + 15000 := IntWalk.i64_in _ (by omega)
  have v6 : IntKind.i64.wrap (N.lo - R.hi) = N.lo - R.hi := IntWalk.i64_in _ (by omega)
  have v7 : IntKind.i64.wrap (N.hi - R.lo) = N.hi - R.lo := IntWalk.i64_in _ (by omega)
  have g1 : decide (7603200000 < N.lo - R.hi) = true := decide_eq_true nlo
  have g2 : decide (N.hi - R.lo < 8208000000) = true := decide_eq_true nhi
  clear hT hs hsb d1 d2 nlo nhi nle i1 i2 i3 z0 z1 z2 bq q0 q1 y0 y1 p0 p1 ha hb
  have hgen := sgen; have hgen2 := sgen2; have hgen3 := sgen3; go_enter Tryd.func5, Tryd.ntmps5
  go_upto_region 7 with (first | (go_at_call 17; (refine (c_sSky _ (HT.out.below (by exact belz))).mono ?_); rintro e w1 ⟨rfl, hb⟩; have hz := hb.size; (try simp only [szA, szS, szD, szN] at hz)) | (go_at_call 18; (with_reducible refine (HA.out _).mono ?_); rintro e w' ⟨rfl, rfl⟩) | (go_at_call 18; (with_reducible refine (HB.out _).mono ?_); rintro e w' ⟨rfl, rfl⟩) | (go_at_call 19; (refine (HS.out _ (HT.out.below (by exact belz))).mono ?_); rintro e w3 ⟨rfl, hb⟩; have hz := hb.size; (try simp only [szA, szS, szD, szN] at hz)) | (go_at_call 20; (refine (HAt.out _ (HT.out.below (by exact belz))).mono ?_); rintro e w4 ⟨rfl, hb⟩; have hz := hb.size; (try simp only [szA, szS, szD, szN] at hz); (try (refine bcB (n := w3.heap.size) hb ?_; intro h_w3_0 e_w3_0 d_w3_0 _ _))))
  have n1 : ¬ w3.heap.size = w4.heap.size + 1 := by omega
  have n2 : ¬ w3.heap.size = w4.heap.size + 1 + 1 := by omega
  have n3 : ¬ w4.heap.size + 1 = w3.heap.size := by omega
  have n4 : ¬ w4.heap.size + 1 + 1 = w3.heap.size := by omega
  have n5 : ¬ w3.heap.size = w4.heap.size + 2 := by omega
  have n6 : ¬ w4.heap.size + 2 = w3.heap.size := by omega
  have n7 : w3.heap.size < w4.heap.size + 2 := by omega
  go_region_held3 (fun w' => w'.cell? ⟨w3.heap.size, 0, none⟩ = some (.int .i64 R.lo) ∧ w'.cell? ⟨w3.heap.size, 1, none⟩ = some (.int .i64 R.hi) ∧ w'.cell? ⟨w4.heap.size + 1, 0, none⟩ = some (.int .i64 e0) ∧ w'.cell? ⟨w4.heap.size + 1, 1, none⟩ = some (.int .i64 e1)) ((repeat' apply And.intro) <;> (first | (go_simp; done) | go_keep)) (first | (go_at_call 18; (with_reducible refine (HC.out _).mono ?_); rintro e w' ⟨rfl, rfl⟩) | (go_at_call 21; (refine (HN.out _ (HT.out.below (by exact belz))).mono ?_); rintro e w5 ⟨rfl, hb⟩; have hz := hb.size; (try simp only [szA, szS, szD, szN] at hz); (try (refine bcB (n := w3.heap.size) hb ?_; intro h_w3_0 e_w3_0 d_w3_0 _ _)); (try (refine bcB (n := w4.heap.size + 1) hb ?_; intro h_w4_1 e_w4_1 d_w4_1 _ _)); (try (refine bcB (n := w4.heap.size + 1 + 1) hb ?_; intro h_w4_2 e_w4_2 d_w4_2 _ _))))
  all_goals go_wp2_with (go_at_call 22; (refine (HM.out _).mono ?_); rintro e w6 ⟨rfl, hb⟩; have hz := hb.size; (try simp only [szA, szS, szD, szN] at hz); (try (refine bcB (n := w3.heap.size) hb ?_; intro h_w3_0 e_w3_0 d_w3_0 _ _)); (try (refine bcB (n := w4.heap.size + 1) hb ?_; intro h_w4_1 e_w4_1 d_w4_1 _ _)); (try (refine bcB (n := w4.heap.size + 1 + 1) hb ?_; intro h_w4_2 e_w4_2 d_w4_2 _ _)); (try (refine bcB (n := w5.heap.size) hb ?_; intro h_w5_0 e_w5_0 d_w5_0 _ _)))
  all_goals go_ret
  all_goals refine ⟨rfl, ?_⟩
  all_goals exact belz
end Go.Proofs.YtmjdcabniefifaaDoor
