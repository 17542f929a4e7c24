/- The walk through the law TopSharpen. -/
import Derived.Test.YtjkhoepohiafeaaGreatDoorPlainTsh
import Derived.Test.YtjkhoepohiafeaaGreatDoorWalkTopS
import Derived.Deep.DeepCutAuto
import Derived.Deep.RegionHeld3
set_option linter.unusedVariables false
set_option linter.unusedSimpArgs false
namespace Go.Proofs.YtjkhoepohiafeaaGreatDoor
open Go.RowKit
theorem c_sSite (lon lat : Int) (w : World) (h1 : -9223372036854775808 ≤ lon) (h2 : lon ≤ 9223372036854775807) (h3 : -9223372036854775808 ≤ lat) (h4 : lat ≤ 9223372036854775807) :
    Calls Tryz.prog 10 #[.agg #[.int .i64 lon, .int .i64 lat]] w fun e w' => e = .returned (.agg #[.int .i64 (lon.tmod 500000001), .int .i64 (lat.tmod 220000001)]) ∧ Below w.heap.size w w' := by
  have a1 := Int.tmod_lt_of_pos lon (show (0 : Int) < 500000001 by omega)
  have a2 : -500000001 < lon.tmod 500000001 := by
    have := Int.tmod_lt_of_pos (-lon) (show (0 : Int) < 500000001 by omega)
    rw [Int.neg_tmod] at this; omega
  have b1 := Int.tmod_lt_of_pos lat (show (0 : Int) < 220000001 by omega)
  have b2 : -220000001 < lat.tmod 220000001 := by
    have := Int.tmod_lt_of_pos (-lat) (show (0 : Int) < 220000001 by omega)
    rw [Int.neg_tmod] at this; omega
  have v1 : IntKind.i64.wrap (lon.tmod 500000001) = lon.tmod 500000001 := IntWalk.i64_in _ (by omega)
  have v2 : IntKind.i64.wrap (lat.tmod 220000001) = lat.tmod 220000001 := IntWalk.i64_in _ (by omega)
  have hgen := sgen; have hgen2 := sgen2; have hgen3 := sgen3; go_enter Tryz.func10, Tryz.ntmps10
  go_wp2
  refine bodyPost_ret (v := .agg #[.int .i64 (lon.tmod 500000001), .int .i64 (lat.tmod 220000001)]) (by simp only [results, Tryz.results10]; go_simp) rfl ⟨rfl, ?_⟩
  exact belz
set_option maxRecDepth 100000 in
set_option maxHeartbeats 4000000 in
theorem walk_TopSharpen (a b c e lon lat f : Int) (w : World) (hT : Tab w) (hL : LTab w) (ha : -9223372036854775808 ≤ a ∧ a ≤ 9223372036854775807) (hb : -9223372036854775808 ≤ b ∧ b ≤ 9223372036854775807) (hc : -9223372036854775808 ≤ c ∧ c ≤ 9223372036854775807) (he : -9223372036854775808 ≤ e ∧ e ≤ 9223372036854775807) (ho : -9223372036854775808 ≤ lon ∧ lon ≤ 9223372036854775807) (hl : -9223372036854775808 ≤ lat ∧ lat ≤ 9223372036854775807) (hf : -9223372036854775808 ≤ f ∧ f ≤ 9223372036854775807) :
    Calls Tryz.prog 3 #[.int .i64 a, .int .i64 b, .int .i64 c, .int .i64 e, .agg #[.int .i64 lon, .int .i64 lat], .int .i64 f] w fun e w' => e = .returned (.bool true) ∧ Below w.heap.size w w' := by
  have HA := Lib.hid (fun w1 => c_sAt a 4 w1 ha.1 ha.2 (by omega) (by omega))
  have HB := Lib.hid (fun w1 => c_sAt b 18000 w1 hb.1 hb.2 (by omega) (by omega))
  have HE := Lib.hid (fun w1 => c_sAt e 500000 w1 he.1 he.2 (by omega) (by omega))
  have HF := Lib.hid (fun w1 => c_sAt f 7000000 w1 hf.1 hf.2 (by omega) (by omega))
  have HO := Lib.hid (fun w1 => c_sSite lon lat w1 ho.1 ho.2 hl.1 hl.2)
  have q0 : 0 ≤ a % 4 := by omega
  have q1 : a % 4 ≤ 3 := by omega
  have y0 : 0 ≤ b % 18000 := by omega
  have y1 : b % 18000 < 18000 := by omega
  have d0 : 0 ≤ e % 500000 := by omega
  have d1 : e % 500000 < 500000 := by omega
  have g0 : 0 ≤ f % 7000000 := by omega
  have g1 : f % 7000000 < 7000000 := by omega
  have n1 := Int.tmod_lt_of_pos c (show (0 : Int) < 90000 by omega)
  have n0 : -90000 < c.tmod 90000 := by
    have := Int.tmod_lt_of_pos (-c) (show (0 : Int) < 90000 by omega)
    rw [Int.neg_tmod] at this; omega
  obtain ⟨n, hn⟩ : ∃ n, c.tmod 90000 = n := ⟨_, rfl⟩
  rw [hn] at n0 n1
  have vn : IntKind.i64.wrap (c.tmod 90000) = n := by rw [hn]; exact IntWalk.i64_in _ (by omega)
  generalize a % 4 = q at *
  generalize b % 18000 = y at *
  generalize e % 500000 = wd at *
  generalize f % 7000000 = d at *
  generalize lon.tmod 500000001 = po at *
  generalize lat.tmod 220000001 = pa at *
  have v1 : IntKind.i64.wrap (y - 9000) = y - 9000 := IntWalk.i64_in _ (by omega)
  have v2 : IntKind.i64.wrap (150000 + wd) = 150000 + wd := IntWalk.i64_in _ (by omega)
  have v3 : IntKind.i64.wrap (d - 3500000) = d - 3500000 := IntWalk.i64_in _ (by omega)
  obtain ⟨s1, s2, s3, s4, s5⟩ := tsh_sea (q := q) (y := y - 9000) (wd := 150000 + wd) q0 q1 (by omega) (by omega) (by omega)
  obtain ⟨p1, p2, p3, p4, p5⟩ := tsh_ph (n := n) (q := q) (wd := 150000 + wd) (by omega) (by omega) q0 q1 (by omega)
  obtain ⟨r1, r2, r3⟩ := tsh_rise po pa (d - 3500000) 0 true (wd := 150000 + wd) (by omega)
  have HS := Lib.hid (fun w1 (h : Tab w1) => c_sFind_ok q (y - 9000) w1 h q0 q1 (by omega) (by omega))
  have HP := Lib.hid (fun w1 (h : Tab w1) => c_pFind_ok n q w1 h (by omega) (by omega) q0 q1)
  have hs := fun w1 (h : Tab w1) => c_shS q (y - 9000) (150000 + wd) w1 h q0 q1 (by omega) (by omega) (by omega) (by omega)
  have hp := fun w1 (h : Tab w1) => c_shP n q (150000 + wd) w1 h (by omega) (by omega) q0 q1 (by omega) (by omega)
  rw [show shV (shS q (y - 9000) (150000 + wd)) = .tuple #[.agg #[.int .i64 (shS q (y - 9000) (150000 + wd)).lo, .int .i64 (shS q (y - 9000) (150000 + wd)).hi], .int .i64 0] by unfold shV; rw [if_pos s1]] at hs
  rw [show shV (shP n q (150000 + wd)) = .tuple #[.agg #[.int .i64 (shP n q (150000 + wd)).lo, .int .i64 (shP n q (150000 + wd)).hi], .int .i64 0] by unfold shV; rw [if_pos p1]] at hp
  have HF1 := Lib.hid (fun w1 (h : Tab w1) (h2 : LTab w1) => c_FindA po pa (d - 3500000) 0 true w1 h h2)
  have hr := fun w1 (h : Tab w1) (h2 : LTab w1) => c_Rise po pa (d - 3500000) 0 true (150000 + wd) w1 h h2 (by omega)
  rw [r1] at hr
  obtain ⟨bs1, bs2, bs3, -⟩ := sea_bd (y := y - 9000) (q := q) (by omega) (by omega) q0 q1
  obtain ⟨bp1, bp2, bp3, -⟩ := ph_bd (n := n) (q := q) (by omega) (by omega) q0 q1
  have HSS := Lib.hid hs
  have HPP := Lib.hid hp
  have HRR := Lib.hid hr
  clear hs hp hr s1 p1 r1
  generalize shS q (y - 9000) (150000 + wd) = S2 at *
  generalize shP n q (150000 + wd) = P2 at *
  generalize seR q (y - 9000) = S1 at *
  generalize phR n q = P1 at *
  generalize srR po pa (d - 3500000) 0 true (150000 + wd) = R2 at *
  generalize fdR po pa (d - 3500000) 0 true = R1 at *
  have f1 : decide (S2.lo < S1.lo) = false := decide_eq_false (by omega)
  have f2 : decide (S1.hi < S2.hi) = false := decide_eq_false (by omega)
  have f3 : decide (P2.lo < P1.lo) = false := decide_eq_false (by omega)
  have f4 : decide (P1.hi < P2.hi) = false := decide_eq_false (by omega)
  have e1 : IntKind.i64.wrap (S2.hi - S2.lo) = S2.hi - S2.lo := IntWalk.i64_in _ (by omega)
  have e2 : IntKind.i64.wrap (P2.hi - P2.lo) = P2.hi - P2.lo := IntWalk.i64_in _ (by omega)
  have f5 : decide (150000 + wd < S2.hi - S2.lo) = false := decide_eq_false (by omega)
  have f6 : decide (150000 + wd < P2.hi - P2.lo) = false := decide_eq_false (by omega)
  have f7 : decide (R1.lo ≤ R2.lo) = true := decide_eq_true r2
  have f8 : decide (R2.hi ≤ R1.hi) = true := decide_eq_true r3
  have HT := Lib.hid hT
  have HLT := Lib.hid hL
  clear hT hL q0 q1 y0 y1 d0 d1 g0 g1 n0 n1 s2 s3 s4 s5 p2 p3 p4 p5 r2 r3 bs1 bs2 bs3 bp1 bp2 bp3 ha hb hc he ho hl hf
  have hgen := sgen; have hgen2 := sgen2; have hgen3 := sgen3; go_enter Tryz.func3, Tryz.ntmps3
  go_upto_region 8 with (first | (go_at_call 4; (refine (c_sSky _ (HT.out.below (by exact belz))).mono ?_); rintro e w1 ⟨rfl, hb⟩; have hz := hb.size; (try simp only [szA, szS, szD, szN] at hz); (try (refine bcB (n := w.heap.size) hb ?_; intro h_w_0 e_w_0 d_w_0 _ _))) | (go_at_call 5; (first | (with_reducible refine (HA.out _).mono ?_) | (with_reducible refine (HB.out _).mono ?_) | (with_reducible refine (HE.out _).mono ?_)); rintro e w' ⟨rfl, rfl⟩) | (go_at_call 6; (with_reducible refine (HS.out _ (HT.out.below (by exact belz))).mono ?_); rintro e w2 ⟨rfl, hb⟩; have hz := hb.size; (try simp only [szA, szS, szD, szN] at hz); (try (refine bcB (n := w.heap.size) hb ?_; intro h_w_0 e_w_0 d_w_0 _ _))) | (go_at_call 7; (with_reducible refine (HSS.out _ (HT.out.below (by exact belz))).mono ?_); rintro e w3 ⟨rfl, hb⟩; have hz := hb.size; (try simp only [szA, szS, szD, szN] at hz); (try (refine bcB (n := w.heap.size) hb ?_; intro h_w_0 e_w_0 d_w_0 _ _)); (try (refine bcB (n := w2.heap.size) hb ?_; intro h_w2_0 e_w2_0 d_w2_0 _ _))) | (go_at_call 8; (with_reducible refine (HP.out _ (HT.out.below (by exact belz))).mono ?_); rintro e w4 ⟨rfl, hb⟩; have hz := hb.size; (try simp only [szA, szS, szD, szN] at hz); (try (refine bcB (n := w.heap.size) hb ?_; intro h_w_0 e_w_0 d_w_0 _ _)); (try (refine bcB (n := w2.heap.size) hb ?_; intro h_w2_0 e_w2_0 d_w2_0 _ _)); (try (refine bcB (n := w3.heap.size) hb ?_; intro h_w3_0 e_w3_0 d_w3_0 _ _))) | (go_at_call 9; (with_reducible refine (HPP.out _ (HT.out.below (by exact belz))).mono ?_); rintro e w5 ⟨rfl, hb⟩; have hz := hb.size; (try simp only [szA, szS, szD, szN] at hz); (try (refine bcB (n := w.heap.size) hb ?_; intro h_w_0 e_w_0 d_w_0 _ _)); (try (refine bcB (n := w2.heap.size) hb ?_; intro h_w2_0 e_w2_0 d_w2_0 _ _)); (try (refine bcB (n := w3.heap.size) hb ?_; intro h_w3_0 e_w3_0 d_w3_0 _ _)); (try (refine bcB (n := w4.heap.size) hb ?_; intro h_w4_0 e_w4_0 d_w4_0 _ _))))
  go_cut [122] (fun x wc => x = .bool false ∧ SpAt wc w.heap.size lon lat ∧ Below w.heap.size w wc)
  case first =>
    clear HA HB HE HS HP HSS HPP HRR HF1 HO HF HT HLT
    go_wp2_with fail
    go_meet
    case rel =>
      refine ⟨by go_simp, ?_, ?_⟩
      · constructor <;> go_simp
      · exact belz
  case rest =>
    obtain ⟨rfl, hsp, hbc⟩ := hcut
    obtain ⟨l0, c0, c1, f0, f1'⟩ := hsp
    have hsz := hbc.size
    obtain ⟨wd, rfl⟩ : ∃ wd : World, wd = wc := ⟨_, rfl⟩
    clear f1 f2 f3 f4 f5 f6 e1 e2 HA HB HE HS HP HSS HPP
    go_upto_region 13 with (first | (go_at_call 10; (with_reducible refine (HO.out _).mono ?_); rintro e w6 ⟨rfl, hb⟩; have hz := hb.size; refine bcB (n := w.heap.size) hb ?_; intro h_w6 e_w6 d_w6 _ _) | (go_at_call 5; (with_reducible refine (HF.out _).mono ?_); rintro e w' ⟨rfl, rfl⟩) | (go_at_call 11; (with_reducible refine (HF1.out _ (HT.out.below (by exact belz)) (HLT.out.below (by exact belz))).mono ?_); rintro e w7 ⟨rfl, hb⟩; have hz := hb.size; (try simp only [szA, szS, szD, szN] at hz); (try (refine bcB (n := w.heap.size) hb ?_; intro h_w_0 e_w_0 d_w_0 _ _))) | (go_at_call 12; (with_reducible refine (HRR.out _ (HT.out.below (by exact belz)) (HLT.out.below (by exact belz))).mono ?_); rintro e w8 ⟨rfl, hb⟩; have hz := hb.size; (try simp only [szA, szS, szD, szN] at hz); (try (refine bcB (n := w.heap.size) hb ?_; intro h_w_0 e_w_0 d_w_0 _ _)); (try (refine bcB (n := w7.heap.size) hb ?_; intro h_w7_0 e_w7_0 d_w7_0 _ _))))
    go_wp2_with fail
    go_ret
    refine ⟨rfl, ?_⟩
    exact belz
end Go.Proofs.YtjkhoepohiafeaaGreatDoor
