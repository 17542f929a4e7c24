/- The walk through the law TopRise. -/
import Derived.Test.YtcgnhnmigmdalaaGreatDoorWalkTopS
import Derived.Test.YtcgnhnmigmdalaaGreatDoorWalkShd
import Derived.Test.YtcgnhnmigmdalaaGreatDoorRsA
import Derived.Test.YtcgnhnmigmdalaaGreatDoorPlainRsh
set_option linter.unusedVariables false
set_option linter.unusedSimpArgs false
namespace Go.Proofs.YtcgnhnmigmdalaaGreatDoor
open Go.RowKit
theorem c_sSiteR (lon lat : Int) (w : World) (h1 : -9223372036854775808 ≤ lon) (h2 : lon ≤ 9223372036854775807) (h3 : -9223372036854775808 ≤ lat) (h4 : lat ≤ 9223372036854775807) :
    Calls Tryz.prog 39 #[.agg #[.int .i64 lon, .int .i64 lat]] w fun e w' => e = .returned (.agg #[.int .i64 (lon.tmod 500000001), .int .i64 (lat.tmod 220000001)]) ∧ Below w.heap.size w w' := by
  have a1 := Int.tmod_lt_of_pos lon (show (0 : Int) < 500000001 by omega)
  have a2 : -500000001 < lon.tmod 500000001 := by
    have := Int.tmod_lt_of_pos (-lon) (show (0 : Int) < 500000001 by omega)
    rw [Int.neg_tmod] at this; omega
  have b1 := Int.tmod_lt_of_pos lat (show (0 : Int) < 220000001 by omega)
  have b2 : -220000001 < lat.tmod 220000001 := by
    have := Int.tmod_lt_of_pos (-lat) (show (0 : Int) < 220000001 by omega)
    rw [Int.neg_tmod] at this; omega
  have v1 : IntKind.i64.wrap (lon.tmod 500000001) = lon.tmod 500000001 := IntWalk.i64_in _ (by omega)
  have v2 : IntKind.i64.wrap (lat.tmod 220000001) = lat.tmod 220000001 := IntWalk.i64_in _ (by omega)
  have hgen := sgen; have hgen2 := sgen2; have hgen3 := sgen3; go_enter Tryz.func39, Tryz.ntmps39
  go_wp2
  refine bodyPost_ret (v := .agg #[.int .i64 (lon.tmod 500000001), .int .i64 (lat.tmod 220000001)]) (by simp only [results, Tryz.results39]; go_simp) rfl ⟨rfl, ?_⟩
  exact belz
set_option maxRecDepth 100000 in
set_option maxHeartbeats 4000000 in
theorem walk_TopRise (lon lat d t : Int) (w : World) (hT : Tab w) (hL : LTab w) (ho : -9223372036854775808 ≤ lon ∧ lon ≤ 9223372036854775807) (hl : -9223372036854775808 ≤ lat ∧ lat ≤ 9223372036854775807) (hd : -9223372036854775808 ≤ d ∧ d ≤ 9223372036854775807) (ht : -9223372036854775808 ≤ t ∧ t ≤ 9223372036854775807) :
    Calls Tryz.prog 6 #[.agg #[.int .i64 lon, .int .i64 lat], .int .i64 d, .int .i64 t] w fun e w' => e = .returned (.bool true) ∧ Below w.heap.size w w' := by
  have HO := Lib.hid (fun w1 => c_sSiteR lon lat w1 ho.1 ho.2 hl.1 hl.2)
  have HD := Lib.hid (fun w1 => c_sAt d 7000000 w1 hd.1 hd.2 (by omega) (by omega))
  have a1 := Int.tmod_lt_of_pos lon (show (0 : Int) < 500000001 by omega)
  have a2 : -500000001 < lon.tmod 500000001 := by
    have := Int.tmod_lt_of_pos (-lon) (show (0 : Int) < 500000001 by omega)
    rw [Int.neg_tmod] at this; omega
  have d1 : 0 ≤ d % 7000000 ∧ d % 7000000 < 7000000 := by omega
  generalize lon.tmod 500000001 = ln at *
  generalize lat.tmod 220000001 = m at *
  generalize d % 7000000 = dm at *
  have b1 := Int.tmod_lt_of_pos m (show (0 : Int) < 150000000 by omega)
  have b2 : -150000000 < m.tmod 150000000 := by
    have := Int.tmod_lt_of_pos (-m) (show (0 : Int) < 150000000 by omega)
    rw [Int.neg_tmod] at this; omega
  have hp : plB ln (m.tmod 150000000) = true := decide_eq_true (by omega)
  have v1 : IntKind.i64.wrap (dm - 3500000) = dm - 3500000 := IntWalk.i64_in _ (by omega)
  have v2 : IntKind.i64.wrap (m.tmod 150000000) = m.tmod 150000000 := IntWalk.i64_in _ (by omega)
  obtain ⟨dd, hdd⟩ : ∃ dd, dd = dm - 3500000 := ⟨_, rfl⟩
  obtain ⟨la, hla⟩ : ∃ la, la = m.tmod 150000000 := ⟨_, rfl⟩
  have dd1 : -3500000 ≤ dd ∧ dd < 3500000 := by omega
  rw [← hla] at b1 b2 hp
  have hE : rsE ln la 0 = 0 := by unfold rsE; rw [if_neg (by rw [hp]; decide), if_pos (.inl rfl)]
  have HF1 := Lib.hid (fun w1 h1 h2 => c_FindA ln la dd 0 true w1 h1 h2)
  have HF2 := Lib.hid (fun w1 h1 h2 => c_FindA ln la dd 0 false w1 h1 h2)
  obtain ⟨p1, p2, p3, p4⟩ := fdR_bd ln la dd 0 true
  obtain ⟨r1, r2, r3, r4⟩ := fdR_bd ln la dd 0 false
  have hrise := fun x => rise_all (t := x) b2 b1 hE (by omega) (by omega : dd < 4000000)
  generalize fdR ln la dd 0 true = R1 at *
  generalize fdR ln la dd 0 false = R2 at *
  obtain ⟨al, ah, ea⟩ := R1
  obtain ⟨bl, bh, eb⟩ := R2
  dsimp only at HF1 HF2 p1 p2 p3 p4 r1 r2 r3 r4 hrise
  rw [hla, hdd] at HF1 HF2
  have HT := Lib.hid hT
  have HLT := Lib.hid hL
  have HRise := Lib.hid hrise
  clear hT hL ho hl hd hrise
  have v3 : IntKind.i64.wrap (ah + 7200000) = ah + 7200000 := IntWalk.i64_in _ (by omega)
  by_cases ca : ea = 0
  case neg =>
    have z := p4 ca
    obtain ⟨rfl, rfl⟩ := z
    have g1 : (ea == 0) = false := beq_eq_false_iff_ne.2 ca
    have g2 : (ea != 0) = true := by simpa using ca
    by_cases cb : eb = 0
    · subst cb
      clear HRise
      have hgen := sgen; have hgen2 := sgen2; have hgen3 := sgen3; go_enter Tryz.func6, Tryz.ntmps6
      go_wp2_with (first | (go_at_call 38; (with_reducible refine (c_sSky _ (HT.out.below (by exact belz))).mono ?_); rintro e w1 ⟨rfl, hb⟩; have hz := hb.size; (try simp only [szA, szS, szD, szN] at hz); (try (refine bcB (n := w.heap.size) hb ?_; intro h_w_0 e_w_0 d_w_0 _ _)); (try (refine bcB (n := w.heap.size + 1) hb ?_; intro h_w_1 e_w_1 d_w_1 _ _))) | (go_at_call 39; (with_reducible refine (HO.out _).mono ?_); rintro e w2 ⟨rfl, hb⟩; have hz := hb.size; (try simp only [szA, szS, szD, szN] at hz); (try (refine bcB (n := w.heap.size) hb ?_; intro h_w_0 e_w_0 d_w_0 _ _)); (try (refine bcB (n := w.heap.size + 1) hb ?_; intro h_w_1 e_w_1 d_w_1 _ _)); (try (refine bcB (n := w1.heap.size) hb ?_; intro h_w1_0 e_w1_0 d_w1_0 _ _))) | (go_at_call 40; (with_reducible refine (HD.out _).mono ?_); rintro e w' ⟨rfl, rfl⟩) | (go_at_call 41; (with_reducible refine (HF1.out _ (HT.out.below (by exact belz)) (HLT.out.below (by exact belz))).mono ?_); rintro e w3 ⟨rfl, hb⟩; have hz := hb.size; (try simp only [szA, szS, szD, szN] at hz); (try (refine bcB (n := w.heap.size) hb ?_; intro h_w_0 e_w_0 d_w_0 _ _)); (try (refine bcB (n := w.heap.size + 1) hb ?_; intro h_w_1 e_w_1 d_w_1 _ _)); (try (refine bcB (n := w1.heap.size) hb ?_; intro h_w1_0 e_w1_0 d_w1_0 _ _)); (try (refine bcB (n := w2.heap.size) hb ?_; intro h_w2_0 e_w2_0 d_w2_0 _ _))) | (go_at_call 41; (with_reducible refine (HF2.out _ (HT.out.below (by exact belz)) (HLT.out.below (by exact belz))).mono ?_); rintro e w4 ⟨rfl, hb⟩; have hz := hb.size; (try simp only [szA, szS, szD, szN] at hz); (try (refine bcB (n := w.heap.size) hb ?_; intro h_w_0 e_w_0 d_w_0 _ _)); (try (refine bcB (n := w.heap.size + 1) hb ?_; intro h_w_1 e_w_1 d_w_1 _ _)); (try (refine bcB (n := w1.heap.size) hb ?_; intro h_w1_0 e_w1_0 d_w1_0 _ _)); (try (refine bcB (n := w2.heap.size) hb ?_; intro h_w2_0 e_w2_0 d_w2_0 _ _)); (try (refine bcB (n := w3.heap.size) hb ?_; intro h_w3_0 e_w3_0 d_w3_0 _ _)); (try (refine bcB (n := w3.heap.size + 1) hb ?_; intro h_w3_1 e_w3_1 d_w3_1 _ _))))
      go_ret
      exact ⟨by simp, by exact belz⟩
    · obtain ⟨rfl, rfl⟩ := r4 cb
      have g3 : (eb == 0) = false := beq_eq_false_iff_ne.2 cb
      have g4 : (eb != 0) = true := by simpa using cb
      clear HRise
      have hgen := sgen; have hgen2 := sgen2; have hgen3 := sgen3; go_enter Tryz.func6, Tryz.ntmps6
      go_wp2_with (first | (go_at_call 38; (with_reducible refine (c_sSky _ (HT.out.below (by exact belz))).mono ?_); rintro e w1 ⟨rfl, hb⟩; have hz := hb.size; (try simp only [szA, szS, szD, szN] at hz); (try (refine bcB (n := w.heap.size) hb ?_; intro h_w_0 e_w_0 d_w_0 _ _)); (try (refine bcB (n := w.heap.size + 1) hb ?_; intro h_w_1 e_w_1 d_w_1 _ _))) | (go_at_call 39; (with_reducible refine (HO.out _).mono ?_); rintro e w2 ⟨rfl, hb⟩; have hz := hb.size; (try simp only [szA, szS, szD, szN] at hz); (try (refine bcB (n := w.heap.size) hb ?_; intro h_w_0 e_w_0 d_w_0 _ _)); (try (refine bcB (n := w.heap.size + 1) hb ?_; intro h_w_1 e_w_1 d_w_1 _ _)); (try (refine bcB (n := w1.heap.size) hb ?_; intro h_w1_0 e_w1_0 d_w1_0 _ _))) | (go_at_call 40; (with_reducible refine (HD.out _).mono ?_); rintro e w' ⟨rfl, rfl⟩) | (go_at_call 41; (with_reducible refine (HF1.out _ (HT.out.below (by exact belz)) (HLT.out.below (by exact belz))).mono ?_); rintro e w3 ⟨rfl, hb⟩; have hz := hb.size; (try simp only [szA, szS, szD, szN] at hz); (try (refine bcB (n := w.heap.size) hb ?_; intro h_w_0 e_w_0 d_w_0 _ _)); (try (refine bcB (n := w.heap.size + 1) hb ?_; intro h_w_1 e_w_1 d_w_1 _ _)); (try (refine bcB (n := w1.heap.size) hb ?_; intro h_w1_0 e_w1_0 d_w1_0 _ _)); (try (refine bcB (n := w2.heap.size) hb ?_; intro h_w2_0 e_w2_0 d_w2_0 _ _))) | (go_at_call 41; (with_reducible refine (HF2.out _ (HT.out.below (by exact belz)) (HLT.out.below (by exact belz))).mono ?_); rintro e w4 ⟨rfl, hb⟩; have hz := hb.size; (try simp only [szA, szS, szD, szN] at hz); (try (refine bcB (n := w.heap.size) hb ?_; intro h_w_0 e_w_0 d_w_0 _ _)); (try (refine bcB (n := w.heap.size + 1) hb ?_; intro h_w_1 e_w_1 d_w_1 _ _)); (try (refine bcB (n := w1.heap.size) hb ?_; intro h_w1_0 e_w1_0 d_w1_0 _ _)); (try (refine bcB (n := w2.heap.size) hb ?_; intro h_w2_0 e_w2_0 d_w2_0 _ _)); (try (refine bcB (n := w3.heap.size) hb ?_; intro h_w3_0 e_w3_0 d_w3_0 _ _)); (try (refine bcB (n := w3.heap.size + 1) hb ?_; intro h_w3_1 e_w3_1 d_w3_1 _ _))))
      go_ret
      exact ⟨by simp, by exact belz⟩
  subst ca
  by_cases cb : eb = 0
  case neg =>
    obtain ⟨rfl, rfl⟩ := r4 cb
    have g3 : (eb == 0) = false := beq_eq_false_iff_ne.2 cb
    have g4 : (eb != 0) = true := by simpa using cb
    clear HRise
    have hgen := sgen; have hgen2 := sgen2; have hgen3 := sgen3; go_enter Tryz.func6, Tryz.ntmps6
    go_wp2_with (first | (go_at_call 38; (with_reducible refine (c_sSky _ (HT.out.below (by exact belz))).mono ?_); rintro e w1 ⟨rfl, hb⟩; have hz := hb.size; (try simp only [szA, szS, szD, szN] at hz); (try (refine bcB (n := w.heap.size) hb ?_; intro h_w_0 e_w_0 d_w_0 _ _)); (try (refine bcB (n := w.heap.size + 1) hb ?_; intro h_w_1 e_w_1 d_w_1 _ _))) | (go_at_call 39; (with_reducible refine (HO.out _).mono ?_); rintro e w2 ⟨rfl, hb⟩; have hz := hb.size; (try simp only [szA, szS, szD, szN] at hz); (try (refine bcB (n := w.heap.size) hb ?_; intro h_w_0 e_w_0 d_w_0 _ _)); (try (refine bcB (n := w.heap.size + 1) hb ?_; intro h_w_1 e_w_1 d_w_1 _ _)); (try (refine bcB (n := w1.heap.size) hb ?_; intro h_w1_0 e_w1_0 d_w1_0 _ _))) | (go_at_call 40; (with_reducible refine (HD.out _).mono ?_); rintro e w' ⟨rfl, rfl⟩) | (go_at_call 41; (with_reducible refine (HF1.out _ (HT.out.below (by exact belz)) (HLT.out.below (by exact belz))).mono ?_); rintro e w3 ⟨rfl, hb⟩; have hz := hb.size; (try simp only [szA, szS, szD, szN] at hz); (try (refine bcB (n := w.heap.size) hb ?_; intro h_w_0 e_w_0 d_w_0 _ _)); (try (refine bcB (n := w.heap.size + 1) hb ?_; intro h_w_1 e_w_1 d_w_1 _ _)); (try (refine bcB (n := w1.heap.size) hb ?_; intro h_w1_0 e_w1_0 d_w1_0 _ _)); (try (refine bcB (n := w2.heap.size) hb ?_; intro h_w2_0 e_w2_0 d_w2_0 _ _))) | (go_at_call 41; (with_reducible refine (HF2.out _ (HT.out.below (by exact belz)) (HLT.out.below (by exact belz))).mono ?_); rintro e w4 ⟨rfl, hb⟩; have hz := hb.size; (try simp only [szA, szS, szD, szN] at hz); (try (refine bcB (n := w.heap.size) hb ?_; intro h_w_0 e_w_0 d_w_0 _ _)); (try (refine bcB (n := w.heap.size + 1) hb ?_; intro h_w_1 e_w_1 d_w_1 _ _)); (try (refine bcB (n := w1.heap.size) hb ?_; intro h_w1_0 e_w1_0 d_w1_0 _ _)); (try (refine bcB (n := w2.heap.size) hb ?_; intro h_w2_0 e_w2_0 d_w2_0 _ _)); (try (refine bcB (n := w3.heap.size) hb ?_; intro h_w3_0 e_w3_0 d_w3_0 _ _)); (try (refine bcB (n := w3.heap.size + 1) hb ?_; intro h_w3_1 e_w3_1 d_w3_1 _ _))))
    go_ret
    exact ⟨by simp, by exact belz⟩
  subst cb
  by_cases cc : bl ≤ ah + 7200000
  · have g5 := decide_eq_true cc
    clear HRise
    have hgen := sgen; have hgen2 := sgen2; have hgen3 := sgen3; go_enter Tryz.func6, Tryz.ntmps6
    go_wp2_with (first | (go_at_call 38; (with_reducible refine (c_sSky _ (HT.out.below (by exact belz))).mono ?_); rintro e w1 ⟨rfl, hb⟩; have hz := hb.size; (try simp only [szA, szS, szD, szN] at hz); (try (refine bcB (n := w.heap.size) hb ?_; intro h_w_0 e_w_0 d_w_0 _ _)); (try (refine bcB (n := w.heap.size + 1) hb ?_; intro h_w_1 e_w_1 d_w_1 _ _))) | (go_at_call 39; (with_reducible refine (HO.out _).mono ?_); rintro e w2 ⟨rfl, hb⟩; have hz := hb.size; (try simp only [szA, szS, szD, szN] at hz); (try (refine bcB (n := w.heap.size) hb ?_; intro h_w_0 e_w_0 d_w_0 _ _)); (try (refine bcB (n := w.heap.size + 1) hb ?_; intro h_w_1 e_w_1 d_w_1 _ _)); (try (refine bcB (n := w1.heap.size) hb ?_; intro h_w1_0 e_w1_0 d_w1_0 _ _))) | (go_at_call 40; (with_reducible refine (HD.out _).mono ?_); rintro e w' ⟨rfl, rfl⟩) | (go_at_call 41; (with_reducible refine (HF1.out _ (HT.out.below (by exact belz)) (HLT.out.below (by exact belz))).mono ?_); rintro e w3 ⟨rfl, hb⟩; have hz := hb.size; (try simp only [szA, szS, szD, szN] at hz); (try (refine bcB (n := w.heap.size) hb ?_; intro h_w_0 e_w_0 d_w_0 _ _)); (try (refine bcB (n := w.heap.size + 1) hb ?_; intro h_w_1 e_w_1 d_w_1 _ _)); (try (refine bcB (n := w1.heap.size) hb ?_; intro h_w1_0 e_w1_0 d_w1_0 _ _)); (try (refine bcB (n := w2.heap.size) hb ?_; intro h_w2_0 e_w2_0 d_w2_0 _ _))) | (go_at_call 41; (with_reducible refine (HF2.out _ (HT.out.below (by exact belz)) (HLT.out.below (by exact belz))).mono ?_); rintro e w4 ⟨rfl, hb⟩; have hz := hb.size; (try simp only [szA, szS, szD, szN] at hz); (try (refine bcB (n := w.heap.size) hb ?_; intro h_w_0 e_w_0 d_w_0 _ _)); (try (refine bcB (n := w.heap.size + 1) hb ?_; intro h_w_1 e_w_1 d_w_1 _ _)); (try (refine bcB (n := w1.heap.size) hb ?_; intro h_w1_0 e_w1_0 d_w1_0 _ _)); (try (refine bcB (n := w2.heap.size) hb ?_; intro h_w2_0 e_w2_0 d_w2_0 _ _)); (try (refine bcB (n := w3.heap.size) hb ?_; intro h_w3_0 e_w3_0 d_w3_0 _ _)); (try (refine bcB (n := w3.heap.size + 1) hb ?_; intro h_w3_1 e_w3_1 d_w3_1 _ _))))
    go_ret
    exact ⟨by simp, by exact belz⟩
  have g5 := decide_eq_false cc
  have HA0 := fun w1 => c_sAt t (bl - ah - 7200000) w1 ht.1 ht.2 (by omega) (by omega)
  have q1 := Int.emod_nonneg t (show bl - ah - 7200000 ≠ 0 by omega)
  have q2 := Int.emod_lt_of_pos t (show 0 < bl - ah - 7200000 by omega)
  obtain ⟨k, hk⟩ : ∃ k, k = t % (bl - ah - 7200000) := ⟨_, rfl⟩
  rw [← hk] at HA0 q1 q2
  have HA := Lib.hid HA0
  clear HA0 hk
  obtain ⟨up, i1, i2⟩ := HRise.out (ah + 3600000 + k) rfl rfl (by omega) (by omega) (by omega)
  have hi : instB (ah + 3600000 + k) = true := inst_mk (by omega) (by omega)
  have hv : rsV ln la (ah + 3600000 + k) 0 = 1 := by rw [rsV_sun]; unfold abvN; rw [if_pos (by omega)]
  have hab := fun w1 h1 h2 => c_Above ln la (ah + 3600000 + k) 0 w1 h1 h2 hE hi
  rw [hv] at hab
  have HAb := Lib.hid hab
  have HSu := Lib.hid (fun w1 h1 => c_sunAt (ah + 3600000 + k) w1 h1 hi)
  have haz := su_az hp hi
  have v4 : IntKind.i64.wrap (ah + 3600000) = ah + 3600000 := IntWalk.i64_in _ (by omega)
  have v5 : IntKind.i64.wrap (bl - ah) = bl - ah := IntWalk.i64_in _ (by omega)
  have v6 : IntKind.i64.wrap (bl - ah - 7200000) = bl - ah - 7200000 := IntWalk.i64_in _ (by omega)
  have v7 : IntKind.i64.wrap (ah + 3600000 + k) = ah + 3600000 + k := IntWalk.i64_in _ (by omega)
  have hnl : ¬ suU0 ln la (ah + 3600000 + k) ≤ 0 := by omega
  clear hab hv HRise
  rcases haz with hz | ⟨p, q, c0, c1, c2, c3, hz, -⟩
  · have HAz := Lib.hid hz
    have HSh := Lib.hid (fun w1 h1 => c_Shd_open ln la (ah + 3600000 + k) w1 h1 hp hi hnl hz)
    clear hz up i1 i2 hi hnl hE hp
    generalize sraLo (ah + 3600000 + k) = s0 at *
    generalize sraHi (ah + 3600000 + k) = s1 at *
    generalize sdeLo (ah + 3600000 + k) = s2 at *
    generalize sdeHi (ah + 3600000 + k) = s3 at *
    rw [hla] at HAb HSh HAz
    have hgen := sgen; have hgen2 := sgen2; have hgen3 := sgen3; go_enter Tryz.func6, Tryz.ntmps6
    go_upto_region 9 with (first | (go_at_call 38; (with_reducible refine (c_sSky _ (HT.out.below (by exact belz))).mono ?_); rintro e w1 ⟨rfl, hb⟩; have hz := hb.size; (try simp only [szA, szS, szD, szN] at hz); (try (refine bcB (n := w.heap.size) hb ?_; intro h_w_0 e_w_0 d_w_0 _ _)); (try (refine bcB (n := w.heap.size + 1) hb ?_; intro h_w_1 e_w_1 d_w_1 _ _))) | (go_at_call 39; (with_reducible refine (HO.out _).mono ?_); rintro e w2 ⟨rfl, hb⟩; have hz := hb.size; (try simp only [szA, szS, szD, szN] at hz); (try (refine bcB (n := w.heap.size) hb ?_; intro h_w_0 e_w_0 d_w_0 _ _)); (try (refine bcB (n := w.heap.size + 1) hb ?_; intro h_w_1 e_w_1 d_w_1 _ _)); (try (refine bcB (n := w1.heap.size) hb ?_; intro h_w1_0 e_w1_0 d_w1_0 _ _))) | (go_at_call 40; (with_reducible refine (HD.out _).mono ?_); rintro e w' ⟨rfl, rfl⟩) | (go_at_call 41; (with_reducible refine (HF1.out _ (HT.out.below (by exact belz)) (HLT.out.below (by exact belz))).mono ?_); rintro e w3 ⟨rfl, hb⟩; have hz := hb.size; (try simp only [szA, szS, szD, szN] at hz); (try (refine bcB (n := w.heap.size) hb ?_; intro h_w_0 e_w_0 d_w_0 _ _)); (try (refine bcB (n := w.heap.size + 1) hb ?_; intro h_w_1 e_w_1 d_w_1 _ _)); (try (refine bcB (n := w1.heap.size) hb ?_; intro h_w1_0 e_w1_0 d_w1_0 _ _)); (try (refine bcB (n := w2.heap.size) hb ?_; intro h_w2_0 e_w2_0 d_w2_0 _ _))) | (go_at_call 41; (with_reducible refine (HF2.out _ (HT.out.below (by exact belz)) (HLT.out.below (by exact belz))).mono ?_); rintro e w4 ⟨rfl, hb⟩; have hz := hb.size; (try simp only [szA, szS, szD, szN] at hz); (try (refine bcB (n := w.heap.size) hb ?_; intro h_w_0 e_w_0 d_w_0 _ _)); (try (refine bcB (n := w.heap.size + 1) hb ?_; intro h_w_1 e_w_1 d_w_1 _ _)); (try (refine bcB (n := w1.heap.size) hb ?_; intro h_w1_0 e_w1_0 d_w1_0 _ _)); (try (refine bcB (n := w2.heap.size) hb ?_; intro h_w2_0 e_w2_0 d_w2_0 _ _)); (try (refine bcB (n := w3.heap.size) hb ?_; intro h_w3_0 e_w3_0 d_w3_0 _ _)); (try (refine bcB (n := w3.heap.size + 1) hb ?_; intro h_w3_1 e_w3_1 d_w3_1 _ _))))
    go_region_held3 (fun w9 => w9.cell? ⟨w3.heap.size, 1, none⟩ = some (.int .i64 ah) ∧ w9.cell? ⟨w4.heap.size, 0, none⟩ = some (.int .i64 bl)) (refine ⟨?_, ?_⟩ <;> (first | (go_simp; done) | go_keep)) ((go_at_call 40; (with_reducible refine (HA.out _).mono ?_); rintro e w' ⟨rfl, rfl⟩))
    go_wp2_with (first | (go_at_call 42; (with_reducible refine (HAb.out _ (HT.out.below (by exact belz)) (HLT.out.below (by exact belz))).mono ?_); rintro e w5 ⟨rfl, hb⟩; have hz := hb.size; (try simp only [szA, szS, szD, szN] at hz); (try (refine bcB (n := w.heap.size) hb ?_; intro h_w_0 e_w_0 d_w_0 _ _)); (try (refine bcB (n := w.heap.size + 1) hb ?_; intro h_w_1 e_w_1 d_w_1 _ _)); (try (refine bcB (n := w1.heap.size) hb ?_; intro h_w1_0 e_w1_0 d_w1_0 _ _)); (try (refine bcB (n := w2.heap.size) hb ?_; intro h_w2_0 e_w2_0 d_w2_0 _ _)); (try (refine bcB (n := w3.heap.size) hb ?_; intro h_w3_0 e_w3_0 d_w3_0 _ _)); (try (refine bcB (n := w3.heap.size + 1) hb ?_; intro h_w3_1 e_w3_1 d_w3_1 _ _)); (try (refine bcB (n := w4.heap.size) hb ?_; intro h_w4_0 e_w4_0 d_w4_0 _ _)); (try (refine bcB (n := w4.heap.size + 1) hb ?_; intro h_w4_1 e_w4_1 d_w4_1 _ _))) | (go_at_call 43; (with_reducible refine (HSh.out _ (HT.out.below (by exact belz))).mono ?_); rintro e w6 ⟨rfl, hb⟩; have hz := hb.size; (try simp only [szA, szS, szD, szN] at hz); (try (refine bcB (n := w.heap.size) hb ?_; intro h_w_0 e_w_0 d_w_0 _ _)); (try (refine bcB (n := w.heap.size + 1) hb ?_; intro h_w_1 e_w_1 d_w_1 _ _)); (try (refine bcB (n := w1.heap.size) hb ?_; intro h_w1_0 e_w1_0 d_w1_0 _ _)); (try (refine bcB (n := w2.heap.size) hb ?_; intro h_w2_0 e_w2_0 d_w2_0 _ _)); (try (refine bcB (n := w3.heap.size) hb ?_; intro h_w3_0 e_w3_0 d_w3_0 _ _)); (try (refine bcB (n := w3.heap.size + 1) hb ?_; intro h_w3_1 e_w3_1 d_w3_1 _ _)); (try (refine bcB (n := w4.heap.size) hb ?_; intro h_w4_0 e_w4_0 d_w4_0 _ _)); (try (refine bcB (n := w4.heap.size + 1) hb ?_; intro h_w4_1 e_w4_1 d_w4_1 _ _)); (try (refine bcB (n := w5.heap.size) hb ?_; intro h_w5_0 e_w5_0 d_w5_0 _ _))) | (go_at_call 9; (with_reducible refine (HSu.out _ (HT.out.below (by exact belz))).mono ?_); rintro e w7 ⟨rfl, hb⟩; have hz := hb.size; (try simp only [szA, szS, szD, szN] at hz); (try (refine bcB (n := w.heap.size) hb ?_; intro h_w_0 e_w_0 d_w_0 _ _)); (try (refine bcB (n := w.heap.size + 1) hb ?_; intro h_w_1 e_w_1 d_w_1 _ _)); (try (refine bcB (n := w1.heap.size) hb ?_; intro h_w1_0 e_w1_0 d_w1_0 _ _)); (try (refine bcB (n := w2.heap.size) hb ?_; intro h_w2_0 e_w2_0 d_w2_0 _ _)); (try (refine bcB (n := w3.heap.size) hb ?_; intro h_w3_0 e_w3_0 d_w3_0 _ _)); (try (refine bcB (n := w3.heap.size + 1) hb ?_; intro h_w3_1 e_w3_1 d_w3_1 _ _)); (try (refine bcB (n := w4.heap.size) hb ?_; intro h_w4_0 e_w4_0 d_w4_0 _ _)); (try (refine bcB (n := w4.heap.size + 1) hb ?_; intro h_w4_1 e_w4_1 d_w4_1 _ _)); (try (refine bcB (n := w5.heap.size) hb ?_; intro h_w5_0 e_w5_0 d_w5_0 _ _)); (try (refine bcB (n := w6.heap.size) hb ?_; intro h_w6_0 e_w6_0 d_w6_0 _ _)); (try (refine bcB (n := w6.heap.size + 1) hb ?_; intro h_w6_1 e_w6_1 d_w6_1 _ _))) | (go_at_call 17; (with_reducible refine (HAz.out _ (HT.out.below (by exact belz))).mono ?_); rintro e w8 ⟨rfl, hb⟩; have hz := hb.size; (try simp only [szA, szS, szD, szN] at hz); (try (refine bcB (n := w.heap.size) hb ?_; intro h_w_0 e_w_0 d_w_0 _ _)); (try (refine bcB (n := w.heap.size + 1) hb ?_; intro h_w_1 e_w_1 d_w_1 _ _)); (try (refine bcB (n := w1.heap.size) hb ?_; intro h_w1_0 e_w1_0 d_w1_0 _ _)); (try (refine bcB (n := w2.heap.size) hb ?_; intro h_w2_0 e_w2_0 d_w2_0 _ _)); (try (refine bcB (n := w3.heap.size) hb ?_; intro h_w3_0 e_w3_0 d_w3_0 _ _)); (try (refine bcB (n := w3.heap.size + 1) hb ?_; intro h_w3_1 e_w3_1 d_w3_1 _ _)); (try (refine bcB (n := w4.heap.size) hb ?_; intro h_w4_0 e_w4_0 d_w4_0 _ _)); (try (refine bcB (n := w4.heap.size + 1) hb ?_; intro h_w4_1 e_w4_1 d_w4_1 _ _)); (try (refine bcB (n := w5.heap.size) hb ?_; intro h_w5_0 e_w5_0 d_w5_0 _ _)); (try (refine bcB (n := w6.heap.size) hb ?_; intro h_w6_0 e_w6_0 d_w6_0 _ _)); (try (refine bcB (n := w6.heap.size + 1) hb ?_; intro h_w6_1 e_w6_1 d_w6_1 _ _)); (try (refine bcB (n := w7.heap.size) hb ?_; intro h_w7_0 e_w7_0 d_w7_0 _ _)); (try (refine bcB (n := w7.heap.size + 1) hb ?_; intro h_w7_1 e_w7_1 d_w7_1 _ _)); (try (refine bcB (n := w7.heap.size + 1 + 1) hb ?_; intro h_w7_2 e_w7_2 d_w7_2 _ _))))
    go_ret
    exact ⟨by simp, by exact belz⟩
  · have HAz := Lib.hid hz
    have HSh := Lib.hid (fun w1 h1 => c_Shd_ok ln la (ah + 3600000 + k) p q w1 h1 hp hi hnl c0 c1 c2 c3 hz)
    have hkz : ((p + 500000000) % 1000000000 - p - 500000000) % 1000000000 = 0 := by omega
    have HK0 := fun w1 => c_sAt ((p + 500000000) % 1000000000 - p - 500000000) 1000000000 w1 (by omega) (by omega) (by omega) (by omega)
    rw [hkz] at HK0
    have y1 : 0 ≤ (p + 500000000) % 1000000000 := by omega
    have y2 : (p + 500000000) % 1000000000 < 1000000000 := by omega
    have HK := Lib.hid HK0
    have g9 : decide (0 ≤ q - p) = true := decide_eq_true (by omega)
    clear hz up i1 i2 hi hnl hE hp HK0 hkz
    generalize (p + 500000000) % 1000000000 = pp at *
    generalize sraLo (ah + 3600000 + k) = s0 at *
    generalize sraHi (ah + 3600000 + k) = s1 at *
    generalize sdeLo (ah + 3600000 + k) = s2 at *
    generalize sdeHi (ah + 3600000 + k) = s3 at *
    rw [hla] at HAb HSh HAz
    have hgen := sgen; have hgen2 := sgen2; have hgen3 := sgen3; go_enter Tryz.func6, Tryz.ntmps6
    go_upto_region 9 with (first | (go_at_call 38; (with_reducible refine (c_sSky _ (HT.out.below (by exact belz))).mono ?_); rintro e w1 ⟨rfl, hb⟩; have hz := hb.size; (try simp only [szA, szS, szD, szN] at hz); (try (refine bcB (n := w.heap.size) hb ?_; intro h_w_0 e_w_0 d_w_0 _ _)); (try (refine bcB (n := w.heap.size + 1) hb ?_; intro h_w_1 e_w_1 d_w_1 _ _))) | (go_at_call 39; (with_reducible refine (HO.out _).mono ?_); rintro e w2 ⟨rfl, hb⟩; have hz := hb.size; (try simp only [szA, szS, szD, szN] at hz); (try (refine bcB (n := w.heap.size) hb ?_; intro h_w_0 e_w_0 d_w_0 _ _)); (try (refine bcB (n := w.heap.size + 1) hb ?_; intro h_w_1 e_w_1 d_w_1 _ _)); (try (refine bcB (n := w1.heap.size) hb ?_; intro h_w1_0 e_w1_0 d_w1_0 _ _))) | (go_at_call 40; (with_reducible refine (HD.out _).mono ?_); rintro e w' ⟨rfl, rfl⟩) | (go_at_call 41; (with_reducible refine (HF1.out _ (HT.out.below (by exact belz)) (HLT.out.below (by exact belz))).mono ?_); rintro e w3 ⟨rfl, hb⟩; have hz := hb.size; (try simp only [szA, szS, szD, szN] at hz); (try (refine bcB (n := w.heap.size) hb ?_; intro h_w_0 e_w_0 d_w_0 _ _)); (try (refine bcB (n := w.heap.size + 1) hb ?_; intro h_w_1 e_w_1 d_w_1 _ _)); (try (refine bcB (n := w1.heap.size) hb ?_; intro h_w1_0 e_w1_0 d_w1_0 _ _)); (try (refine bcB (n := w2.heap.size) hb ?_; intro h_w2_0 e_w2_0 d_w2_0 _ _))) | (go_at_call 41; (with_reducible refine (HF2.out _ (HT.out.below (by exact belz)) (HLT.out.below (by exact belz))).mono ?_); rintro e w4 ⟨rfl, hb⟩; have hz := hb.size; (try simp only [szA, szS, szD, szN] at hz); (try (refine bcB (n := w.heap.size) hb ?_; intro h_w_0 e_w_0 d_w_0 _ _)); (try (refine bcB (n := w.heap.size + 1) hb ?_; intro h_w_1 e_w_1 d_w_1 _ _)); (try (refine bcB (n := w1.heap.size) hb ?_; intro h_w1_0 e_w1_0 d_w1_0 _ _)); (try (refine bcB (n := w2.heap.size) hb ?_; intro h_w2_0 e_w2_0 d_w2_0 _ _)); (try (refine bcB (n := w3.heap.size) hb ?_; intro h_w3_0 e_w3_0 d_w3_0 _ _)); (try (refine bcB (n := w3.heap.size + 1) hb ?_; intro h_w3_1 e_w3_1 d_w3_1 _ _))))
    go_region_held3 (fun w9 => w9.cell? ⟨w3.heap.size, 1, none⟩ = some (.int .i64 ah) ∧ w9.cell? ⟨w4.heap.size, 0, none⟩ = some (.int .i64 bl)) (refine ⟨?_, ?_⟩ <;> (first | (go_simp; done) | go_keep)) ((go_at_call 40; (with_reducible refine (HA.out _).mono ?_); rintro e w' ⟨rfl, rfl⟩))
    go_wp2_with (first | (go_at_call 42; (with_reducible refine (HAb.out _ (HT.out.below (by exact belz)) (HLT.out.below (by exact belz))).mono ?_); rintro e w5 ⟨rfl, hb⟩; have hz := hb.size; (try simp only [szA, szS, szD, szN] at hz); (try (refine bcB (n := w.heap.size) hb ?_; intro h_w_0 e_w_0 d_w_0 _ _)); (try (refine bcB (n := w.heap.size + 1) hb ?_; intro h_w_1 e_w_1 d_w_1 _ _)); (try (refine bcB (n := w1.heap.size) hb ?_; intro h_w1_0 e_w1_0 d_w1_0 _ _)); (try (refine bcB (n := w2.heap.size) hb ?_; intro h_w2_0 e_w2_0 d_w2_0 _ _)); (try (refine bcB (n := w3.heap.size) hb ?_; intro h_w3_0 e_w3_0 d_w3_0 _ _)); (try (refine bcB (n := w3.heap.size + 1) hb ?_; intro h_w3_1 e_w3_1 d_w3_1 _ _)); (try (refine bcB (n := w4.heap.size) hb ?_; intro h_w4_0 e_w4_0 d_w4_0 _ _)); (try (refine bcB (n := w4.heap.size + 1) hb ?_; intro h_w4_1 e_w4_1 d_w4_1 _ _))) | (go_at_call 43; (with_reducible refine (HSh.out _ (HT.out.below (by exact belz))).mono ?_); rintro e w6 ⟨rfl, hb⟩; have hz := hb.size; (try simp only [szA, szS, szD, szN] at hz); (try (refine bcB (n := w.heap.size) hb ?_; intro h_w_0 e_w_0 d_w_0 _ _)); (try (refine bcB (n := w.heap.size + 1) hb ?_; intro h_w_1 e_w_1 d_w_1 _ _)); (try (refine bcB (n := w1.heap.size) hb ?_; intro h_w1_0 e_w1_0 d_w1_0 _ _)); (try (refine bcB (n := w2.heap.size) hb ?_; intro h_w2_0 e_w2_0 d_w2_0 _ _)); (try (refine bcB (n := w3.heap.size) hb ?_; intro h_w3_0 e_w3_0 d_w3_0 _ _)); (try (refine bcB (n := w3.heap.size + 1) hb ?_; intro h_w3_1 e_w3_1 d_w3_1 _ _)); (try (refine bcB (n := w4.heap.size) hb ?_; intro h_w4_0 e_w4_0 d_w4_0 _ _)); (try (refine bcB (n := w4.heap.size + 1) hb ?_; intro h_w4_1 e_w4_1 d_w4_1 _ _)); (try (refine bcB (n := w5.heap.size) hb ?_; intro h_w5_0 e_w5_0 d_w5_0 _ _))) | (go_at_call 9; (with_reducible refine (HSu.out _ (HT.out.below (by exact belz))).mono ?_); rintro e w7 ⟨rfl, hb⟩; have hz := hb.size; (try simp only [szA, szS, szD, szN] at hz); (try (refine bcB (n := w.heap.size) hb ?_; intro h_w_0 e_w_0 d_w_0 _ _)); (try (refine bcB (n := w.heap.size + 1) hb ?_; intro h_w_1 e_w_1 d_w_1 _ _)); (try (refine bcB (n := w1.heap.size) hb ?_; intro h_w1_0 e_w1_0 d_w1_0 _ _)); (try (refine bcB (n := w2.heap.size) hb ?_; intro h_w2_0 e_w2_0 d_w2_0 _ _)); (try (refine bcB (n := w3.heap.size) hb ?_; intro h_w3_0 e_w3_0 d_w3_0 _ _)); (try (refine bcB (n := w3.heap.size + 1) hb ?_; intro h_w3_1 e_w3_1 d_w3_1 _ _)); (try (refine bcB (n := w4.heap.size) hb ?_; intro h_w4_0 e_w4_0 d_w4_0 _ _)); (try (refine bcB (n := w4.heap.size + 1) hb ?_; intro h_w4_1 e_w4_1 d_w4_1 _ _)); (try (refine bcB (n := w5.heap.size) hb ?_; intro h_w5_0 e_w5_0 d_w5_0 _ _)); (try (refine bcB (n := w6.heap.size) hb ?_; intro h_w6_0 e_w6_0 d_w6_0 _ _)); (try (refine bcB (n := w6.heap.size + 1) hb ?_; intro h_w6_1 e_w6_1 d_w6_1 _ _))) | (go_at_call 17; (with_reducible refine (HAz.out _ (HT.out.below (by exact belz))).mono ?_); rintro e w8 ⟨rfl, hb⟩; have hz := hb.size; (try simp only [szA, szS, szD, szN] at hz); (try (refine bcB (n := w.heap.size) hb ?_; intro h_w_0 e_w_0 d_w_0 _ _)); (try (refine bcB (n := w.heap.size + 1) hb ?_; intro h_w_1 e_w_1 d_w_1 _ _)); (try (refine bcB (n := w1.heap.size) hb ?_; intro h_w1_0 e_w1_0 d_w1_0 _ _)); (try (refine bcB (n := w2.heap.size) hb ?_; intro h_w2_0 e_w2_0 d_w2_0 _ _)); (try (refine bcB (n := w3.heap.size) hb ?_; intro h_w3_0 e_w3_0 d_w3_0 _ _)); (try (refine bcB (n := w3.heap.size + 1) hb ?_; intro h_w3_1 e_w3_1 d_w3_1 _ _)); (try (refine bcB (n := w4.heap.size) hb ?_; intro h_w4_0 e_w4_0 d_w4_0 _ _)); (try (refine bcB (n := w4.heap.size + 1) hb ?_; intro h_w4_1 e_w4_1 d_w4_1 _ _)); (try (refine bcB (n := w5.heap.size) hb ?_; intro h_w5_0 e_w5_0 d_w5_0 _ _)); (try (refine bcB (n := w6.heap.size) hb ?_; intro h_w6_0 e_w6_0 d_w6_0 _ _)); (try (refine bcB (n := w6.heap.size + 1) hb ?_; intro h_w6_1 e_w6_1 d_w6_1 _ _)); (try (refine bcB (n := w7.heap.size) hb ?_; intro h_w7_0 e_w7_0 d_w7_0 _ _)); (try (refine bcB (n := w7.heap.size + 1) hb ?_; intro h_w7_1 e_w7_1 d_w7_1 _ _)); (try (refine bcB (n := w7.heap.size + 1 + 1) hb ?_; intro h_w7_2 e_w7_2 d_w7_2 _ _))) | (go_at_call 40; (with_reducible refine (HK.out _).mono ?_); rintro e w' ⟨rfl, rfl⟩))
    go_ret
    exact ⟨by simp, by exact belz⟩
end Go.Proofs.YtcgnhnmigmdalaaGreatDoor
