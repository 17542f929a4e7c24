/- The contracts of trig.arcSine, ArcSin, and of the reference's FromUnit and InArcSin. The contracts of trig.contains, SinOver and CosOver. Contracts of trig.Times, Plus, Minus, of sun.Tilt, and of trig.Arc at any intervals that are right. -/
import Derived.Test.YtcgnhnmigmdalaaDoorTrL
import Derived.Test.YtcgnhnmigmdalaaDoorTrD
import Derived.Test.YtcgnhnmigmdalaaDoorTrC
import Derived.Test.YtcgnhnmigmdalaaDoorEqB
set_option linter.unusedVariables false
set_option linter.unusedSimpArgs false
namespace Go.Proofs.YtcgnhnmigmdalaaDoor
section
open Go.RowKit
theorem c_FromUnit (n : Int) (w : World) (n1 : -1000000000 ≤ n) (n2 : n ≤ 1000000000) : Calls Tryd.prog 23 #[.int .i64 n] w fun e w' => e = .returned (.int .i64 (fu n)) ∧ w = w' := by
  have h := Int.tmod_add_tdiv_mul (n * 606846976) 1000000000
  have b : -606846976 ≤ (n * 606846976).tdiv 1000000000 ∧ (n * 606846976).tdiv 1000000000 ≤ 606846976 := by
    have t1 := Int.tmod_lt_of_pos (n * 606846976) (show (0 : Int) < 1000000000 by omega)
    have t2 : -1000000000 < (n * 606846976).tmod 1000000000 := by
      have := Int.neg_tmod (n * 606846976) 1000000000
      have t3 := Int.tmod_lt_of_pos (-(n * 606846976)) (show (0 : Int) < 1000000000 by omega)
      omega
    omega
  have e : fu n = n * 1152921504 + (n * 606846976).tdiv 1000000000 := rfl
  have E := Lib.hid e
  clear h e
  have hgen := sgen; have hgen2 := sgen2; have hgen3 := sgen3; go_enter Tryd.func23, Tryd.ntmps23
  go_wp2
  go_ret
  exact ⟨ret_int (by rw [E.out]), rfl⟩
end
section
open Go.RowKit
set_option maxHeartbeats 1000000 in
theorem c_contains (lo hi g : Int) (w : World) (a1 : -3000000000000000000 ≤ lo) (a2 : lo ≤ 3000000000000000000) (a3 : -3000000000000000000 ≤ hi) (a4 : hi ≤ 3000000000000000000) (g1 : 0 ≤ g) (g2 : g ≤ 1000000000) :
    Calls Tryd.prog 113 #[.agg #[.int .i64 lo, .int .i64 hi], .int .i64 g] w fun e w' => e = .returned (.bool (ctB lo hi g)) ∧ Below w.heap.size w w' := by
  have HM := Lib.hid (fun w1 => c_mod (g - lo) 1000000000 w1 (by omega) (by omega) (by omega) (by omega))
  have z1 : IntKind.i64.wrap (hi - lo) = hi - lo := by rw [IntKind.wrap_i64]; omega
  have z2 : IntKind.i64.wrap (g - lo) = g - lo := by rw [IntKind.wrap_i64]; omega
  by_cases h : 1000000000 ≤ hi - lo
  · have d1 : decide (1000000000 ≤ hi - lo) = true := decide_eq_true h
    have e : ctB lo hi g = true := by unfold ctB; rw [d1]; rfl
    rw [e]
    clear e HM
    have hgen := sgen; have hgen2 := sgen2; have hgen3 := sgen3; go_enter Tryd.func113, Tryd.ntmps113
    go_wp2
    go_quiet (fail)
    go_wp2
    go_ret
    refine ⟨rfl, ?_⟩
    exact belz
  · have d1 : decide (1000000000 ≤ hi - lo) = false := decide_eq_false h
    have m0 := Int.emod_nonneg (g - lo) (show (1000000000 : Int) ≠ 0 by omega)
    have m1 := Int.emod_lt_of_pos (g - lo) (show (0 : Int) < 1000000000 by omega)
    have e : ctB lo hi g = decide ((g - lo) % 1000000000 ≤ hi - lo) := by unfold ctB; rw [d1]; rfl
    rw [e]
    generalize (g - lo) % 1000000000 = r at *
    clear e h
    have hgen := sgen; have hgen2 := sgen2; have hgen3 := sgen3; go_enter Tryd.func113, Tryd.ntmps113
    go_wp2
    go_region_held3 (fun w' => w'.cell? ⟨w.heap.size, 0, none⟩ = some (.int .i64 lo) ∧ w'.cell? ⟨w.heap.size, 1, none⟩ = some (.int .i64 hi)) (refine ⟨?_, ?_⟩ <;> (first | (go_simp; done) | go_keep)) (first | (go_at_call 86; refine (HM.out _).mono ?_; rintro e w' ⟨rfl, nn, rfl⟩))
    all_goals go_wp2
    all_goals go_ret
    all_goals refine ⟨rfl, ?_⟩
    all_goals exact belz
theorem c_SinOver_bad (lo hi : Int) (w : World) (h : spanErr lo hi ≠ 0) : Calls Tryd.prog 95 #[.agg #[.int .i64 lo, .int .i64 hi]] w fun e w' => e = .returned (.tuple #[.agg #[.int .i64 0, .int .i64 0], .int .i64 (spanErr lo hi)]) ∧ Below w.heap.size w w' := by
  have HC := Lib.hid (fun w1 => c_intervalCheck lo hi w1)
  have b1 : (spanErr lo hi != 0) = true := by simp; exact h
  have b0 : (spanErr lo hi == 0) = false := by simp; exact h
  clear h
  generalize spanErr lo hi = ee at *
  have hgen := sgen; have hgen2 := sgen2; have hgen3 := sgen3; go_enter Tryd.func95, Tryd.ntmps95
  go_wp2_with (go_at_call 93; (refine (HC.out _).mono ?_); rintro e w1 ⟨rfl, hb⟩; have hz := hb.size; (try simp only [szA, szS, szD, szN] at hz); (try (refine bcB (n := w.heap.size) hb ?_; intro h_w_0 e_w_0 d_w_0 _ _)); (try (refine bcB (n := w.heap.size + 1) hb ?_; intro h_w_1 e_w_1 d_w_1 _ _)))
  refine bodyPost_ret (v := .tuple #[.agg #[.int .i64 0, .int .i64 0], .int .i64 ee]) (by simp only [results, Tryd.results95]; go_simp) rfl ⟨rfl, ?_⟩
  exact belz
theorem c_CosOver_bad (lo hi : Int) (w : World) (h : spanErr lo hi ≠ 0) : Calls Tryd.prog 96 #[.agg #[.int .i64 lo, .int .i64 hi]] w fun e w' => e = .returned (.tuple #[.agg #[.int .i64 0, .int .i64 0], .int .i64 (spanErr lo hi)]) ∧ Below w.heap.size w w' := by
  have HC := Lib.hid (fun w1 => c_intervalCheck lo hi w1)
  have b1 : (spanErr lo hi != 0) = true := by simp; exact h
  have b0 : (spanErr lo hi == 0) = false := by simp; exact h
  clear h
  generalize spanErr lo hi = ee at *
  have hgen := sgen; have hgen2 := sgen2; have hgen3 := sgen3; go_enter Tryd.func96, Tryd.ntmps96
  go_wp2_with (go_at_call 93; (refine (HC.out _).mono ?_); rintro e w1 ⟨rfl, hb⟩; have hz := hb.size; (try simp only [szA, szS, szD, szN] at hz); (try (refine bcB (n := w.heap.size) hb ?_; intro h_w_0 e_w_0 d_w_0 _ _)); (try (refine bcB (n := w.heap.size + 1) hb ?_; intro h_w_1 e_w_1 d_w_1 _ _)))
  refine bodyPost_ret (v := .tuple #[.agg #[.int .i64 0, .int .i64 0], .int .i64 ee]) (by simp only [results, Tryd.results96]; go_simp) rfl ⟨rfl, ?_⟩
  exact belz
set_option maxRecDepth 100000 in
set_option maxHeartbeats 4000000 in
theorem c_SinOver_ok (lo hi : Int) (w : World) (ht : Tab w) (h : spanErr lo hi = 0) (a1 : -3000000000000000000 ≤ lo) (a2 : lo ≤ 3000000000000000000) (a3 : -3000000000000000000 ≤ hi) (a4 : hi ≤ 3000000000000000000) :
    Calls Tryd.prog 95 #[.agg #[.int .i64 lo, .int .i64 hi]] w fun e w' => e = .returned (.tuple #[.agg #[.int .i64 (sovLo lo hi), .int .i64 (sovHi lo hi)], .int .i64 0]) ∧ Below w.heap.size w w' := by
  have HC := Lib.hid (fun w1 => c_intervalCheck lo hi w1)
  rw [h] at HC
  have HT := Lib.hid ht
  have HS1 := Lib.hid (fun w1 (hw : Tab w1) => c_sine lo w1 hw (by omega) (by omega))
  have HS2 := Lib.hid (fun w1 (hw : Tab w1) => c_sine hi w1 hw (by omega) (by omega))
  have HC1 := Lib.hid (fun w1 => c_contains lo hi 250000000 w1 a1 a2 a3 a4 (by omega) (by omega))
  have HC2 := Lib.hid (fun w1 => c_contains lo hi 750000000 w1 a1 a2 a3 a4 (by omega) (by omega))
  have HL := Lib.hid (show sovLo lo hi = if ctB lo hi 750000000 then -1000000000 else min (sineLo lo) (sineLo hi) from rfl)
  have HH := Lib.hid (show sovHi lo hi = if ctB lo hi 250000000 then 1000000000 else max (sineHi lo) (sineHi hi) from rfl)
  clear ht h
  generalize sineLo lo = l1 at *
  generalize sineHi lo = h1 at *
  generalize sineLo hi = l2 at *
  generalize sineHi hi = h2 at *
  generalize sovLo lo hi = rl at *
  generalize sovHi lo hi = rh at *
  have hgen := sgen; have hgen2 := sgen2; have hgen3 := sgen3; go_enter Tryd.func95, Tryd.ntmps95
  go_upto_region 4 with (go_at_call 93; (refine (HC.out _).mono ?_); rintro e w1 ⟨rfl, hb⟩; have hz := hb.size; (try simp only [szA, szS, szD, szN] at hz); (try (refine bcB (n := w.heap.size) hb ?_; intro h_w_0 e_w_0 d_w_0 _ _)); (try (refine bcB (n := w.heap.size + 1) hb ?_; intro h_w_1 e_w_1 d_w_1 _ _)))
  go_cut [5, 6] (fun s5 s6 wk => ∃ b5 b6 : Nat, s5 = .pointer (some ⟨b5, 0, none⟩) ∧ s6 = .pointer (some ⟨b6, 0, none⟩) ∧ w1.heap.size ≤ b5 ∧ w1.heap.size ≤ b6 ∧ b5 < wk.heap.size ∧ b6 < wk.heap.size ∧ wk.cell? ⟨b5, 0, none⟩ = some (.int .i64 l1) ∧ wk.cell? ⟨b5, 1, none⟩ = some (.int .i64 h1) ∧ wk.cell? ⟨b6, 0, none⟩ = some (.int .i64 l2) ∧ wk.cell? ⟨b6, 1, none⟩ = some (.int .i64 h2) ∧ Below w1.heap.size w1 wk)
  case first =>
    go_region_held3 (fun w' => w'.cell? ⟨w.heap.size, 0, none⟩ = some (.int .i64 lo) ∧ w'.cell? ⟨w.heap.size, 1, none⟩ = some (.int .i64 hi)) (refine ⟨?_, ?_⟩ <;> (first | (go_simp; done) | go_keep)) (first | (go_at_call 112; (with_reducible refine (HS1.out _ (HT.out.below (by exact belz))).mono ?_); rintro e w2 ⟨rfl, hb⟩; have hz := hb.size; (try simp only [szA, szS, szD, szN] at hz); (try (refine bcB (n := w.heap.size) hb ?_; intro h_w_0 e_w_0 d_w_0 _ _)); (try (refine bcB (n := w.heap.size + 1) hb ?_; intro h_w_1 e_w_1 d_w_1 _ _)); (try (refine bcB (n := w1.heap.size) hb ?_; intro h_w1_0 e_w1_0 d_w1_0 _ _)); (try (refine bcB (n := w1.heap.size + 1) hb ?_; intro h_w1_1 e_w1_1 d_w1_1 _ _)); (try (refine bcB (n := w3.heap.size) hb ?_; intro h_w3_0 e_w3_0 d_w3_0 _ _)); (try (refine bcB (n := w3.heap.size + 1) hb ?_; intro h_w3_1 e_w3_1 d_w3_1 _ _))) | (go_at_call 112; (with_reducible refine (HS2.out _ (HT.out.below (by exact belz))).mono ?_); rintro e w3 ⟨rfl, hb⟩; have hz := hb.size; (try simp only [szA, szS, szD, szN] at hz); (try (refine bcB (n := w.heap.size) hb ?_; intro h_w_0 e_w_0 d_w_0 _ _)); (try (refine bcB (n := w.heap.size + 1) hb ?_; intro h_w_1 e_w_1 d_w_1 _ _)); (try (refine bcB (n := w1.heap.size) hb ?_; intro h_w1_0 e_w1_0 d_w1_0 _ _)); (try (refine bcB (n := w1.heap.size + 1) hb ?_; intro h_w1_1 e_w1_1 d_w1_1 _ _)); (try (refine bcB (n := w2.heap.size) hb ?_; intro h_w2_0 e_w2_0 d_w2_0 _ _)); (try (refine bcB (n := w2.heap.size + 1) hb ?_; intro h_w2_1 e_w2_1 d_w2_1 _ _))))
    all_goals (go_wp2_with fail)
    all_goals go_meet
    all_goals
      case rel =>
        refine ⟨_, _, rfl, rfl, ?_, ?_, ?_, ?_, ?_, ?_, ?_, ?_, ?_⟩
        all_goals first | omega | (go_simp; done) | (go_simp; omega) | exact belz
  case rest =>
    obtain ⟨b5, b6, rfl, rfl, hb5, hb6, hb7, hb8, c1, c2, c3, c4, hbl⟩ := hcut
    have hsk := hbl.size
    have n1 : ¬ w.heap.size + 1 = b5 := by omega
    have n2 : ¬ w.heap.size + 1 = b6 := by omega
    have n3 : ¬ b5 = w.heap.size + 1 := by omega
    have n4 : ¬ b6 = w.heap.size + 1 := by omega
    have n5 : w.heap.size < wc.heap.size := by omega
    have n6 : w.heap.size + 1 < wc.heap.size := by omega
    refine bcUse (n := w.heap.size) hbl (by omega) ?_
    intro cA fA
    refine bcUse (n := w.heap.size + 1) hbl (by omega) ?_
    intro cB fB
    cases k1 : ctB lo hi 250000000 with
    | true =>
      rw [k1] at HC1 HH
      rw [if_pos rfl] at HH
      cases k2 : ctB lo hi 750000000 with
      | true =>
        rw [k2] at HC2 HL
        rw [if_pos rfl] at HL
        go_wp2_with (first | (go_at_call 113; (with_reducible refine (HC1.out _).mono ?_); rintro e w4 ⟨rfl, hb⟩; have hz := hb.size; (try simp only [szA, szS, szD, szN] at hz); (try (refine bcB (n := w.heap.size) hb ?_; intro h_w_0 e_w_0 d_w_0 _ _)); (try (refine bcB (n := w.heap.size + 1) hb ?_; intro h_w_1 e_w_1 d_w_1 _ _)); (try (refine bcB (n := wc.heap.size) hb ?_; intro h_wc_0 e_wc_0 d_wc_0 _ _)); (try (refine bcB (n := b5.heap.size) hb ?_; intro h_b5_0 e_b5_0 d_b5_0 _ _)); (try (refine bcB (n := b6.heap.size) hb ?_; intro h_b6_0 e_b6_0 d_b6_0 _ _))) | (go_at_call 113; (with_reducible refine (HC2.out _).mono ?_); rintro e w5 ⟨rfl, hb⟩; have hz := hb.size; (try simp only [szA, szS, szD, szN] at hz); (try (refine bcB (n := w.heap.size) hb ?_; intro h_w_0 e_w_0 d_w_0 _ _)); (try (refine bcB (n := w.heap.size + 1) hb ?_; intro h_w_1 e_w_1 d_w_1 _ _)); (try (refine bcB (n := wc.heap.size) hb ?_; intro h_wc_0 e_wc_0 d_wc_0 _ _)); (try (refine bcB (n := b5.heap.size) hb ?_; intro h_b5_0 e_b5_0 d_b5_0 _ _)); (try (refine bcB (n := b6.heap.size) hb ?_; intro h_b6_0 e_b6_0 d_b6_0 _ _)); (try (refine bcB (n := w4.heap.size) hb ?_; intro h_w4_0 e_w4_0 d_w4_0 _ _))))
        rw [HL.out, HH.out]
        refine bodyPost_ret (v := .tuple #[.agg #[.int .i64 (-1000000000), .int .i64 1000000000], .int .i64 0]) (by simp only [results, Tryd.results95]; go_simp) rfl ⟨rfl, ?_⟩
        exact belz
      | false =>
        rw [k2] at HC2 HL
        rw [if_neg (by simp)] at HL
        go_wp2_with (first | (go_at_call 113; (with_reducible refine (HC1.out _).mono ?_); rintro e w4 ⟨rfl, hb⟩; have hz := hb.size; (try simp only [szA, szS, szD, szN] at hz); (try (refine bcB (n := w.heap.size) hb ?_; intro h_w_0 e_w_0 d_w_0 _ _)); (try (refine bcB (n := w.heap.size + 1) hb ?_; intro h_w_1 e_w_1 d_w_1 _ _)); (try (refine bcB (n := wc.heap.size) hb ?_; intro h_wc_0 e_wc_0 d_wc_0 _ _)); (try (refine bcB (n := b5.heap.size) hb ?_; intro h_b5_0 e_b5_0 d_b5_0 _ _)); (try (refine bcB (n := b6.heap.size) hb ?_; intro h_b6_0 e_b6_0 d_b6_0 _ _))) | (go_at_call 113; (with_reducible refine (HC2.out _).mono ?_); rintro e w5 ⟨rfl, hb⟩; have hz := hb.size; (try simp only [szA, szS, szD, szN] at hz); (try (refine bcB (n := w.heap.size) hb ?_; intro h_w_0 e_w_0 d_w_0 _ _)); (try (refine bcB (n := w.heap.size + 1) hb ?_; intro h_w_1 e_w_1 d_w_1 _ _)); (try (refine bcB (n := wc.heap.size) hb ?_; intro h_wc_0 e_wc_0 d_wc_0 _ _)); (try (refine bcB (n := b5.heap.size) hb ?_; intro h_b5_0 e_b5_0 d_b5_0 _ _)); (try (refine bcB (n := b6.heap.size) hb ?_; intro h_b6_0 e_b6_0 d_b6_0 _ _)); (try (refine bcB (n := w4.heap.size) hb ?_; intro h_w4_0 e_w4_0 d_w4_0 _ _))))
        rw [HL.out, HH.out]
        refine bodyPost_ret (v := .tuple #[.agg #[.int .i64 (min l1 l2), .int .i64 1000000000], .int .i64 0]) (by simp only [results, Tryd.results95]; go_simp) rfl ⟨rfl, ?_⟩
        exact belz
    | false =>
      rw [k1] at HC1 HH
      rw [if_neg (by simp)] at HH
      cases k2 : ctB lo hi 750000000 with
      | true =>
        rw [k2] at HC2 HL
        rw [if_pos rfl] at HL
        go_wp2_with (first | (go_at_call 113; (with_reducible refine (HC1.out _).mono ?_); rintro e w4 ⟨rfl, hb⟩; have hz := hb.size; (try simp only [szA, szS, szD, szN] at hz); (try (refine bcB (n := w.heap.size) hb ?_; intro h_w_0 e_w_0 d_w_0 _ _)); (try (refine bcB (n := w.heap.size + 1) hb ?_; intro h_w_1 e_w_1 d_w_1 _ _)); (try (refine bcB (n := wc.heap.size) hb ?_; intro h_wc_0 e_wc_0 d_wc_0 _ _)); (try (refine bcB (n := b5.heap.size) hb ?_; intro h_b5_0 e_b5_0 d_b5_0 _ _)); (try (refine bcB (n := b6.heap.size) hb ?_; intro h_b6_0 e_b6_0 d_b6_0 _ _))) | (go_at_call 113; (with_reducible refine (HC2.out _).mono ?_); rintro e w5 ⟨rfl, hb⟩; have hz := hb.size; (try simp only [szA, szS, szD, szN] at hz); (try (refine bcB (n := w.heap.size) hb ?_; intro h_w_0 e_w_0 d_w_0 _ _)); (try (refine bcB (n := w.heap.size + 1) hb ?_; intro h_w_1 e_w_1 d_w_1 _ _)); (try (refine bcB (n := wc.heap.size) hb ?_; intro h_wc_0 e_wc_0 d_wc_0 _ _)); (try (refine bcB (n := b5.heap.size) hb ?_; intro h_b5_0 e_b5_0 d_b5_0 _ _)); (try (refine bcB (n := b6.heap.size) hb ?_; intro h_b6_0 e_b6_0 d_b6_0 _ _)); (try (refine bcB (n := w4.heap.size) hb ?_; intro h_w4_0 e_w4_0 d_w4_0 _ _))))
        rw [HL.out, HH.out]
        refine bodyPost_ret (v := .tuple #[.agg #[.int .i64 (-1000000000), .int .i64 (max h1 h2)], .int .i64 0]) (by simp only [results, Tryd.results95]; go_simp) rfl ⟨rfl, ?_⟩
        exact belz
      | false =>
        rw [k2] at HC2 HL
        rw [if_neg (by simp)] at HL
        go_wp2_with (first | (go_at_call 113; (with_reducible refine (HC1.out _).mono ?_); rintro e w4 ⟨rfl, hb⟩; have hz := hb.size; (try simp only [szA, szS, szD, szN] at hz); (try (refine bcB (n := w.heap.size) hb ?_; intro h_w_0 e_w_0 d_w_0 _ _)); (try (refine bcB (n := w.heap.size + 1) hb ?_; intro h_w_1 e_w_1 d_w_1 _ _)); (try (refine bcB (n := wc.heap.size) hb ?_; intro h_wc_0 e_wc_0 d_wc_0 _ _)); (try (refine bcB (n := b5.heap.size) hb ?_; intro h_b5_0 e_b5_0 d_b5_0 _ _)); (try (refine bcB (n := b6.heap.size) hb ?_; intro h_b6_0 e_b6_0 d_b6_0 _ _))) | (go_at_call 113; (with_reducible refine (HC2.out _).mono ?_); rintro e w5 ⟨rfl, hb⟩; have hz := hb.size; (try simp only [szA, szS, szD, szN] at hz); (try (refine bcB (n := w.heap.size) hb ?_; intro h_w_0 e_w_0 d_w_0 _ _)); (try (refine bcB (n := w.heap.size + 1) hb ?_; intro h_w_1 e_w_1 d_w_1 _ _)); (try (refine bcB (n := wc.heap.size) hb ?_; intro h_wc_0 e_wc_0 d_wc_0 _ _)); (try (refine bcB (n := b5.heap.size) hb ?_; intro h_b5_0 e_b5_0 d_b5_0 _ _)); (try (refine bcB (n := b6.heap.size) hb ?_; intro h_b6_0 e_b6_0 d_b6_0 _ _)); (try (refine bcB (n := w4.heap.size) hb ?_; intro h_w4_0 e_w4_0 d_w4_0 _ _))))
        rw [HL.out, HH.out]
        refine bodyPost_ret (v := .tuple #[.agg #[.int .i64 (min l1 l2), .int .i64 (max h1 h2)], .int .i64 0]) (by simp only [results, Tryd.results95]; go_simp) rfl ⟨rfl, ?_⟩
        exact belz
set_option maxRecDepth 100000 in
set_option maxHeartbeats 1000000 in
theorem c_CosOver_ok (lo hi : Int) (w : World) (ht : Tab w) (h : spanErr lo hi = 0) (a1 : -1000000000000000000 ≤ lo) (a2 : lo ≤ hi) (a3 : hi ≤ 1000000000000000000) :
    Calls Tryd.prog 96 #[.agg #[.int .i64 lo, .int .i64 hi]] w fun e w' => e = .returned (.tuple #[.agg #[.int .i64 (sovLo (lo % 1000000000 + 250000000) (lo % 1000000000 + 250000000 + min (hi - lo) 2000000000)), .int .i64 (sovHi (lo % 1000000000 + 250000000) (lo % 1000000000 + 250000000 + min (hi - lo) 2000000000))], .int .i64 0]) ∧ Below w.heap.size w w' := by
  have HC := Lib.hid (fun w1 => c_intervalCheck lo hi w1)
  rw [h] at HC
  have HT := Lib.hid ht
  have HM := Lib.hid (fun w1 => c_mod lo 1000000000 w1 (by omega) (by omega) (by omega) (by omega))
  have m0 := Int.emod_nonneg lo (show (1000000000 : Int) ≠ 0 by omega)
  have m1 := Int.emod_lt_of_pos lo (show (0 : Int) < 1000000000 by omega)
  clear ht h
  generalize lo % 1000000000 = b at *
  obtain ⟨d, hd⟩ : ∃ d, min (hi - lo) 2000000000 = d := ⟨_, rfl⟩
  have d0 : 0 ≤ d := by omega
  have d1 : d ≤ 2000000000 := by omega
  rw [hd]
  have HS := Lib.hid (fun w1 (hw : Tab w1) => c_SinOver_ok (b + 250000000) (b + 250000000 + d) w1 hw (by unfold spanErr; repeat (first | rw [if_pos (by omega)] | rw [if_neg (by omega)])) (by omega) (by omega) (by omega) (by omega))
  generalize sovLo (b + 250000000) (b + 250000000 + d) = rl at *
  generalize sovHi (b + 250000000) (b + 250000000 + d) = rh at *
  have hgen := sgen; have hgen2 := sgen2; have hgen3 := sgen3; go_enter Tryd.func96, Tryd.ntmps96
  go_wp2_with (first | (go_at_call 93; (refine (HC.out _).mono ?_); rintro e w1 ⟨rfl, hb⟩; have hz := hb.size; (try simp only [szA, szS, szD, szN] at hz); (try (refine bcB (n := w.heap.size) hb ?_; intro h_w_0 e_w_0 d_w_0 _ _)); (try (refine bcB (n := w.heap.size + 1) hb ?_; intro h_w_1 e_w_1 d_w_1 _ _))) | (go_at_call 86; refine (HM.out _).mono ?_; rintro e w' ⟨rfl, nn, rfl⟩) | (go_at_call 95; (refine (HS.out _ (HT.out.below (by exact belz))).mono ?_); rintro e w2 ⟨rfl, hb⟩; have hz := hb.size; (try simp only [szA, szS, szD, szN] at hz); (try (refine bcB (n := w.heap.size) hb ?_; intro h_w_0 e_w_0 d_w_0 _ _)); (try (refine bcB (n := w.heap.size + 1) hb ?_; intro h_w_1 e_w_1 d_w_1 _ _)); (try (refine bcB (n := w1.heap.size) hb ?_; intro h_w1_0 e_w1_0 d_w1_0 _ _))))
  refine bodyPost_ret (v := .tuple #[.agg #[.int .i64 rl, .int .i64 rh], .int .i64 0]) (by simp only [results, Tryd.results96]; go_simp) rfl ⟨rfl, ?_⟩
  exact belz
end
section
open Go.RowKit
theorem sp_rat {al ah bl bh : Int} (ha : Sp1 al ah) (hb : Sp1 bl bh) : ∀ a b : Int, (a = al ∨ a = ah) → (b = bl ∨ b = bh) → RatOk a b 1000000000 := by
  intro a b ea eb
  obtain ⟨a0, a1, a2⟩ := ha
  obtain ⟨b0, b1, b2⟩ := hb
  left
  have h1 := absI_bd (a := a) (m := 1000000000) (by omega) (by omega)
  have h2 := absI_bd (a := b) (m := 1000000000) (by omega) (by omega)
  have h := Int.mul_le_mul h1 h2 (absI_nn b) (by decide)
  omega
theorem c_Times (al ah bl bh : Int) (w : World) (ha : Sp1 al ah) (hb : Sp1 bl bh) :
    Calls Tryd.prog 99 #[.agg #[.int .i64 al, .int .i64 ah], .agg #[.int .i64 bl, .int .i64 bh]] w fun e w' => e = .returned (.agg #[.int .i64 (pLo al ah bl bh 1000000000), .int .i64 (pHi al ah bl bh 1000000000)]) ∧ Below w.heap.size w w' := by
  have hr := sp_rat ha hb
  obtain ⟨a0, a1, a2⟩ := ha
  obtain ⟨b0, b1, b2⟩ := hb
  have HP := Lib.hid (fun w1 => c_product al ah bl bh 1000000000 w1 (by omega) (by omega) (by omega) (by omega) (by omega) (by omega) (by omega) (by omega) (by omega) (by omega) (hr _ _ (.inl rfl) (.inl rfl)) (hr _ _ (.inl rfl) (.inr rfl)) (hr _ _ (.inr rfl) (.inl rfl)) (hr _ _ (.inr rfl) (.inr rfl)))
  clear hr
  generalize pLo al ah bl bh 1000000000 = p at *
  generalize pHi al ah bl bh 1000000000 = q at *
  have hgen := sgen; have hgen2 := sgen2; have hgen3 := sgen3; go_enter Tryd.func99, Tryd.ntmps99
  go_wp2_with (go_at_call 115; (refine (HP.out _).mono ?_); rintro e w1 ⟨rfl, hb⟩; have hz := hb.size; (try simp only [szA, szS, szD, szN] at hz); (try (refine bcB (n := w.heap.size) hb ?_; intro h_w_0 e_w_0 d_w_0 _ _)); (try (refine bcB (n := w.heap.size + 1) hb ?_; intro h_w_1 e_w_1 d_w_1 _ _)); (try (refine bcB (n := w.heap.size + 1 + 1) hb ?_; intro h_w_2 e_w_2 d_w_2 _ _)))
  refine bodyPost_ret (v := .agg #[.int .i64 p, .int .i64 q]) (by simp only [results, Tryd.results99]; go_simp) rfl ⟨rfl, ?_⟩
  exact belz
theorem c_Plus (al ah bl bh : Int) (w : World) (a1 : -2000000000 ≤ al) (a2 : al ≤ 2000000000) (a3 : -2000000000 ≤ ah) (a4 : ah ≤ 2000000000) (b1 : -2000000000 ≤ bl) (b2 : bl ≤ 2000000000) (b3 : -2000000000 ≤ bh) (b4 : bh ≤ 2000000000) :
    Calls Tryd.prog 101 #[.agg #[.int .i64 al, .int .i64 ah], .agg #[.int .i64 bl, .int .i64 bh]] w fun e w' => e = .returned (.agg #[.int .i64 (al + bl), .int .i64 (ah + bh)]) ∧ Below w.heap.size w w' := by
  have hgen := sgen; have hgen2 := sgen2; have hgen3 := sgen3; go_enter Tryd.func101, Tryd.ntmps101
  go_wp2
  refine bodyPost_ret (v := .agg #[.int .i64 (al + bl), .int .i64 (ah + bh)]) (by simp only [results, Tryd.results101]; go_simp) rfl ⟨rfl, ?_⟩
  exact belz
end
end Go.Proofs.YtcgnhnmigmdalaaDoor
