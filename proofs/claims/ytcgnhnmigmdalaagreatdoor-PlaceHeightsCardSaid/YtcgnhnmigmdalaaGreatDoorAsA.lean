/- The contracts of trig.arcSine, ArcSin, and of the reference's FromUnit and InArcSin. The contracts of trig.contains, SinOver and CosOver. Contracts of trig.Times, Plus, Minus, of sun.Tilt, and of trig.Arc at any intervals that are right. -/
import Derived.Test.YtcgnhnmigmdalaaGreatDoorTrL
import Derived.Test.YtcgnhnmigmdalaaGreatDoorTrD
import Derived.Test.YtcgnhnmigmdalaaGreatDoorTrC
import Derived.Test.YtcgnhnmigmdalaaGreatDoorEqB
set_option linter.unusedVariables false
set_option linter.unusedSimpArgs false
namespace Go.Proofs.YtcgnhnmigmdalaaGreatDoor
section
open Go.RowKit
set_option maxHeartbeats 1000000 in
theorem c_arcSine (a : Int) (w : World) (h : AsinP (cl9 a) (asinW (cl9 a))) : Calls Tryz.prog 95 #[.int .i64 a] w fun e w' => e = .returned (fl (asinW (cl9 a))) ∧ w = w' := by
  obtain ⟨x, X, r, d, f1, f2, f3, f4, f5, f6, f7, f8, f9, f10⟩ := h
  obtain ⟨n1, n2⟩ := cl9_rng a
  have e1 : min (max a (-1000000000)) 1000000000 = cl9 a := rfl
  have HQ := Lib.hid (fun w1 => c_Sqrt f1 w1)
  have HX := Lib.hid (fun w1 => c_Atan2 f3 f4 (fofI_lt64 (cl9 a)) f2 f5 f6 f7 f8 w1)
  have r1 : ∀ t w, (binOp .quo t (.float .f64 r) (.float .f64 4618760256179416344)).run Tryz.prog w = .ok (.float .f64 d) w := hdiv f9
  have r2 : ∀ t w, (binOp .mul t (.float .f64 d) (.float .f64 4741671816366391296)).run Tryz.prog w = .ok (.float .f64 (asinW (cl9 a))) w := hmul f10
  have hmm : (1000000000 - cl9 a) * (1000000000 + cl9 a) = 1000000000000000000 - cl9 a * cl9 a := by grind
  have mq : (0 : Int) ≤ cl9 a * cl9 a := by
    by_cases q : 0 ≤ cl9 a
    · exact Int.mul_nonneg q q
    · have := Int.mul_nonneg (show 0 ≤ -cl9 a by omega) (show 0 ≤ -cl9 a by omega); grind
  have m0 : 0 ≤ (1000000000 - cl9 a) * (1000000000 + cl9 a) := Int.mul_nonneg (by omega) (by omega)
  generalize asinW (cl9 a) = f at *
  generalize cl9 a = n at *
  obtain ⟨yw, hyw⟩ : ∃ z, fofI n = z := ⟨_, rfl⟩
  obtain ⟨xw, hxw⟩ : ∃ z, fofI ((1000000000 - n) * (1000000000 + n)) = z := ⟨_, rfl⟩
  rw [hyw] at HX
  rw [hxw] at HQ
  have z1 : IntKind.i64.wrap ((1000000000 - n) * (1000000000 + n)) = (1000000000 - n) * (1000000000 + n) := by rw [IntKind.wrap_i64]; omega
  have k1 : floatOfInt .f64 n = yw := hyw
  have k2 : floatOfInt .f64 ((1000000000 - n) * (1000000000 + n)) = xw := hxw
  clear f1 f2 f3 f4 f5 f6 f7 f8 f9 f10 hmm mq m0 hyw hxw
  have hgen := sgen; have hgen2 := sgen2; have hgen3 := sgen3; go_enter Tryz.func95, Tryz.ntmps95
  go_wp2_with (first | (go_at_call 120; refine (HQ.out _).mono ?_; rintro e w' ⟨rfl, rfl⟩) | (go_at_call 119; refine (HX.out _).mono ?_; rintro e w' ⟨rfl, rfl⟩))
  go_ret
  exact ⟨rfl, rfl⟩
theorem c_FromUnit (n : Int) (w : World) (n1 : -1000000000 ≤ n) (n2 : n ≤ 1000000000) : Calls Tryz.prog 30 #[.int .i64 n] w fun e w' => e = .returned (.int .i64 (fu n)) ∧ w = w' := by
  have h := Int.tmod_add_tdiv_mul (n * 606846976) 1000000000
  have b : -606846976 ≤ (n * 606846976).tdiv 1000000000 ∧ (n * 606846976).tdiv 1000000000 ≤ 606846976 := by
    have t1 := Int.tmod_lt_of_pos (n * 606846976) (show (0 : Int) < 1000000000 by omega)
    have t2 : -1000000000 < (n * 606846976).tmod 1000000000 := by
      have := Int.neg_tmod (n * 606846976) 1000000000
      have t3 := Int.tmod_lt_of_pos (-(n * 606846976)) (show (0 : Int) < 1000000000 by omega)
      omega
    omega
  have e : fu n = n * 1152921504 + (n * 606846976).tdiv 1000000000 := rfl
  have E := Lib.hid e
  clear h e
  have hgen := sgen; have hgen2 := sgen2; have hgen3 := sgen3; go_enter Tryz.func30, Tryz.ntmps30
  go_wp2
  go_ret
  exact ⟨ret_int (by rw [E.out]), rfl⟩
set_option maxHeartbeats 1000000 in
theorem c_InArcSin1 (lo hi z : Int) (w : World) (l1 : -250000000 ≤ lo) (l2 : lo ≤ hi) (l3 : hi ≤ 250000000) (h : InAsin lo hi z) (z1 : -1200000000000000000 ≤ z) (z2 : z ≤ 1200000000000000000) :
    Calls Tryz.prog 21 #[.agg #[.int .i64 lo, .int .i64 hi], .int .i64 z] w fun e w' => e = .returned (.bool true) ∧ Below w.heap.size w w' := by
  obtain ⟨m0, m1⟩ := emod_bd lo
  obtain ⟨k0, k1⟩ := emod_bd hi
  obtain ⟨p1, p2, p3, p4⟩ := sc_rng m0 m1
  obtain ⟨q1, q2, q3, q4⟩ := sc_rng k0 k1
  have HS1 := Lib.hid (fun w1 => c_SinCos (lo * 1000000) w1 (by omega) (by omega))
  have HS2 := Lib.hid (fun w1 => c_SinCos (hi * 1000000) w1 (by omega) (by omega))
  rw [show lo * 1000000 % 1000000000000000 = lo % 1000000000 * 1000000 by omega] at HS1
  rw [show hi * 1000000 % 1000000000000000 = hi % 1000000000 * 1000000 by omega] at HS2
  obtain ⟨c1, c2⟩ := h
  generalize (sc (lo % 1000000000 * 1000000)).1 = sl at *
  generalize (sc (lo % 1000000000 * 1000000)).2 = cl at *
  generalize (sc (hi % 1000000000 * 1000000)).1 = sh at *
  generalize (sc (hi % 1000000000 * 1000000)).2 = ch at *
  have d1 : decide (lo < -250000000) = false := decide_eq_false (by omega)
  have d2 : decide (250000000 < hi) = false := decide_eq_false (by omega)
  have d3 : decide (hi < lo) = false := decide_eq_false (by omega)
  have d4 : decide (sl ≤ z + 4294967296) = true := decide_eq_true c1
  have d5 : decide (z ≤ sh + 4294967296) = true := decide_eq_true c2
  have hgen := sgen; have hgen2 := sgen2; have hgen3 := sgen3; go_enter Tryz.func21, Tryz.ntmps21
  go_wp2_with (first | (go_at_call 34; (first | (with_reducible refine (HS1.out _).mono ?_) | (with_reducible refine (HS2.out _).mono ?_)); rintro e w' ⟨rfl, rfl⟩))
  go_ret
  refine ⟨rfl, ?_⟩
  exact belz
theorem c_ArcSin_bad (lo hi : Int) (w : World) (h : spanErr lo hi ≠ 0) : Calls Tryz.prog 51 #[.agg #[.int .i64 lo, .int .i64 hi]] w fun e w' => e = .returned (.tuple #[.agg #[.int .i64 0, .int .i64 0], .int .i64 (spanErr lo hi)]) ∧ Below w.heap.size w w' := by
  have HC := Lib.hid (fun w1 => c_intervalCheck lo hi w1)
  have b1 : (spanErr lo hi != 0) = true := by simp; exact h
  have b0 : (spanErr lo hi == 0) = false := by simp; exact h
  clear h
  generalize spanErr lo hi = ee at *
  have hgen := sgen; have hgen2 := sgen2; have hgen3 := sgen3; go_enter Tryz.func51, Tryz.ntmps51
  go_wp2_with (go_at_call 87; (refine (HC.out _).mono ?_); rintro e w1 ⟨rfl, hb⟩; have hz := hb.size; (try simp only [szA, szS, szD, szN] at hz); (try (refine bcB (n := w.heap.size) hb ?_; intro h_w_0 e_w_0 d_w_0 _ _)); (try (refine bcB (n := w.heap.size + 1) hb ?_; intro h_w_1 e_w_1 d_w_1 _ _)))
  refine bodyPost_ret (v := .tuple #[.agg #[.int .i64 0, .int .i64 0], .int .i64 ee]) (by simp only [results, Tryz.results51]; go_simp) rfl ⟨rfl, ?_⟩
  exact belz
set_option maxRecDepth 100000 in
set_option maxHeartbeats 4000000 in
theorem c_ArcSin_ok (lo hi : Int) (w : World) (h : spanErr lo hi = 0) : Calls Tryz.prog 51 #[.agg #[.int .i64 lo, .int .i64 hi]] w fun e w' => e = .returned (.tuple #[.agg #[.int .i64 (asLo lo), .int .i64 (asHi hi)], .int .i64 0]) ∧ Below w.heap.size w w' := by
  have HC := Lib.hid (fun w1 => c_intervalCheck lo hi w1)
  rw [h] at HC
  obtain ⟨p1, D1, -, -, a1, -⟩ := asin_run (cl9 lo) (cl9_rng lo).1 (cl9_rng lo).2
  obtain ⟨p2, D2, -, -, a2, -⟩ := asin_run (cl9 hi) (cl9_rng hi).1 (cl9_rng hi).2
  have HA1 := Lib.hid (fun w1 => c_arcSine lo w1 p1)
  have HA2 := Lib.hid (fun w1 => c_arcSine hi w1 p2)
  have HR1 := Lib.hid (fun w1 => c_AroundP a1 w1)
  have HR2 := Lib.hid (fun w1 => c_AroundP a2 w1)
  have e1 : max (arLo (asinW (cl9 lo))) (-250000000) = asLo lo := rfl
  have e2 : min (arHi (asinW (cl9 hi))) 250000000 = asHi hi := rfl
  have E1 := Lib.hid e1
  have E2 := Lib.hid e2
  clear h p1 p2 a1 a2 e1 e2
  generalize asinW (cl9 lo) = v1 at *
  generalize asinW (cl9 hi) = v2 at *
  generalize asLo lo = ra at *
  generalize asHi hi = rb at *
  have q0 : ∀ w, (Instr.field 27 (.agg #[.int .i64 (arLo v1), .int .i64 (arHi v1)]) 0).run Tryz.prog w = .ok (.int .i64 (arLo v1)) w := fun _ => by kernel_rfl
  have q1 : ∀ w, (Instr.field 27 (.agg #[.int .i64 (arLo v2), .int .i64 (arHi v2)]) 1).run Tryz.prog w = .ok (.int .i64 (arHi v2)) w := fun _ => by kernel_rfl
  have hgen := sgen; have hgen2 := sgen2; have hgen3 := sgen3; go_enter Tryz.func51, Tryz.ntmps51
  go_upto_region 4 with (go_at_call 87; (refine (HC.out _).mono ?_); rintro e w1 ⟨rfl, hb⟩; have hz := hb.size; (try simp only [szA, szS, szD, szN] at hz); (try (refine bcB (n := w.heap.size) hb ?_; intro h_w_0 e_w_0 d_w_0 _ _)); (try (refine bcB (n := w.heap.size + 1) hb ?_; intro h_w_1 e_w_1 d_w_1 _ _)))
  go_region_held3 (fun w' => w'.cell? ⟨w.heap.size, 0, none⟩ = some (.int .i64 lo) ∧ w'.cell? ⟨w.heap.size, 1, none⟩ = some (.int .i64 hi)) (refine ⟨?_, ?_⟩ <;> (first | (go_simp; done) | go_keep)) (first | (go_at_call 95; (first | (with_reducible refine (HA1.out _).mono ?_) | (with_reducible refine (HA2.out _).mono ?_)); rintro e w' ⟨rfl, rfl⟩) | (go_at_call 94; (with_reducible refine (HR1.out _).mono ?_); rintro e w2 ⟨rfl, hb⟩; have hz := hb.size; (try simp only [szA, szS, szD, szN] at hz); (try (refine bcB (n := w.heap.size) hb ?_; intro h_w_0 e_w_0 d_w_0 _ _)); (try (refine bcB (n := w.heap.size + 1) hb ?_; intro h_w_1 e_w_1 d_w_1 _ _)); (try (refine bcB (n := w1.heap.size) hb ?_; intro h_w1_0 e_w1_0 d_w1_0 _ _)); (try (refine bcB (n := w3.heap.size) hb ?_; intro h_w3_0 e_w3_0 d_w3_0 _ _))) | (go_at_call 94; (with_reducible refine (HR2.out _).mono ?_); rintro e w3 ⟨rfl, hb⟩; have hz := hb.size; (try simp only [szA, szS, szD, szN] at hz); (try (refine bcB (n := w.heap.size) hb ?_; intro h_w_0 e_w_0 d_w_0 _ _)); (try (refine bcB (n := w.heap.size + 1) hb ?_; intro h_w_1 e_w_1 d_w_1 _ _)); (try (refine bcB (n := w1.heap.size) hb ?_; intro h_w1_0 e_w1_0 d_w1_0 _ _)); (try (refine bcB (n := w2.heap.size) hb ?_; intro h_w2_0 e_w2_0 d_w2_0 _ _))))
  all_goals (go_wp2_with fail)
  all_goals rw [← E1.out, ← E2.out]
  all_goals refine bodyPost_ret (v := .tuple #[.agg #[.int .i64 (max (arLo v1) (-250000000)), .int .i64 (min (arHi v2) 250000000)], .int .i64 0]) (by simp only [results, Tryz.results51]; go_simp) rfl ⟨rfl, ?_⟩
  all_goals exact belz
end
section
open Go.RowKit
set_option maxHeartbeats 1000000 in
theorem c_contains (lo hi g : Int) (w : World) (a1 : -3000000000000000000 ≤ lo) (a2 : lo ≤ 3000000000000000000) (a3 : -3000000000000000000 ≤ hi) (a4 : hi ≤ 3000000000000000000) (g1 : 0 ≤ g) (g2 : g ≤ 1000000000) :
    Calls Tryz.prog 101 #[.agg #[.int .i64 lo, .int .i64 hi], .int .i64 g] w fun e w' => e = .returned (.bool (ctB lo hi g)) ∧ Below w.heap.size w w' := by
  have HM := Lib.hid (fun w1 => c_mod (g - lo) 1000000000 w1 (by omega) (by omega) (by omega) (by omega))
  have z1 : IntKind.i64.wrap (hi - lo) = hi - lo := by rw [IntKind.wrap_i64]; omega
  have z2 : IntKind.i64.wrap (g - lo) = g - lo := by rw [IntKind.wrap_i64]; omega
  by_cases h : 1000000000 ≤ hi - lo
  · have d1 : decide (1000000000 ≤ hi - lo) = true := decide_eq_true h
    have e : ctB lo hi g = true := by unfold ctB; rw [d1]; rfl
    rw [e]
    clear e HM
    have hgen := sgen; have hgen2 := sgen2; have hgen3 := sgen3; go_enter Tryz.func101, Tryz.ntmps101
    go_wp2
    go_quiet (fail)
    go_wp2
    go_ret
    refine ⟨rfl, ?_⟩
    exact belz
  · have d1 : decide (1000000000 ≤ hi - lo) = false := decide_eq_false h
    have m0 := Int.emod_nonneg (g - lo) (show (1000000000 : Int) ≠ 0 by omega)
    have m1 := Int.emod_lt_of_pos (g - lo) (show (0 : Int) < 1000000000 by omega)
    have e : ctB lo hi g = decide ((g - lo) % 1000000000 ≤ hi - lo) := by unfold ctB; rw [d1]; rfl
    rw [e]
    generalize (g - lo) % 1000000000 = r at *
    clear e h
    have hgen := sgen; have hgen2 := sgen2; have hgen3 := sgen3; go_enter Tryz.func101, Tryz.ntmps101
    go_wp2
    go_region_held3 (fun w' => w'.cell? ⟨w.heap.size, 0, none⟩ = some (.int .i64 lo) ∧ w'.cell? ⟨w.heap.size, 1, none⟩ = some (.int .i64 hi)) (refine ⟨?_, ?_⟩ <;> (first | (go_simp; done) | go_keep)) (first | (go_at_call 102; refine (HM.out _).mono ?_; rintro e w' ⟨rfl, nn, rfl⟩))
    all_goals go_wp2
    all_goals go_ret
    all_goals refine ⟨rfl, ?_⟩
    all_goals exact belz
theorem c_SinOver_bad (lo hi : Int) (w : World) (h : spanErr lo hi ≠ 0) : Calls Tryz.prog 59 #[.agg #[.int .i64 lo, .int .i64 hi]] w fun e w' => e = .returned (.tuple #[.agg #[.int .i64 0, .int .i64 0], .int .i64 (spanErr lo hi)]) ∧ Below w.heap.size w w' := by
  have HC := Lib.hid (fun w1 => c_intervalCheck lo hi w1)
  have b1 : (spanErr lo hi != 0) = true := by simp; exact h
  have b0 : (spanErr lo hi == 0) = false := by simp; exact h
  clear h
  generalize spanErr lo hi = ee at *
  have hgen := sgen; have hgen2 := sgen2; have hgen3 := sgen3; go_enter Tryz.func59, Tryz.ntmps59
  go_wp2_with (go_at_call 87; (refine (HC.out _).mono ?_); rintro e w1 ⟨rfl, hb⟩; have hz := hb.size; (try simp only [szA, szS, szD, szN] at hz); (try (refine bcB (n := w.heap.size) hb ?_; intro h_w_0 e_w_0 d_w_0 _ _)); (try (refine bcB (n := w.heap.size + 1) hb ?_; intro h_w_1 e_w_1 d_w_1 _ _)))
  refine bodyPost_ret (v := .tuple #[.agg #[.int .i64 0, .int .i64 0], .int .i64 ee]) (by simp only [results, Tryz.results59]; go_simp) rfl ⟨rfl, ?_⟩
  exact belz
theorem c_CosOver_bad (lo hi : Int) (w : World) (h : spanErr lo hi ≠ 0) : Calls Tryz.prog 60 #[.agg #[.int .i64 lo, .int .i64 hi]] w fun e w' => e = .returned (.tuple #[.agg #[.int .i64 0, .int .i64 0], .int .i64 (spanErr lo hi)]) ∧ Below w.heap.size w w' := by
  have HC := Lib.hid (fun w1 => c_intervalCheck lo hi w1)
  have b1 : (spanErr lo hi != 0) = true := by simp; exact h
  have b0 : (spanErr lo hi == 0) = false := by simp; exact h
  clear h
  generalize spanErr lo hi = ee at *
  have hgen := sgen; have hgen2 := sgen2; have hgen3 := sgen3; go_enter Tryz.func60, Tryz.ntmps60
  go_wp2_with (go_at_call 87; (refine (HC.out _).mono ?_); rintro e w1 ⟨rfl, hb⟩; have hz := hb.size; (try simp only [szA, szS, szD, szN] at hz); (try (refine bcB (n := w.heap.size) hb ?_; intro h_w_0 e_w_0 d_w_0 _ _)); (try (refine bcB (n := w.heap.size + 1) hb ?_; intro h_w_1 e_w_1 d_w_1 _ _)))
  refine bodyPost_ret (v := .tuple #[.agg #[.int .i64 0, .int .i64 0], .int .i64 ee]) (by simp only [results, Tryz.results60]; go_simp) rfl ⟨rfl, ?_⟩
  exact belz
set_option maxRecDepth 100000 in
set_option maxHeartbeats 4000000 in
theorem c_SinOver_ok (lo hi : Int) (w : World) (ht : Tab w) (h : spanErr lo hi = 0) (a1 : -3000000000000000000 ≤ lo) (a2 : lo ≤ 3000000000000000000) (a3 : -3000000000000000000 ≤ hi) (a4 : hi ≤ 3000000000000000000) :
    Calls Tryz.prog 59 #[.agg #[.int .i64 lo, .int .i64 hi]] w fun e w' => e = .returned (.tuple #[.agg #[.int .i64 (sovLo lo hi), .int .i64 (sovHi lo hi)], .int .i64 0]) ∧ Below w.heap.size w w' := by
  have HC := Lib.hid (fun w1 => c_intervalCheck lo hi w1)
  rw [h] at HC
  have HT := Lib.hid ht
  have HS1 := Lib.hid (fun w1 (hw : Tab w1) => c_sine lo w1 hw (by omega) (by omega))
  have HS2 := Lib.hid (fun w1 (hw : Tab w1) => c_sine hi w1 hw (by omega) (by omega))
  have HC1 := Lib.hid (fun w1 => c_contains lo hi 250000000 w1 a1 a2 a3 a4 (by omega) (by omega))
  have HC2 := Lib.hid (fun w1 => c_contains lo hi 750000000 w1 a1 a2 a3 a4 (by omega) (by omega))
  have HL := Lib.hid (show sovLo lo hi = if ctB lo hi 750000000 then -1000000000 else min (sineLo lo) (sineLo hi) from rfl)
  have HH := Lib.hid (show sovHi lo hi = if ctB lo hi 250000000 then 1000000000 else max (sineHi lo) (sineHi hi) from rfl)
  clear ht h
  generalize sineLo lo = l1 at *
  generalize sineHi lo = h1 at *
  generalize sineLo hi = l2 at *
  generalize sineHi hi = h2 at *
  generalize sovLo lo hi = rl at *
  generalize sovHi lo hi = rh at *
  have hgen := sgen; have hgen2 := sgen2; have hgen3 := sgen3; go_enter Tryz.func59, Tryz.ntmps59
  go_upto_region 4 with (go_at_call 87; (refine (HC.out _).mono ?_); rintro e w1 ⟨rfl, hb⟩; have hz := hb.size; (try simp only [szA, szS, szD, szN] at hz); (try (refine bcB (n := w.heap.size) hb ?_; intro h_w_0 e_w_0 d_w_0 _ _)); (try (refine bcB (n := w.heap.size + 1) hb ?_; intro h_w_1 e_w_1 d_w_1 _ _)))
  go_cut [5, 6] (fun s5 s6 wk => ∃ b5 b6 : Nat, s5 = .pointer (some ⟨b5, 0, none⟩) ∧ s6 = .pointer (some ⟨b6, 0, none⟩) ∧ w1.heap.size ≤ b5 ∧ w1.heap.size ≤ b6 ∧ b5 < wk.heap.size ∧ b6 < wk.heap.size ∧ wk.cell? ⟨b5, 0, none⟩ = some (.int .i64 l1) ∧ wk.cell? ⟨b5, 1, none⟩ = some (.int .i64 h1) ∧ wk.cell? ⟨b6, 0, none⟩ = some (.int .i64 l2) ∧ wk.cell? ⟨b6, 1, none⟩ = some (.int .i64 h2) ∧ Below w1.heap.size w1 wk)
  case first =>
    go_region_held3 (fun w' => w'.cell? ⟨w.heap.size, 0, none⟩ = some (.int .i64 lo) ∧ w'.cell? ⟨w.heap.size, 1, none⟩ = some (.int .i64 hi)) (refine ⟨?_, ?_⟩ <;> (first | (go_simp; done) | go_keep)) (first | (go_at_call 100; (with_reducible refine (HS1.out _ (HT.out.below (by exact belz))).mono ?_); rintro e w2 ⟨rfl, hb⟩; have hz := hb.size; (try simp only [szA, szS, szD, szN] at hz); (try (refine bcB (n := w.heap.size) hb ?_; intro h_w_0 e_w_0 d_w_0 _ _)); (try (refine bcB (n := w.heap.size + 1) hb ?_; intro h_w_1 e_w_1 d_w_1 _ _)); (try (refine bcB (n := w1.heap.size) hb ?_; intro h_w1_0 e_w1_0 d_w1_0 _ _)); (try (refine bcB (n := w1.heap.size + 1) hb ?_; intro h_w1_1 e_w1_1 d_w1_1 _ _)); (try (refine bcB (n := w3.heap.size) hb ?_; intro h_w3_0 e_w3_0 d_w3_0 _ _)); (try (refine bcB (n := w3.heap.size + 1) hb ?_; intro h_w3_1 e_w3_1 d_w3_1 _ _))) | (go_at_call 100; (with_reducible refine (HS2.out _ (HT.out.below (by exact belz))).mono ?_); rintro e w3 ⟨rfl, hb⟩; have hz := hb.size; (try simp only [szA, szS, szD, szN] at hz); (try (refine bcB (n := w.heap.size) hb ?_; intro h_w_0 e_w_0 d_w_0 _ _)); (try (refine bcB (n := w.heap.size + 1) hb ?_; intro h_w_1 e_w_1 d_w_1 _ _)); (try (refine bcB (n := w1.heap.size) hb ?_; intro h_w1_0 e_w1_0 d_w1_0 _ _)); (try (refine bcB (n := w1.heap.size + 1) hb ?_; intro h_w1_1 e_w1_1 d_w1_1 _ _)); (try (refine bcB (n := w2.heap.size) hb ?_; intro h_w2_0 e_w2_0 d_w2_0 _ _)); (try (refine bcB (n := w2.heap.size + 1) hb ?_; intro h_w2_1 e_w2_1 d_w2_1 _ _))))
    all_goals (go_wp2_with fail)
    all_goals go_meet
    all_goals
      case rel =>
        refine ⟨_, _, rfl, rfl, ?_, ?_, ?_, ?_, ?_, ?_, ?_, ?_, ?_⟩
        all_goals first | omega | (go_simp; done) | (go_simp; omega) | exact belz
  case rest =>
    obtain ⟨b5, b6, rfl, rfl, hb5, hb6, hb7, hb8, c1, c2, c3, c4, hbl⟩ := hcut
    have hsk := hbl.size
    have n1 : ¬ w.heap.size + 1 = b5 := by omega
    have n2 : ¬ w.heap.size + 1 = b6 := by omega
    have n3 : ¬ b5 = w.heap.size + 1 := by omega
    have n4 : ¬ b6 = w.heap.size + 1 := by omega
    have n5 : w.heap.size < wc.heap.size := by omega
    have n6 : w.heap.size + 1 < wc.heap.size := by omega
    refine bcUse (n := w.heap.size) hbl (by omega) ?_
    intro cA fA
    refine bcUse (n := w.heap.size + 1) hbl (by omega) ?_
    intro cB fB
    cases k1 : ctB lo hi 250000000 with
    | true =>
      rw [k1] at HC1 HH
      rw [if_pos rfl] at HH
      cases k2 : ctB lo hi 750000000 with
      | true =>
        rw [k2] at HC2 HL
        rw [if_pos rfl] at HL
        go_wp2_with (first | (go_at_call 101; (with_reducible refine (HC1.out _).mono ?_); rintro e w4 ⟨rfl, hb⟩; have hz := hb.size; (try simp only [szA, szS, szD, szN] at hz); (try (refine bcB (n := w.heap.size) hb ?_; intro h_w_0 e_w_0 d_w_0 _ _)); (try (refine bcB (n := w.heap.size + 1) hb ?_; intro h_w_1 e_w_1 d_w_1 _ _)); (try (refine bcB (n := wc.heap.size) hb ?_; intro h_wc_0 e_wc_0 d_wc_0 _ _)); (try (refine bcB (n := b5.heap.size) hb ?_; intro h_b5_0 e_b5_0 d_b5_0 _ _)); (try (refine bcB (n := b6.heap.size) hb ?_; intro h_b6_0 e_b6_0 d_b6_0 _ _))) | (go_at_call 101; (with_reducible refine (HC2.out _).mono ?_); rintro e w5 ⟨rfl, hb⟩; have hz := hb.size; (try simp only [szA, szS, szD, szN] at hz); (try (refine bcB (n := w.heap.size) hb ?_; intro h_w_0 e_w_0 d_w_0 _ _)); (try (refine bcB (n := w.heap.size + 1) hb ?_; intro h_w_1 e_w_1 d_w_1 _ _)); (try (refine bcB (n := wc.heap.size) hb ?_; intro h_wc_0 e_wc_0 d_wc_0 _ _)); (try (refine bcB (n := b5.heap.size) hb ?_; intro h_b5_0 e_b5_0 d_b5_0 _ _)); (try (refine bcB (n := b6.heap.size) hb ?_; intro h_b6_0 e_b6_0 d_b6_0 _ _)); (try (refine bcB (n := w4.heap.size) hb ?_; intro h_w4_0 e_w4_0 d_w4_0 _ _))))
        rw [HL.out, HH.out]
        refine bodyPost_ret (v := .tuple #[.agg #[.int .i64 (-1000000000), .int .i64 1000000000], .int .i64 0]) (by simp only [results, Tryz.results59]; go_simp) rfl ⟨rfl, ?_⟩
        exact belz
      | false =>
        rw [k2] at HC2 HL
        rw [if_neg (by simp)] at HL
        go_wp2_with (first | (go_at_call 101; (with_reducible refine (HC1.out _).mono ?_); rintro e w4 ⟨rfl, hb⟩; have hz := hb.size; (try simp only [szA, szS, szD, szN] at hz); (try (refine bcB (n := w.heap.size) hb ?_; intro h_w_0 e_w_0 d_w_0 _ _)); (try (refine bcB (n := w.heap.size + 1) hb ?_; intro h_w_1 e_w_1 d_w_1 _ _)); (try (refine bcB (n := wc.heap.size) hb ?_; intro h_wc_0 e_wc_0 d_wc_0 _ _)); (try (refine bcB (n := b5.heap.size) hb ?_; intro h_b5_0 e_b5_0 d_b5_0 _ _)); (try (refine bcB (n := b6.heap.size) hb ?_; intro h_b6_0 e_b6_0 d_b6_0 _ _))) | (go_at_call 101; (with_reducible refine (HC2.out _).mono ?_); rintro e w5 ⟨rfl, hb⟩; have hz := hb.size; (try simp only [szA, szS, szD, szN] at hz); (try (refine bcB (n := w.heap.size) hb ?_; intro h_w_0 e_w_0 d_w_0 _ _)); (try (refine bcB (n := w.heap.size + 1) hb ?_; intro h_w_1 e_w_1 d_w_1 _ _)); (try (refine bcB (n := wc.heap.size) hb ?_; intro h_wc_0 e_wc_0 d_wc_0 _ _)); (try (refine bcB (n := b5.heap.size) hb ?_; intro h_b5_0 e_b5_0 d_b5_0 _ _)); (try (refine bcB (n := b6.heap.size) hb ?_; intro h_b6_0 e_b6_0 d_b6_0 _ _)); (try (refine bcB (n := w4.heap.size) hb ?_; intro h_w4_0 e_w4_0 d_w4_0 _ _))))
        rw [HL.out, HH.out]
        refine bodyPost_ret (v := .tuple #[.agg #[.int .i64 (min l1 l2), .int .i64 1000000000], .int .i64 0]) (by simp only [results, Tryz.results59]; go_simp) rfl ⟨rfl, ?_⟩
        exact belz
    | false =>
      rw [k1] at HC1 HH
      rw [if_neg (by simp)] at HH
      cases k2 : ctB lo hi 750000000 with
      | true =>
        rw [k2] at HC2 HL
        rw [if_pos rfl] at HL
        go_wp2_with (first | (go_at_call 101; (with_reducible refine (HC1.out _).mono ?_); rintro e w4 ⟨rfl, hb⟩; have hz := hb.size; (try simp only [szA, szS, szD, szN] at hz); (try (refine bcB (n := w.heap.size) hb ?_; intro h_w_0 e_w_0 d_w_0 _ _)); (try (refine bcB (n := w.heap.size + 1) hb ?_; intro h_w_1 e_w_1 d_w_1 _ _)); (try (refine bcB (n := wc.heap.size) hb ?_; intro h_wc_0 e_wc_0 d_wc_0 _ _)); (try (refine bcB (n := b5.heap.size) hb ?_; intro h_b5_0 e_b5_0 d_b5_0 _ _)); (try (refine bcB (n := b6.heap.size) hb ?_; intro h_b6_0 e_b6_0 d_b6_0 _ _))) | (go_at_call 101; (with_reducible refine (HC2.out _).mono ?_); rintro e w5 ⟨rfl, hb⟩; have hz := hb.size; (try simp only [szA, szS, szD, szN] at hz); (try (refine bcB (n := w.heap.size) hb ?_; intro h_w_0 e_w_0 d_w_0 _ _)); (try (refine bcB (n := w.heap.size + 1) hb ?_; intro h_w_1 e_w_1 d_w_1 _ _)); (try (refine bcB (n := wc.heap.size) hb ?_; intro h_wc_0 e_wc_0 d_wc_0 _ _)); (try (refine bcB (n := b5.heap.size) hb ?_; intro h_b5_0 e_b5_0 d_b5_0 _ _)); (try (refine bcB (n := b6.heap.size) hb ?_; intro h_b6_0 e_b6_0 d_b6_0 _ _)); (try (refine bcB (n := w4.heap.size) hb ?_; intro h_w4_0 e_w4_0 d_w4_0 _ _))))
        rw [HL.out, HH.out]
        refine bodyPost_ret (v := .tuple #[.agg #[.int .i64 (-1000000000), .int .i64 (max h1 h2)], .int .i64 0]) (by simp only [results, Tryz.results59]; go_simp) rfl ⟨rfl, ?_⟩
        exact belz
      | false =>
        rw [k2] at HC2 HL
        rw [if_neg (by simp)] at HL
        go_wp2_with (first | (go_at_call 101; (with_reducible refine (HC1.out _).mono ?_); rintro e w4 ⟨rfl, hb⟩; have hz := hb.size; (try simp only [szA, szS, szD, szN] at hz); (try (refine bcB (n := w.heap.size) hb ?_; intro h_w_0 e_w_0 d_w_0 _ _)); (try (refine bcB (n := w.heap.size + 1) hb ?_; intro h_w_1 e_w_1 d_w_1 _ _)); (try (refine bcB (n := wc.heap.size) hb ?_; intro h_wc_0 e_wc_0 d_wc_0 _ _)); (try (refine bcB (n := b5.heap.size) hb ?_; intro h_b5_0 e_b5_0 d_b5_0 _ _)); (try (refine bcB (n := b6.heap.size) hb ?_; intro h_b6_0 e_b6_0 d_b6_0 _ _))) | (go_at_call 101; (with_reducible refine (HC2.out _).mono ?_); rintro e w5 ⟨rfl, hb⟩; have hz := hb.size; (try simp only [szA, szS, szD, szN] at hz); (try (refine bcB (n := w.heap.size) hb ?_; intro h_w_0 e_w_0 d_w_0 _ _)); (try (refine bcB (n := w.heap.size + 1) hb ?_; intro h_w_1 e_w_1 d_w_1 _ _)); (try (refine bcB (n := wc.heap.size) hb ?_; intro h_wc_0 e_wc_0 d_wc_0 _ _)); (try (refine bcB (n := b5.heap.size) hb ?_; intro h_b5_0 e_b5_0 d_b5_0 _ _)); (try (refine bcB (n := b6.heap.size) hb ?_; intro h_b6_0 e_b6_0 d_b6_0 _ _)); (try (refine bcB (n := w4.heap.size) hb ?_; intro h_w4_0 e_w4_0 d_w4_0 _ _))))
        rw [HL.out, HH.out]
        refine bodyPost_ret (v := .tuple #[.agg #[.int .i64 (min l1 l2), .int .i64 (max h1 h2)], .int .i64 0]) (by simp only [results, Tryz.results59]; go_simp) rfl ⟨rfl, ?_⟩
        exact belz
set_option maxRecDepth 100000 in
set_option maxHeartbeats 1000000 in
theorem c_CosOver_ok (lo hi : Int) (w : World) (ht : Tab w) (h : spanErr lo hi = 0) (a1 : -1000000000000000000 ≤ lo) (a2 : lo ≤ hi) (a3 : hi ≤ 1000000000000000000) :
    Calls Tryz.prog 60 #[.agg #[.int .i64 lo, .int .i64 hi]] w fun e w' => e = .returned (.tuple #[.agg #[.int .i64 (sovLo (lo % 1000000000 + 250000000) (lo % 1000000000 + 250000000 + min (hi - lo) 2000000000)), .int .i64 (sovHi (lo % 1000000000 + 250000000) (lo % 1000000000 + 250000000 + min (hi - lo) 2000000000))], .int .i64 0]) ∧ Below w.heap.size w w' := by
  have HC := Lib.hid (fun w1 => c_intervalCheck lo hi w1)
  rw [h] at HC
  have HT := Lib.hid ht
  have HM := Lib.hid (fun w1 => c_mod lo 1000000000 w1 (by omega) (by omega) (by omega) (by omega))
  have m0 := Int.emod_nonneg lo (show (1000000000 : Int) ≠ 0 by omega)
  have m1 := Int.emod_lt_of_pos lo (show (0 : Int) < 1000000000 by omega)
  clear ht h
  generalize lo % 1000000000 = b at *
  obtain ⟨d, hd⟩ : ∃ d, min (hi - lo) 2000000000 = d := ⟨_, rfl⟩
  have d0 : 0 ≤ d := by omega
  have d1 : d ≤ 2000000000 := by omega
  rw [hd]
  have HS := Lib.hid (fun w1 (hw : Tab w1) => c_SinOver_ok (b + 250000000) (b + 250000000 + d) w1 hw (by unfold spanErr; repeat (first | rw [if_pos (by omega)] | rw [if_neg (by omega)])) (by omega) (by omega) (by omega) (by omega))
  generalize sovLo (b + 250000000) (b + 250000000 + d) = rl at *
  generalize sovHi (b + 250000000) (b + 250000000 + d) = rh at *
  have hgen := sgen; have hgen2 := sgen2; have hgen3 := sgen3; go_enter Tryz.func60, Tryz.ntmps60
  go_wp2_with (first | (go_at_call 87; (refine (HC.out _).mono ?_); rintro e w1 ⟨rfl, hb⟩; have hz := hb.size; (try simp only [szA, szS, szD, szN] at hz); (try (refine bcB (n := w.heap.size) hb ?_; intro h_w_0 e_w_0 d_w_0 _ _)); (try (refine bcB (n := w.heap.size + 1) hb ?_; intro h_w_1 e_w_1 d_w_1 _ _))) | (go_at_call 102; refine (HM.out _).mono ?_; rintro e w' ⟨rfl, nn, rfl⟩) | (go_at_call 59; (refine (HS.out _ (HT.out.below (by exact belz))).mono ?_); rintro e w2 ⟨rfl, hb⟩; have hz := hb.size; (try simp only [szA, szS, szD, szN] at hz); (try (refine bcB (n := w.heap.size) hb ?_; intro h_w_0 e_w_0 d_w_0 _ _)); (try (refine bcB (n := w.heap.size + 1) hb ?_; intro h_w_1 e_w_1 d_w_1 _ _)); (try (refine bcB (n := w1.heap.size) hb ?_; intro h_w1_0 e_w1_0 d_w1_0 _ _))))
  refine bodyPost_ret (v := .tuple #[.agg #[.int .i64 rl, .int .i64 rh], .int .i64 0]) (by simp only [results, Tryz.results60]; go_simp) rfl ⟨rfl, ?_⟩
  exact belz
end
section
open Go.RowKit
theorem sp_rat {al ah bl bh : Int} (ha : Sp1 al ah) (hb : Sp1 bl bh) : ∀ a b : Int, (a = al ∨ a = ah) → (b = bl ∨ b = bh) → RatOk a b 1000000000 := by
  intro a b ea eb
  obtain ⟨a0, a1, a2⟩ := ha
  obtain ⟨b0, b1, b2⟩ := hb
  left
  have h1 := absI_bd (a := a) (m := 1000000000) (by omega) (by omega)
  have h2 := absI_bd (a := b) (m := 1000000000) (by omega) (by omega)
  have h := Int.mul_le_mul h1 h2 (absI_nn b) (by decide)
  omega
theorem c_Times (al ah bl bh : Int) (w : World) (ha : Sp1 al ah) (hb : Sp1 bl bh) :
    Calls Tryz.prog 62 #[.agg #[.int .i64 al, .int .i64 ah], .agg #[.int .i64 bl, .int .i64 bh]] w fun e w' => e = .returned (.agg #[.int .i64 (pLo al ah bl bh 1000000000), .int .i64 (pHi al ah bl bh 1000000000)]) ∧ Below w.heap.size w w' := by
  have hr := sp_rat ha hb
  obtain ⟨a0, a1, a2⟩ := ha
  obtain ⟨b0, b1, b2⟩ := hb
  have HP := Lib.hid (fun w1 => c_product al ah bl bh 1000000000 w1 (by omega) (by omega) (by omega) (by omega) (by omega) (by omega) (by omega) (by omega) (by omega) (by omega) (hr _ _ (.inl rfl) (.inl rfl)) (hr _ _ (.inl rfl) (.inr rfl)) (hr _ _ (.inr rfl) (.inl rfl)) (hr _ _ (.inr rfl) (.inr rfl)))
  clear hr
  generalize pLo al ah bl bh 1000000000 = p at *
  generalize pHi al ah bl bh 1000000000 = q at *
  have hgen := sgen; have hgen2 := sgen2; have hgen3 := sgen3; go_enter Tryz.func62, Tryz.ntmps62
  go_wp2_with (go_at_call 103; (refine (HP.out _).mono ?_); rintro e w1 ⟨rfl, hb⟩; have hz := hb.size; (try simp only [szA, szS, szD, szN] at hz); (try (refine bcB (n := w.heap.size) hb ?_; intro h_w_0 e_w_0 d_w_0 _ _)); (try (refine bcB (n := w.heap.size + 1) hb ?_; intro h_w_1 e_w_1 d_w_1 _ _)); (try (refine bcB (n := w.heap.size + 1 + 1) hb ?_; intro h_w_2 e_w_2 d_w_2 _ _)))
  refine bodyPost_ret (v := .agg #[.int .i64 p, .int .i64 q]) (by simp only [results, Tryz.results62]; go_simp) rfl ⟨rfl, ?_⟩
  exact belz
theorem c_Plus (al ah bl bh : Int) (w : World) (a1 : -2000000000 ≤ al) (a2 : al ≤ 2000000000) (a3 : -2000000000 ≤ ah) (a4 : ah ≤ 2000000000) (b1 : -2000000000 ≤ bl) (b2 : bl ≤ 2000000000) (b3 : -2000000000 ≤ bh) (b4 : bh ≤ 2000000000) :
    Calls Tryz.prog 56 #[.agg #[.int .i64 al, .int .i64 ah], .agg #[.int .i64 bl, .int .i64 bh]] w fun e w' => e = .returned (.agg #[.int .i64 (al + bl), .int .i64 (ah + bh)]) ∧ Below w.heap.size w w' := by
  have hgen := sgen; have hgen2 := sgen2; have hgen3 := sgen3; go_enter Tryz.func56, Tryz.ntmps56
  go_wp2
  refine bodyPost_ret (v := .agg #[.int .i64 (al + bl), .int .i64 (ah + bh)]) (by simp only [results, Tryz.results56]; go_simp) rfl ⟨rfl, ?_⟩
  exact belz
theorem c_Tilt (w : World) (ht : Tab w) :
    Calls Tryz.prog 61 #[] w fun e w' => e = .returned (.tuple #[.agg #[.int .i64 397776337, .int .i64 397776338], .agg #[.int .i64 917482416, .int .i64 917482417]]) ∧ Below w.heap.size w w' := by
  obtain ⟨t1, t2, t3, t4⟩ := tilt_vals
  have hs := fun w1 (h : Tab w1) => c_Sin_ok 65109000 w1 h (by decide)
  have hc := fun w1 (h : Tab w1) => c_Cos_ok 65109000 w1 h (by decide)
  rw [t1, t2] at hs
  rw [t3, t4] at hc
  have HS := Lib.hid hs
  have HC := Lib.hid hc
  have HT := Lib.hid ht
  clear hs hc ht t1 t2 t3 t4
  have hgen := sgen; have hgen2 := sgen2; have hgen3 := sgen3; go_enter Tryz.func61, Tryz.ntmps61
  go_wp2_with (first | (go_at_call 91; (refine (HS.out _ (HT.out.below (by exact belz))).mono ?_); rintro e w1 ⟨rfl, hb⟩; have hz := hb.size; (try simp only [szA, szS, szD, szN] at hz); (try (refine bcB (n := w.heap.size) hb ?_; intro h_w_0 e_w_0 d_w_0 _ _)); (try (refine bcB (n := w.heap.size + 1) hb ?_; intro h_w_1 e_w_1 d_w_1 _ _))) | (go_at_call 92; (refine (HC.out _ (HT.out.below (by exact belz))).mono ?_); rintro e w2 ⟨rfl, hb⟩; have hz := hb.size; (try simp only [szA, szS, szD, szN] at hz); (try (refine bcB (n := w.heap.size) hb ?_; intro h_w_0 e_w_0 d_w_0 _ _)); (try (refine bcB (n := w.heap.size + 1) hb ?_; intro h_w_1 e_w_1 d_w_1 _ _)); (try (refine bcB (n := w1.heap.size) hb ?_; intro h_w1_0 e_w1_0 d_w1_0 _ _))))
  go_region
  all_goals go_wp2
  all_goals refine bodyPost_ret (v := .tuple #[.agg #[.int .i64 397776337, .int .i64 397776338], .agg #[.int .i64 917482416, .int .i64 917482417]]) (by simp only [results, Tryz.results61]; go_simp) rfl ⟨rfl, ?_⟩
  all_goals exact belz
/-- trig.Arc where both intervals are right and do not both hold 0. -/
theorem c_Arc_all (yl yh xl xh : Int) (oy : yl ≤ yh) (ox : xl ≤ xh) (b1 : -1000000000000000000 ≤ yl) (b2 : yh ≤ 1000000000000000000) (b3 : -1000000000000000000 ≤ xl) (b4 : xh ≤ 1000000000000000000) (hzz : ¬ (yl ≤ 0 ∧ 0 ≤ yh ∧ xl ≤ 0 ∧ 0 ≤ xh)) :
    (∃ D0 E L H, ArcV yl yh xl xh D0 E L H) ∧ arcLo yl yh xl xh ≤ arcHi yl yh xl xh ∧ ∀ w : World, Calls Tryz.prog 52 #[.agg #[.int .i64 yl, .int .i64 yh], .agg #[.int .i64 xl, .int .i64 xh]] w fun e w' =>
      ((400000000 < arcHi yl yh xl xh - arcLo yl yh xl xh ∧ e = .returned (.tuple #[.agg #[.int .i64 0, .int .i64 0], .int .i64 11])) ∨
       (arcHi yl yh xl xh - arcLo yl yh xl xh ≤ 400000000 ∧ e = .returned (.tuple #[.agg #[.int .i64 (arcLo yl yh xl xh % 1000000000), .int .i64 (arcLo yl yh xl xh % 1000000000 + arcHi yl yh xl xh - arcLo yl yh xl xh)], .int .i64 0]))) ∧ Below w.heap.size w w' := by
  have hy : spanErr yl yh = 0 := by unfold spanErr; (repeat (first | rw [if_neg (by omega)] | rw [if_pos (by omega)]))
  have hx : spanErr xl xh = 0 := by unfold spanErr; (repeat (first | rw [if_neg (by omega)] | rw [if_pos (by omega)]))
  obtain ⟨hr, a1, a2, ⟨rl, e1⟩, ⟨rh, e2⟩, D0, E, L, H, hv⟩ := arc_run yl yh xl xh (by omega) (by omega) (by omega) (by omega) (by omega) (by omega) (by omega) (by omega) (fun y x hy hx => by rcases hy with rfl | rfl <;> rcases hx with rfl | rfl <;> omega)
  have f1 := fadd_of e1
  have f2 := fadd_of e2
  rw [f1] at a1
  rw [f2] at a2
  have k1 : arcLo yl yh xl xh = arLo rl := by unfold arcLo; rw [f1]
  have k2 : arcHi yl yh xl xh = arHi rh := by unfold arcHi; rw [f2]
  refine ⟨⟨D0, E, L, H, hv⟩, ?_, ?_⟩
  · have h1 := hv.lo1
    have h2 := hv.hi1
    have h3 := hv.l0
    have h4 := hv.g0
    have : ((arcLo yl yh xl xh : Int) : Rat) ≤ ((arcHi yl yh xl xh : Int) : Rat) := by grind
    exact Rat.intCast_le_intCast.1 this
  · intro w
    rw [k1, k2]
    by_cases hw : 400000000 < arHi rh - arLo rl
    · exact (c_Arc_ok yl yh xl xh w hy hx hzz hr e1 e2 a1 a2 0 0 11 (.inl ⟨hw, rfl, rfl, rfl⟩)).mono fun e w' ⟨h1, h2⟩ => ⟨.inl ⟨hw, h1⟩, h2⟩
    · exact (c_Arc_ok yl yh xl xh w hy hx hzz hr e1 e2 a1 a2 _ _ 0 (.inr ⟨hw, rfl, rfl, rfl⟩)).mono fun e w' ⟨h1, h2⟩ => ⟨.inr ⟨by omega, h1⟩, h2⟩
end
end Go.Proofs.YtcgnhnmigmdalaaGreatDoor
