/- The contracts of the astrolabe: stars and circles of altitude. -/
import Derived.Test.YtjkhoepohiafeaaDoorWalkAst
set_option linter.unusedVariables false
set_option linter.unusedSimpArgs false
namespace Go.Proofs.YtjkhoepohiafeaaDoor
open Go.RowKit
theorem c_Star_range (ra dec : Int) (w : World) (h : dec < -195000000 ∨ 250000000 < dec) : Calls Tryd.prog 29 #[.int .i64 ra, .int .i64 dec] w fun e w' => e = .returned (.tuple #[.agg #[.int .i64 0, .int .i64 0], .agg #[.int .i64 0, .int .i64 0], .int .i64 3]) ∧ Below w.heap.size w w' := by
  have hd := fun w1 => c_isDec dec w1
  rw [decide_eq_false (show ¬ (-195000000 ≤ dec ∧ dec ≤ 250000000) by omega)] at hd
  have HD := Lib.hid hd
  clear hd h
  have hgen := sgen; have hgen2 := sgen2; have hgen3 := sgen3; go_enter Tryd.func29, Tryd.ntmps29
  go_wp2_with ((go_at_call 58; (with_reducible refine (HD.out _).mono ?_); rintro e w' ⟨rfl, rfl⟩))
  refine bodyPost_ret (v := .tuple #[.agg #[.int .i64 0, .int .i64 0], .agg #[.int .i64 0, .int .i64 0], .int .i64 3]) (by simp only [results, Tryd.results29]; go_simp) rfl ⟨rfl, ?_⟩
  exact belz
theorem c_Star_arg (ra dec : Int) (w : World) (h0 : -195000000 ≤ dec) (h1 : dec ≤ 250000000) (h : ra < 0 ∨ 999999999 < ra) : Calls Tryd.prog 29 #[.int .i64 ra, .int .i64 dec] w fun e w' => e = .returned (.tuple #[.agg #[.int .i64 0, .int .i64 0], .agg #[.int .i64 0, .int .i64 0], .int .i64 1]) ∧ Below w.heap.size w w' := by
  have hd := fun w1 => c_isDec dec w1
  rw [decide_eq_true (show (-195000000 ≤ dec ∧ dec ≤ 250000000) by omega)] at hd
  have HD := Lib.hid hd
  have d : (decide (ra < 0) = true) ∨ (decide (ra < 0) = false ∧ decide (1000000000 ≤ ra) = true) := by
    by_cases h2 : ra < 0
    · exact .inl (decide_eq_true h2)
    · exact .inr ⟨decide_eq_false h2, decide_eq_true (by omega)⟩
  clear hd h h0 h1
  rcases d with d1 | ⟨d1, d2⟩
  all_goals
    have hgen := sgen; have hgen2 := sgen2; have hgen3 := sgen3; go_enter Tryd.func29, Tryd.ntmps29
    go_wp2_with ((go_at_call 58; (with_reducible refine (HD.out _).mono ?_); rintro e w' ⟨rfl, rfl⟩))
    refine bodyPost_ret (v := .tuple #[.agg #[.int .i64 0, .int .i64 0], .agg #[.int .i64 0, .int .i64 0], .int .i64 1]) (by simp only [results, Tryd.results29]; go_simp) rfl ⟨rfl, ?_⟩
    exact belz
theorem c_Star (ra dec : Int) (w : World) (hT : Tab w) (h0 : -195000000 ≤ dec) (h1 : dec ≤ 250000000) (r0 : 0 ≤ ra) (r1 : ra ≤ 999999999) : Calls Tryd.prog 29 #[.int .i64 ra, .int .i64 dec] w fun e w' => e = .returned (.tuple #[.agg #[.int .i64 (arLo (stX ra dec)), .int .i64 (arHi (stX ra dec))], .agg #[.int .i64 (arLo (stY ra dec)), .int .i64 (arHi (stY ra dec))], .int .i64 0]) ∧ Below w.heap.size w w' := by
  have hd := fun w1 => c_isDec dec w1
  rw [decide_eq_true (show (-195000000 ≤ dec ∧ dec ≤ 250000000) by omega)] at hd
  have HD := Lib.hid hd
  have HR := Lib.hid (fun w1 h => c_aRadius w1 h h0 h1)
  obtain ⟨q, ⟨hr, hc⟩, hs⟩ := ang_c (a := ra) (by omega) (by omega)
  have HQ := Lib.hid hr
  have HC := Lib.hid hc
  have HS := Lib.hid (hs (by omega))
  obtain ⟨⟨e1, a1⟩, e2, a2⟩ := star_fmul h0 h1 r0 r1
  have HX := Lib.hid (fun w1 => c_ArOk a1 w1)
  have HY := Lib.hid (fun w1 => c_ArOk a2 w1)
  have k1 : ∀ t w, (binOp .mul t (.float .f64 (radiusW dec)) (.float .f64 (cosA ra))).run Tryd.prog w = .ok (.float .f64 (stX ra dec)) w := hmul e1
  have k2 : ∀ t w, (binOp .mul t (.float .f64 (radiusW dec)) (.float .f64 (sinA ra))).run Tryd.prog w = .ok (.float .f64 (stY ra dec)) w := hmul e2
  have d1 : decide (ra < 0) = false := decide_eq_false (by omega)
  have d2 : decide (1000000000 ≤ ra) = false := decide_eq_false (by omega)
  have HT := Lib.hid hT
  clear hd h0 h1 hT hr hc hs e1 e2 a1 a2 r0 r1
  generalize stX ra dec = vx at *
  generalize stY ra dec = vy at *
  generalize radiusW dec = v at *
  generalize cosA ra = cw at *
  generalize sinA ra = sw at *
  generalize arLo vx = xl at *
  generalize arHi vx = xh at *
  generalize arLo vy = yl at *
  generalize arHi vy = yh at *
  have hgen := sgen; have hgen2 := sgen2; have hgen3 := sgen3; go_enter Tryd.func29, Tryd.ntmps29
  go_wp2_with (first | (go_at_call 58; (with_reducible refine (HD.out _).mono ?_); rintro e w' ⟨rfl, rfl⟩) | (go_at_call 60; (with_reducible refine (HR.out _ (HT.out.below (by exact belz))).mono ?_); rintro e w' ⟨rfl, rfl⟩) | (go_at_call 65; (with_reducible refine (HQ.out _).mono ?_); rintro e w' ⟨rfl, rfl⟩) | (go_at_call 64; (with_reducible refine (HC.out _ (HT.out.below (by exact belz))).mono ?_); rintro e w' ⟨rfl, rfl⟩) | (go_at_call 66; (with_reducible refine (HS.out _ (HT.out.below (by exact belz))).mono ?_); rintro e w' ⟨rfl, rfl⟩) | (go_at_call 59; (with_reducible refine (HX.out _).mono ?_); rintro e w1 ⟨rfl, hb⟩; have hz := hb.size; (try simp only [szA, szS, szD, szN] at hz); (try (refine bcB (n := w.heap.size) hb ?_; intro h_w_0 e_w_0 d_w_0 _ _)); (try (refine bcB (n := w.heap.size + 1) hb ?_; intro h_w_1 e_w_1 d_w_1 _ _))) | (go_at_call 59; (with_reducible refine (HY.out _).mono ?_); rintro e w2 ⟨rfl, hb⟩; have hz := hb.size; (try simp only [szA, szS, szD, szN] at hz); (try (refine bcB (n := w.heap.size) hb ?_; intro h_w_0 e_w_0 d_w_0 _ _)); (try (refine bcB (n := w.heap.size + 1) hb ?_; intro h_w_1 e_w_1 d_w_1 _ _))))
  refine bodyPost_ret (v := .tuple #[.agg #[.int .i64 xl, .int .i64 xh], .agg #[.int .i64 yl, .int .i64 yh], .int .i64 0]) (by simp only [results, Tryd.results29]; go_simp) rfl ⟨rfl, ?_⟩
  exact belz
theorem c_Alm_range (lat alt : Int) (w : World) (h : lat < 10000000 ∨ 220000000 < lat) : Calls Tryd.prog 30 #[.int .i64 lat, .int .i64 alt] w fun e w' => e = .returned (.tuple #[.agg #[.int .i64 0, .int .i64 0], .agg #[.int .i64 0, .int .i64 0], .int .i64 3]) ∧ Below w.heap.size w w' := by
  have d : (decide (lat < 10000000) = true) ∨ (decide (lat < 10000000) = false ∧ decide (220000000 < lat) = true) := by
    by_cases h2 : lat < 10000000
    · exact .inl (decide_eq_true h2)
    · exact .inr ⟨decide_eq_false h2, decide_eq_true (by omega)⟩
  clear h
  rcases d with d1 | ⟨d1, d2⟩
  all_goals
    have hgen := sgen; have hgen2 := sgen2; have hgen3 := sgen3; go_enter Tryd.func30, Tryd.ntmps30
    go_wp2
    refine bodyPost_ret (v := .tuple #[.agg #[.int .i64 0, .int .i64 0], .agg #[.int .i64 0, .int .i64 0], .int .i64 3]) (by simp only [results, Tryd.results30]; go_simp) rfl ⟨rfl, ?_⟩
    exact belz
theorem c_Alm_arg (lat alt : Int) (w : World) (l0 : 10000000 ≤ lat) (l1 : lat ≤ 220000000) (h : alt < 0 ∨ 220000000 < alt) : Calls Tryd.prog 30 #[.int .i64 lat, .int .i64 alt] w fun e w' => e = .returned (.tuple #[.agg #[.int .i64 0, .int .i64 0], .agg #[.int .i64 0, .int .i64 0], .int .i64 1]) ∧ Below w.heap.size w w' := by
  have d3 : decide (lat < 10000000) = false := decide_eq_false (by omega)
  have d4 : decide (220000000 < lat) = false := decide_eq_false (by omega)
  have d : (decide (alt < 0) = true) ∨ (decide (alt < 0) = false ∧ decide (220000000 < alt) = true) := by
    by_cases h2 : alt < 0
    · exact .inl (decide_eq_true h2)
    · exact .inr ⟨decide_eq_false h2, decide_eq_true (by omega)⟩
  clear h l0 l1
  rcases d with d1 | ⟨d1, d2⟩
  all_goals
    have hgen := sgen; have hgen2 := sgen2; have hgen3 := sgen3; go_enter Tryd.func30, Tryd.ntmps30
    go_wp2
    refine bodyPost_ret (v := .tuple #[.agg #[.int .i64 0, .int .i64 0], .agg #[.int .i64 0, .int .i64 0], .int .i64 1]) (by simp only [results, Tryd.results30]; go_simp) rfl ⟨rfl, ?_⟩
    exact belz
set_option maxHeartbeats 1000000 in
theorem c_Alm (lat alt : Int) (w : World) (hT : Tab w) (l0 : 10000000 ≤ lat) (l1 : lat ≤ 220000000) (a0 : 0 ≤ alt) (a1 : alt ≤ 220000000) : Calls Tryd.prog 30 #[.int .i64 lat, .int .i64 alt] w fun e w' => e = .returned (.tuple #[.agg #[.int .i64 (arLo (almW lat lat alt)), .int .i64 (arHi (almW lat lat alt))], .agg #[.int .i64 (arLo (almW alt lat alt)), .int .i64 (arHi (almW alt lat alt))], .int .i64 0]) ∧ Below w.heap.size w w' := by
  obtain ⟨⟨n1, e1, e2, e3⟩, x1⟩ := alm_run (a := lat) l0 l1 a0 a1 (by omega) l1
  obtain ⟨⟨n2, f1, -, f3⟩, x2⟩ := alm_run (a := alt) l0 l1 a0 a1 a0 a1
  have HX := Lib.hid (fun w1 => c_ArOk x1 w1)
  have HY := Lib.hid (fun w1 => c_ArOk x2 w1)
  obtain ⟨q, ⟨hr, hc⟩, hs⟩ := ang_c (a := lat) (by omega) (by omega)
  have HQ := Lib.hid hr
  have HC := Lib.hid hc
  have HS := Lib.hid (hs (by omega))
  obtain ⟨q', ⟨hr', hc'⟩, hs'⟩ := ang_c (a := alt) (by omega) (by omega)
  have HQ' := Lib.hid hr'
  have HC' := Lib.hid hc'
  have HS' := Lib.hid (hs' (by omega))
  have k1 : ∀ t w, (binOp .mul t (.float .f64 4696837146684686336) (.float .f64 (cosA lat))).run Tryd.prog w = .ok (.float .f64 n1) w := hmul e1
  have k2 : ∀ t w, (binOp .mul t (.float .f64 4696837146684686336) (.float .f64 (cosA alt))).run Tryd.prog w = .ok (.float .f64 n2) w := hmul f1
  have k3 : ∀ t w, (binOp .add t (.float .f64 (sinA lat)) (.float .f64 (sinA alt))).run Tryd.prog w = .ok (.float .f64 (belowW lat alt)) w := hadd e2
  have k4 : ∀ t w, (binOp .quo t (.float .f64 n1) (.float .f64 (belowW lat alt))).run Tryd.prog w = .ok (.float .f64 (almW lat lat alt)) w := hdiv e3
  have k5 : ∀ t w, (binOp .quo t (.float .f64 n2) (.float .f64 (belowW lat alt))).run Tryd.prog w = .ok (.float .f64 (almW alt lat alt)) w := hdiv f3
  have d1 : decide (lat < 10000000) = false := decide_eq_false (by omega)
  have d2 : decide (220000000 < lat) = false := decide_eq_false (by omega)
  have d3 : decide (alt < 0) = false := decide_eq_false (by omega)
  have d4 : decide (220000000 < alt) = false := decide_eq_false (by omega)
  have HT := Lib.hid hT
  clear hT hr hc hs hr' hc' hs' e1 e2 e3 f1 f3 x1 x2 a0 a1 l0 l1
  generalize almW lat lat alt = vx at *
  generalize almW alt lat alt = vy at *
  generalize belowW lat alt = bw at *
  generalize cosA lat = cw at *
  generalize sinA lat = sw at *
  generalize cosA alt = cw' at *
  generalize sinA alt = sw' at *
  generalize arLo vx = xl at *
  generalize arHi vx = xh at *
  generalize arLo vy = yl at *
  generalize arHi vy = yh at *
  have hgen := sgen; have hgen2 := sgen2; have hgen3 := sgen3; go_enter Tryd.func30, Tryd.ntmps30
  go_wp2_with (first | (go_at_call 65; (first | (with_reducible refine (HQ.out _).mono ?_) | (with_reducible refine (HQ'.out _).mono ?_)); rintro e w' ⟨rfl, rfl⟩) | (go_at_call 64; (first | (with_reducible refine (HC.out _ (HT.out.below (by exact belz))).mono ?_) | (with_reducible refine (HC'.out _ (HT.out.below (by exact belz))).mono ?_)); rintro e w' ⟨rfl, rfl⟩) | (go_at_call 66; (first | (with_reducible refine (HS.out _ (HT.out.below (by exact belz))).mono ?_) | (with_reducible refine (HS'.out _ (HT.out.below (by exact belz))).mono ?_)); rintro e w' ⟨rfl, rfl⟩) | (go_at_call 59; (with_reducible refine (HX.out _).mono ?_); rintro e w1 ⟨rfl, hb⟩; have hz := hb.size; (try simp only [szA, szS, szD, szN] at hz); (try (refine bcB (n := w.heap.size) hb ?_; intro h_w_0 e_w_0 d_w_0 _ _)); (try (refine bcB (n := w.heap.size + 1) hb ?_; intro h_w_1 e_w_1 d_w_1 _ _))) | (go_at_call 59; (with_reducible refine (HY.out _).mono ?_); rintro e w2 ⟨rfl, hb⟩; have hz := hb.size; (try simp only [szA, szS, szD, szN] at hz); (try (refine bcB (n := w.heap.size) hb ?_; intro h_w_0 e_w_0 d_w_0 _ _)); (try (refine bcB (n := w.heap.size + 1) hb ?_; intro h_w_1 e_w_1 d_w_1 _ _))))
  refine bodyPost_ret (v := .tuple #[.agg #[.int .i64 xl, .int .i64 xh], .agg #[.int .i64 yl, .int .i64 yh], .int .i64 0]) (by simp only [results, Tryd.results30]; go_simp) rfl ⟨rfl, ?_⟩
  exact belz
theorem c_astrolabeWorks (w : World) (hT : Tab w) : Calls Tryd.prog 26 #[] w fun e w' => e = .returned (.bool true) ∧ Below w.heap.size w w' := by
  have HR := Lib.hid (fun w1 h => c_Ring 0 w1 h (by omega) (by omega))
  have HA := Lib.hid (fun w1 h => c_Alm 125000000 0 w1 h (by omega) (by omega) (by omega) (by omega))
  have o1 := ring_ar (dec := 0) (by omega) (by omega)
  have o2 := (alm_run (a := 125000000) (lat := 125000000) (alt := 0) (by omega) (by omega) (by omega) (by omega) (by omega) (by omega)).ar
  obtain ⟨p1, p2⟩ := has_mio o1 fix_ring
  obtain ⟨p3, p4⟩ := has_mio o2 fix_alm
  have w1 := o1.w
  have w2 := o2.w
  have H1 := Lib.hid (fun w' => c_has1 (arLo (radiusW 0)) (arHi (radiusW 0)) 1000000 4 w' p1 p2 (by omega) (by have := o1.b0; omega) (by have := o1.b1; omega))
  have H2 := Lib.hid (fun w' => c_has1 (arLo (almW 125000000 125000000 0)) (arHi (almW 125000000 125000000 0)) 1000000 10 w' p3 p4 (by omega) (by have := o2.b0; omega) (by have := o2.b1; omega))
  have HT := Lib.hid hT
  clear hT p1 p2 p3 p4 w1 w2 o1 o2
  generalize arLo (radiusW 0) = rl at *
  generalize arHi (radiusW 0) = rh at *
  generalize arLo (almW 125000000 125000000 0) = al at *
  generalize arHi (almW 125000000 125000000 0) = ah at *
  generalize arLo (almW 0 125000000 0) = bl at *
  generalize arHi (almW 0 125000000 0) = bh at *
  have hgen := sgen; have hgen2 := sgen2; have hgen3 := sgen3; go_enter Tryd.func26, Tryd.ntmps26
  go_wp2_with (first | (go_at_call 27; (refine (HR.out _ (HT.out.below (by exact belz))).mono ?_); rintro e w1 ⟨rfl, hb⟩; have hz := hb.size; (try simp only [szA, szS, szD, szN] at hz); (try (refine bcB (n := w.heap.size) hb ?_; intro h_w_0 e_w_0 d_w_0 _ _))) | (go_at_call 30; (refine (HA.out _ (HT.out.below (by exact belz))).mono ?_); rintro e w2 ⟨rfl, hb⟩; have hz := hb.size; (try simp only [szA, szS, szD, szN] at hz); (try (refine bcB (n := w.heap.size) hb ?_; intro h_w_0 e_w_0 d_w_0 _ _)); (try (refine bcB (n := w1.heap.size) hb ?_; intro h_w1_0 e_w1_0 d_w1_0 _ _))) | (go_at_call 40; (with_reducible refine (H1.out _).mono ?_); rintro e w3 ⟨rfl, hb⟩; have hz := hb.size; (try simp only [szA, szS, szD, szN] at hz); (try (refine bcB (n := w.heap.size) hb ?_; intro h_w_0 e_w_0 d_w_0 _ _)); (try (refine bcB (n := w1.heap.size) hb ?_; intro h_w1_0 e_w1_0 d_w1_0 _ _)); (try (refine bcB (n := w2.heap.size) hb ?_; intro h_w2_0 e_w2_0 d_w2_0 _ _))) | (go_at_call 40; (with_reducible refine (H2.out _).mono ?_); rintro e w4 ⟨rfl, hb⟩; have hz := hb.size; (try simp only [szA, szS, szD, szN] at hz); (try (refine bcB (n := w.heap.size) hb ?_; intro h_w_0 e_w_0 d_w_0 _ _)); (try (refine bcB (n := w1.heap.size) hb ?_; intro h_w1_0 e_w1_0 d_w1_0 _ _)); (try (refine bcB (n := w2.heap.size) hb ?_; intro h_w2_0 e_w2_0 d_w2_0 _ _)); (try (refine bcB (n := w3.heap.size) hb ?_; intro h_w3_0 e_w3_0 d_w3_0 _ _))))
  go_ret
  refine ⟨rfl, ?_⟩
  exact belz
end Go.Proofs.YtjkhoepohiafeaaDoor
