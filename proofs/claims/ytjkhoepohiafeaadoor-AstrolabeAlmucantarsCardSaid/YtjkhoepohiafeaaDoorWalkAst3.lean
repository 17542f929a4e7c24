/- The walks through the laws of the astrolabe. -/
import Derived.Test.YtjkhoepohiafeaaDoorWalkAst2
import Derived.Test.YtjkhoepohiafeaaDoorWalkRatio2
import Derived.Deep.RegionHeld3
import Derived.Deep.DeepCutAuto
set_option linter.unusedVariables false
set_option linter.unusedSimpArgs false
namespace Go.Proofs.YtjkhoepohiafeaaDoor
open Go.RowKit
theorem near_rng {x : Int} {σ δ : Rat} (h : rabs ((x : Rat) - uQ * σ) ≤ δ) (hδ : δ ≤ 10000000) (hσ : rabs σ ≤ 1 + 1 / 1000000) : -1160000000000000000 ≤ x ∧ x ≤ 1160000000000000000 := by
  have hU : uQ = 1152921504606846976 := rfl
  have h := rabs_le.1 h
  have m := rabs_le.1 hσ
  rw [hU] at h
  have c1 : ((1160000000000000000 : Int) : Rat) = 1160000000000000000 := rfl
  have c2 : ((-1160000000000000000 : Int) : Rat) = -1160000000000000000 := rfl
  exact ⟨Rat.intCast_le_intCast.1 (by rw [c2]; grind), Rat.intCast_le_intCast.1 (by rw [c1]; grind)⟩
theorem asc_rng {a : Int} (h0 : -1000000000 ≤ a) (h1 : a < 1000000000) : (-1160000000000000000 ≤ ascS a ∧ ascS a ≤ 1160000000000000000) ∧ -1160000000000000000 ≤ ascC a ∧ ascC a ≤ 1160000000000000000 := by
  obtain ⟨k1, k2⟩ := asc_near h0 h1
  obtain ⟨-, c1, c2⟩ := ast_circ (a := a) (by omega) (by omega)
  have c1 := rabs_le.1 c1
  have c2 := rabs_le.1 c2
  exact ⟨near_rng k1 (by decide +kernel) (rabs_le.2 ⟨by grind, by grind⟩), near_rng k2 (by decide +kernel) (rabs_le.2 ⟨by grind, by grind⟩)⟩
theorem asc_fm {a b : Int} (h0 : -1000000000 ≤ a) (h1 : a < 1000000000) (g0 : -1000000000 ≤ b) (g1 : b < 1000000000) : (-1160000000000000000 ≤ fm (ascC a) (ascC b) ∧ fm (ascC a) (ascC b) ≤ 1160000000000000000) ∧ -1160000000000000000 ≤ fm (ascC a) (ascS b) ∧ fm (ascC a) (ascS b) ≤ 1160000000000000000 := by
  obtain ⟨-, k2⟩ := asc_near h0 h1
  obtain ⟨q1, q2⟩ := asc_near g0 g1
  obtain ⟨-, -, c2⟩ := ast_circ (a := a) (by omega) (by omega)
  obtain ⟨-, d1, d2⟩ := ast_circ (a := b) (by omega) (by omega)
  have x2 : rabs (C (angU a)) ≤ 1 + 1 / 1000000 := Rat.le_trans c2 (by decide +kernel)
  have y1 : rabs (S (angU b)) ≤ 1 + 1 / 1000000 := Rat.le_trans d1 (by decide +kernel)
  have y2 : rabs (C (angU b)) ≤ 1 + 1 / 1000000 := Rat.le_trans d2 (by decide +kernel)
  have m1 := rabs_le.1 (mul_rabs c2 d1)
  have m2 := rabs_le.1 (mul_rabs c2 d2)
  exact ⟨near_rng (fm_two k2 q2 (by decide +kernel) (by decide +kernel) x2 y2) (by decide +kernel) (rabs_le.2 ⟨by grind, by grind⟩), near_rng (fm_two k2 q1 (by decide +kernel) (by decide +kernel) x2 y1) (by decide +kernel) (rabs_le.2 ⟨by grind, by grind⟩)⟩
theorem asc_half {s N : Int} (h0 : -N ≤ s) (h1 : s ≤ N) : -N ≤ s.tdiv 2 ∧ s.tdiv 2 ≤ N ∧ -1 - N ≤ 2 * s.tdiv 2 ∧ 2 * s.tdiv 2 ≤ N + 1 := by
  have a := Int.mul_tdiv_add_tmod s 2
  rcases Int.tmod_two_eq s with b | b | b <;> omega
theorem ringB_rng {dec : Int} (h0 : -195000000 ≤ dec) (h1 : dec ≤ 250000000) : 0 ≤ ringB dec ∧ ringB dec ≤ 1160000000000000000 := by
  obtain ⟨⟨k1, k2⟩, -⟩ := asc_rng (a := dec) (by omega) (by omega)
  obtain ⟨-, -, j1, j2⟩ := asc_half k1 k2
  refine ⟨?_, by unfold ringB; omega⟩
  have d := rabs_le.1 (ringB_near (dec := dec) (by omega) (by omega))
  have o := one_sin h0 h1
  rw [show uQ = 1152921504606846976 from rfl] at d
  have z : ((0 : Int) : Rat) = 0 := rfl
  have : 0 ≤ 2 * ringB dec := Rat.intCast_le_intCast.1 (by rw [z]; grind)
  omega
theorem almB_rng {lat alt : Int} (l0 : 10000000 ≤ lat) (l1 : lat ≤ 220000000) (a0 : 0 ≤ alt) (a1 : alt ≤ 220000000) : 0 ≤ almB lat alt ∧ almB lat alt ≤ 1160000000000000000 := by
  obtain ⟨⟨k1, k2⟩, -⟩ := asc_rng (a := lat) (by omega) (by omega)
  obtain ⟨⟨k3, k4⟩, -⟩ := asc_rng (a := alt) (by omega) (by omega)
  obtain ⟨-, -, j1, j2⟩ := asc_half k1 k2
  obtain ⟨-, -, j3, j4⟩ := asc_half k3 k4
  refine ⟨?_, by unfold almB; omega⟩
  have d := rabs_le.1 (almB_near (lat := lat) (alt := alt) (by omega) (by omega) (by omega) (by omega))
  have o := below_big l0 l1 a0 a1
  rw [show uQ = 1152921504606846976 from rfl] at d
  have z : ((0 : Int) : Rat) = 0 := rfl
  have : 0 ≤ 2 * almB lat alt := Rat.intCast_le_intCast.1 (by rw [z]; grind)
  omega
theorem c_aSC (a : Int) (w : World) (h0 : -1000000000 ≤ a) (h1 : a < 1000000000) : Calls Tryd.prog 15 #[.int .i64 (a * 1000000)] w fun e w' => e = .returned (.tuple #[.int .i64 (ascS a), .int .i64 (ascC a)]) ∧ w = w' := by
  have h := c_SinCos (a * 1000000) w (by omega) (by omega)
  rw [show a * 1000000 % 1000000000000000 = a % 1000000000 * 1000000 by omega] at h
  exact h
theorem walk_Ring_bad (dec : Int) (w : World) (hT : Tab w) (h : dec < -195000000 ∨ 250000000 < dec) : Calls Tryd.prog 6 #[.int .i64 dec] w fun e w' => e = .returned (.bool true) ∧ Below w.heap.size w w' := by
  have HR := Lib.hid (fun w1 => c_Ring_bad dec w1 h)
  have HT := Lib.hid hT
  have d : (decide (dec < -195000000) = true) ∨ (decide (dec < -195000000) = false ∧ decide (250000000 < dec) = true) := by
    by_cases h2 : dec < -195000000
    · exact .inl (decide_eq_true h2)
    · exact .inr ⟨decide_eq_false h2, decide_eq_true (by omega)⟩
  clear h hT
  rcases d with d1 | ⟨d1, d2⟩
  all_goals
    have hgen := sgen; have hgen2 := sgen2; have hgen3 := sgen3; go_enter Tryd.func6, Tryd.ntmps6
    go_wp2_with (first | (go_at_call 26; (refine (c_astrolabeWorks _ (HT.out.below (by exact belz))).mono ?_); rintro e w1 ⟨rfl, hb⟩; have hz := hb.size; (try simp only [szA, szS, szD, szN] at hz); (try (refine bcB (n := w.heap.size) hb ?_; intro h_w_0 e_w_0 d_w_0 _ _))) | (go_at_call 27; (with_reducible refine (HR.out _).mono ?_); rintro e w2 ⟨rfl, hb⟩; have hz := hb.size; (try simp only [szA, szS, szD, szN] at hz); (try (refine bcB (n := w.heap.size) hb ?_; intro h_w_0 e_w_0 d_w_0 _ _)); (try (refine bcB (n := w1.heap.size) hb ?_; intro h_w1_0 e_w1_0 d_w1_0 _ _))) | (go_at_call 14; (refine (c_none1 _ _).mono ?_); rintro e w3 ⟨rfl, hb⟩; have hz := hb.size; (try simp only [szA, szS, szD, szN] at hz); (try (refine bcB (n := w.heap.size) hb ?_; intro h_w_0 e_w_0 d_w_0 _ _)); (try (refine bcB (n := w1.heap.size) hb ?_; intro h_w1_0 e_w1_0 d_w1_0 _ _)); (try (refine bcB (n := w2.heap.size) hb ?_; intro h_w2_0 e_w2_0 d_w2_0 _ _))))
    go_ret
    refine ⟨rfl, ?_⟩
    exact belz
theorem walk_Ring_ok (dec : Int) (w : World) (hT : Tab w) (h0 : -195000000 ≤ dec) (h1 : dec ≤ 250000000) : Calls Tryd.prog 6 #[.int .i64 dec] w fun e w' => e = .returned (.bool true) ∧ Below w.heap.size w w' := by
  have HR := Lib.hid (fun w1 h => c_Ring dec w1 h h0 h1)
  have o := ring_ar h0 h1
  obtain ⟨⟨k1, k2⟩, k3, k4⟩ := asc_rng (a := dec) (by omega) (by omega)
  obtain ⟨r0, r1⟩ := ringB_rng h0 h1
  obtain ⟨j1, j2, -, -⟩ := asc_half k1 k2
  have HI := Lib.hid (fun w1 => c_inRatio _ _ _ _ w1 (ring_law h0 h1) o.b0 o.b1 k3 k4 r0 r1)
  have HS := Lib.hid (fun w1 => c_aSC dec w1 (by omega) (by omega))
  have HT := Lib.hid hT
  have d1 : decide (dec < -195000000) = false := decide_eq_false (by omega)
  have d2 : decide (250000000 < dec) = false := decide_eq_false (by omega)
  have v0 : IntKind.i64.wrap (dec * 1000000) = dec * 1000000 := IntWalk.i64_in _ (by omega)
  have eb : ringB dec = 576460752303423488 + (ascS dec).tdiv 2 := rfl
  generalize ringB dec = rb at *
  generalize arLo (radiusW dec) = lo at *
  generalize arHi (radiusW dec) = hi at *
  generalize ascS dec = s at *
  generalize ascC dec = c at *
  obtain ⟨k, hk⟩ : ∃ k, s.tdiv 2 = k := ⟨_, rfl⟩
  rw [hk] at j1 j2 eb
  have v3 : IntKind.i64.wrap (s.tdiv 2) = k := by rw [hk]; exact IntWalk.i64_in _ (by omega)
  have v4 : wrap64 (s.tdiv 2) = k := (IntWalk.i64_left _).symm.trans v3
  have v4' : wrap64 k = k := (IntWalk.i64_left k).symm.trans (IntWalk.i64_in k (by omega))
  have v5 : IntKind.i64.wrap (576460752303423488 + k) = rb := (IntWalk.i64_in _ (by omega)).trans eb.symm
  clear h0 h1 hT o k1 k2 k3 k4 r0 r1 j1 j2 eb
  have hgen := sgen; have hgen2 := sgen2; have hgen3 := sgen3; go_enter Tryd.func6, Tryd.ntmps6
  go_wp2_with (first | (go_at_call 26; (refine (c_astrolabeWorks _ (HT.out.below (by exact belz))).mono ?_); rintro e w1 ⟨rfl, hb⟩; have hz := hb.size; (try simp only [szA, szS, szD, szN] at hz); (try (refine bcB (n := w.heap.size) hb ?_; intro h_w_0 e_w_0 d_w_0 _ _))) | (go_at_call 27; (with_reducible refine (HR.out _ (HT.out.below (by exact belz))).mono ?_); rintro e w2 ⟨rfl, hb⟩; have hz := hb.size; (try simp only [szA, szS, szD, szN] at hz); (try (refine bcB (n := w.heap.size) hb ?_; intro h_w_0 e_w_0 d_w_0 _ _)); (try (refine bcB (n := w1.heap.size) hb ?_; intro h_w1_0 e_w1_0 d_w1_0 _ _))) | (go_at_call 15; (with_reducible refine (HS.out _).mono ?_); rintro e w' ⟨rfl, rfl⟩) | (go_at_call 28; (with_reducible refine (HI.out _).mono ?_); rintro e w3 ⟨rfl, hb⟩; have hz := hb.size; (try simp only [szA, szS, szD, szN] at hz); (try (refine bcB (n := w.heap.size) hb ?_; intro h_w_0 e_w_0 d_w_0 _ _)); (try (refine bcB (n := w1.heap.size) hb ?_; intro h_w1_0 e_w1_0 d_w1_0 _ _)); (try (refine bcB (n := w2.heap.size) hb ?_; intro h_w2_0 e_w2_0 d_w2_0 _ _))))
  go_ret
  refine ⟨rfl, ?_⟩
  exact belz
theorem walk_AstrolabeRings (dec : Int) (w : World) (hT : Tab w) : Calls Tryd.prog 6 #[.int .i64 dec] w fun e w' => e = .returned (.bool true) ∧ Below w.heap.size w w' := by
  by_cases h : dec < -195000000 ∨ 250000000 < dec
  · exact walk_Ring_bad dec w hT h
  · exact walk_Ring_ok dec w hT (by omega) (by omega)
theorem walk_Star_bad (ra dec er : Int) (w : World) (hT : Tab w) (hr : ∀ w1 : World, Calls Tryd.prog 29 #[.int .i64 ra, .int .i64 dec] w1 fun e w' => e = .returned (.tuple #[.agg #[.int .i64 0, .int .i64 0], .agg #[.int .i64 0, .int .i64 0], .int .i64 er]) ∧ Below w1.heap.size w1 w')
    (d : (er = 3 ∧ decide (dec < -195000000) = true) ∨ (er = 3 ∧ decide (dec < -195000000) = false ∧ decide (250000000 < dec) = true) ∨ (er = 1 ∧ decide (dec < -195000000) = false ∧ decide (250000000 < dec) = false ∧ decide (ra < 0) = true) ∨ (er = 1 ∧ decide (dec < -195000000) = false ∧ decide (250000000 < dec) = false ∧ decide (ra < 0) = false ∧ decide (999999999 < ra) = true)) : Calls Tryd.prog 7 #[.int .i64 ra, .int .i64 dec] w fun e w' => e = .returned (.bool true) ∧ Below w.heap.size w w' := by
  have HR := Lib.hid hr
  have HT := Lib.hid hT
  clear hr hT
  rcases d with ⟨rfl, d1⟩ | ⟨rfl, d1, d2⟩ | ⟨rfl, d1, d2, d3⟩ | ⟨rfl, d1, d2, d3, d4⟩
  all_goals
    have hgen := sgen; have hgen2 := sgen2; have hgen3 := sgen3; go_enter Tryd.func7, Tryd.ntmps7
    go_wp2_with (first | (go_at_call 26; (refine (c_astrolabeWorks _ (HT.out.below (by exact belz))).mono ?_); rintro e w1 ⟨rfl, hb⟩; have hz := hb.size; (try simp only [szA, szS, szD, szN] at hz); (try (refine bcB (n := w.heap.size) hb ?_; intro h_w_0 e_w_0 d_w_0 _ _))) | (go_at_call 29; (with_reducible refine (HR.out _).mono ?_); rintro e w2 ⟨rfl, hb⟩; have hz := hb.size; (try simp only [szA, szS, szD, szN] at hz); (try (refine bcB (n := w.heap.size) hb ?_; intro h_w_0 e_w_0 d_w_0 _ _)); (try (refine bcB (n := w1.heap.size) hb ?_; intro h_w1_0 e_w1_0 d_w1_0 _ _))) | (go_at_call 14; (refine (c_none1 _ _).mono ?_); rintro e w3 ⟨rfl, hb⟩; have hz := hb.size; (try simp only [szA, szS, szD, szN] at hz); (try (refine bcB (n := w.heap.size) hb ?_; intro h_w_0 e_w_0 d_w_0 _ _)); (try (refine bcB (n := w1.heap.size) hb ?_; intro h_w1_0 e_w1_0 d_w1_0 _ _)); (try (refine bcB (n := w2.heap.size) hb ?_; intro h_w2_0 e_w2_0 d_w2_0 _ _)); (try (refine bcB (n := w2.heap.size + 1) hb ?_; intro h_w2_1 e_w2_1 d_w2_1 _ _))))
    go_ret
    refine ⟨rfl, ?_⟩
    exact belz
theorem walk_Alm_bad (lat alt er : Int) (w : World) (hT : Tab w) (hr : ∀ w1 : World, Calls Tryd.prog 30 #[.int .i64 lat, .int .i64 alt] w1 fun e w' => e = .returned (.tuple #[.agg #[.int .i64 0, .int .i64 0], .agg #[.int .i64 0, .int .i64 0], .int .i64 er]) ∧ Below w1.heap.size w1 w')
    (d : (er = 3 ∧ decide (lat < 10000000) = true) ∨ (er = 3 ∧ decide (lat < 10000000) = false ∧ decide (220000000 < lat) = true) ∨ (er = 1 ∧ decide (lat < 10000000) = false ∧ decide (220000000 < lat) = false ∧ decide (alt < 0) = true) ∨ (er = 1 ∧ decide (lat < 10000000) = false ∧ decide (220000000 < lat) = false ∧ decide (alt < 0) = false ∧ decide (220000000 < alt) = true)) : Calls Tryd.prog 8 #[.int .i64 lat, .int .i64 alt] w fun e w' => e = .returned (.bool true) ∧ Below w.heap.size w w' := by
  have HR := Lib.hid hr
  have HT := Lib.hid hT
  clear hr hT
  rcases d with ⟨rfl, d1⟩ | ⟨rfl, d1, d2⟩ | ⟨rfl, d1, d2, d3⟩ | ⟨rfl, d1, d2, d3, d4⟩
  all_goals
    have hgen := sgen; have hgen2 := sgen2; have hgen3 := sgen3; go_enter Tryd.func8, Tryd.ntmps8
    go_wp2_with (first | (go_at_call 26; (refine (c_astrolabeWorks _ (HT.out.below (by exact belz))).mono ?_); rintro e w1 ⟨rfl, hb⟩; have hz := hb.size; (try simp only [szA, szS, szD, szN] at hz); (try (refine bcB (n := w.heap.size) hb ?_; intro h_w_0 e_w_0 d_w_0 _ _))) | (go_at_call 30; (with_reducible refine (HR.out _).mono ?_); rintro e w2 ⟨rfl, hb⟩; have hz := hb.size; (try simp only [szA, szS, szD, szN] at hz); (try (refine bcB (n := w.heap.size) hb ?_; intro h_w_0 e_w_0 d_w_0 _ _)); (try (refine bcB (n := w1.heap.size) hb ?_; intro h_w1_0 e_w1_0 d_w1_0 _ _))) | (go_at_call 14; (refine (c_none1 _ _).mono ?_); rintro e w3 ⟨rfl, hb⟩; have hz := hb.size; (try simp only [szA, szS, szD, szN] at hz); (try (refine bcB (n := w.heap.size) hb ?_; intro h_w_0 e_w_0 d_w_0 _ _)); (try (refine bcB (n := w1.heap.size) hb ?_; intro h_w1_0 e_w1_0 d_w1_0 _ _)); (try (refine bcB (n := w2.heap.size) hb ?_; intro h_w2_0 e_w2_0 d_w2_0 _ _)); (try (refine bcB (n := w2.heap.size + 1) hb ?_; intro h_w2_1 e_w2_1 d_w2_1 _ _))))
    go_ret
    refine ⟨rfl, ?_⟩
    exact belz
set_option maxHeartbeats 1000000 in
theorem walk_Alm_ok (lat alt : Int) (w : World) (hT : Tab w) (l0 : 10000000 ≤ lat) (l1 : lat ≤ 220000000) (a0 : 0 ≤ alt) (a1 : alt ≤ 220000000) : Calls Tryd.prog 8 #[.int .i64 lat, .int .i64 alt] w fun e w' => e = .returned (.bool true) ∧ Below w.heap.size w w' := by
  have HR := Lib.hid (fun w1 h => c_Alm lat alt w1 h l0 l1 a0 a1)
  have o1 := (alm_run (a := lat) l0 l1 a0 a1 (by omega) l1).ar
  have o2 := (alm_run (a := alt) l0 l1 a0 a1 a0 a1).ar
  obtain ⟨⟨k1, k2⟩, k3, k4⟩ := asc_rng (a := lat) (by omega) (by omega)
  obtain ⟨⟨k5, k6⟩, k7, k8⟩ := asc_rng (a := alt) (by omega) (by omega)
  obtain ⟨r0, r1⟩ := almB_rng l0 l1 a0 a1
  obtain ⟨j1, j2, -, -⟩ := asc_half k1 k2
  obtain ⟨j3, j4, -, -⟩ := asc_half k5 k6
  have HI := Lib.hid (fun w1 => c_inRatio _ _ _ _ w1 (alm_law (a := lat) l0 l1 a0 a1 (by omega) l1) o1.b0 o1.b1 k3 k4 r0 r1)
  have HJ := Lib.hid (fun w1 => c_inRatio _ _ _ _ w1 (alm_law (a := alt) l0 l1 a0 a1 a0 a1) o2.b0 o2.b1 k7 k8 r0 r1)
  have HS := Lib.hid (fun w1 => c_aSC lat w1 (by omega) (by omega))
  have HS' := Lib.hid (fun w1 => c_aSC alt w1 (by omega) (by omega))
  have HT := Lib.hid hT
  have d1 : decide (lat < 10000000) = false := decide_eq_false (by omega)
  have d2 : decide (220000000 < lat) = false := decide_eq_false (by omega)
  have d3 : decide (alt < 0) = false := decide_eq_false (by omega)
  have d4 : decide (220000000 < alt) = false := decide_eq_false (by omega)
  have v0 : IntKind.i64.wrap (lat * 1000000) = lat * 1000000 := IntWalk.i64_in _ (by omega)
  have v0' : IntKind.i64.wrap (alt * 1000000) = alt * 1000000 := IntWalk.i64_in _ (by omega)
  have eb : almB lat alt = (ascS lat).tdiv 2 + (ascS alt).tdiv 2 := rfl
  generalize almB lat alt = rb at *
  generalize arLo (almW lat lat alt) = xl at *
  generalize arHi (almW lat lat alt) = xh at *
  generalize arLo (almW alt lat alt) = yl at *
  generalize arHi (almW alt lat alt) = yh at *
  generalize ascS lat = s at *
  generalize ascC lat = c at *
  generalize ascS alt = s' at *
  generalize ascC alt = c' at *
  obtain ⟨k, hk⟩ : ∃ k, s.tdiv 2 = k := ⟨_, rfl⟩
  obtain ⟨k', hk'⟩ : ∃ k, s'.tdiv 2 = k := ⟨_, rfl⟩
  rw [hk] at j1 j2 eb
  rw [hk'] at j3 j4 eb
  have v3 : IntKind.i64.wrap (s.tdiv 2) = k := by rw [hk]; exact IntWalk.i64_in _ (by omega)
  have v4 : wrap64 (s.tdiv 2) = k := (IntWalk.i64_left _).symm.trans v3
  have v4' : wrap64 k = k := (IntWalk.i64_left k).symm.trans (IntWalk.i64_in k (by omega))
  have w3 : IntKind.i64.wrap (s'.tdiv 2) = k' := by rw [hk']; exact IntWalk.i64_in _ (by omega)
  have w4 : wrap64 (s'.tdiv 2) = k' := (IntWalk.i64_left _).symm.trans w3
  have w4' : wrap64 k' = k' := (IntWalk.i64_left k').symm.trans (IntWalk.i64_in k' (by omega))
  have v5 : IntKind.i64.wrap (k + k') = rb := (IntWalk.i64_in _ (by omega)).trans eb.symm
  clear l0 l1 a0 a1 hT o1 o2 k1 k2 k3 k4 k5 k6 k7 k8 r0 r1 j1 j2 j3 j4 eb
  have hgen := sgen; have hgen2 := sgen2; have hgen3 := sgen3; go_enter Tryd.func8, Tryd.ntmps8
  go_wp2_with (first | (go_at_call 26; (refine (c_astrolabeWorks _ (HT.out.below (by exact belz))).mono ?_); rintro e w1 ⟨rfl, hb⟩; have hz := hb.size; (try simp only [szA, szS, szD, szN] at hz); (try (refine bcB (n := w.heap.size) hb ?_; intro h_w_0 e_w_0 d_w_0 _ _))) | (go_at_call 30; (with_reducible refine (HR.out _ (HT.out.below (by exact belz))).mono ?_); rintro e w2 ⟨rfl, hb⟩; have hz := hb.size; (try simp only [szA, szS, szD, szN] at hz); (try (refine bcB (n := w.heap.size) hb ?_; intro h_w_0 e_w_0 d_w_0 _ _)); (try (refine bcB (n := w1.heap.size) hb ?_; intro h_w1_0 e_w1_0 d_w1_0 _ _))) | (go_at_call 15; (first | (with_reducible refine (HS.out _).mono ?_) | (with_reducible refine (HS'.out _).mono ?_)); rintro e w' ⟨rfl, rfl⟩) | (go_at_call 28; (with_reducible refine (HI.out _).mono ?_); rintro e w3 ⟨rfl, hb⟩; have hz := hb.size; (try simp only [szA, szS, szD, szN] at hz); (try (refine bcB (n := w.heap.size) hb ?_; intro h_w_0 e_w_0 d_w_0 _ _)); (try (refine bcB (n := w1.heap.size) hb ?_; intro h_w1_0 e_w1_0 d_w1_0 _ _)); (try (refine bcB (n := w2.heap.size) hb ?_; intro h_w2_0 e_w2_0 d_w2_0 _ _)); (try (refine bcB (n := w2.heap.size + 1) hb ?_; intro h_w2_1 e_w2_1 d_w2_1 _ _))) | (go_at_call 28; (with_reducible refine (HJ.out _).mono ?_); rintro e w5 ⟨rfl, hb⟩; have hz := hb.size; (try simp only [szA, szS, szD, szN] at hz); (try (refine bcB (n := w.heap.size) hb ?_; intro h_w_0 e_w_0 d_w_0 _ _)); (try (refine bcB (n := w1.heap.size) hb ?_; intro h_w1_0 e_w1_0 d_w1_0 _ _)); (try (refine bcB (n := w2.heap.size) hb ?_; intro h_w2_0 e_w2_0 d_w2_0 _ _)); (try (refine bcB (n := w2.heap.size + 1) hb ?_; intro h_w2_1 e_w2_1 d_w2_1 _ _)); (try (refine bcB (n := w3.heap.size) hb ?_; intro h_w3_0 e_w3_0 d_w3_0 _ _))))
  go_ret
  refine ⟨rfl, ?_⟩
  exact belz
set_option maxHeartbeats 2000000 in
theorem walk_Star_ok (ra dec : Int) (w : World) (hT : Tab w) (h0 : -195000000 ≤ dec) (h1 : dec ≤ 250000000) (r0 : 0 ≤ ra) (r1 : ra ≤ 999999999) : Calls Tryd.prog 7 #[.int .i64 ra, .int .i64 dec] w fun e w' => e = .returned (.bool true) ∧ Below w.heap.size w w' := by
  have HR := Lib.hid (fun w1 h => c_Star ra dec w1 h h0 h1 r0 r1)
  obtain ⟨⟨-, o1⟩, -, o2⟩ := star_fmul h0 h1 r0 r1
  obtain ⟨q1, q2⟩ := star_law h0 h1 r0 r1
  obtain ⟨⟨k1, k2⟩, k3, k4⟩ := asc_rng (a := dec) (by omega) (by omega)
  obtain ⟨⟨k5, k6⟩, k7, k8⟩ := asc_rng (a := ra) (by omega) (by omega)
  obtain ⟨⟨f1, f2⟩, f3, f4⟩ := asc_fm (a := dec) (b := ra) (by omega) (by omega) (by omega) (by omega)
  obtain ⟨b0, b1⟩ := ringB_rng h0 h1
  obtain ⟨j1, j2, -, -⟩ := asc_half k1 k2
  have HI := Lib.hid (fun w1 => c_inRatio _ _ _ _ w1 q1 o1.b0 o1.b1 f1 f2 b0 b1)
  have HJ := Lib.hid (fun w1 => c_inRatio _ _ _ _ w1 q2 o2.b0 o2.b1 f3 f4 b0 b1)
  have HM := Lib.hid (fun w1 => c_fMul (ascC dec) (ascC ra) w1 (by omega) (by omega) (by omega) (by omega))
  have HN := Lib.hid (fun w1 => c_fMul (ascC dec) (ascS ra) w1 (by omega) (by omega) (by omega) (by omega))
  have HS := Lib.hid (fun w1 => c_aSC dec w1 (by omega) (by omega))
  have HS' := Lib.hid (fun w1 => c_aSC ra w1 (by omega) (by omega))
  have HT := Lib.hid hT
  have d1 : decide (dec < -195000000) = false := decide_eq_false (by omega)
  have d2 : decide (250000000 < dec) = false := decide_eq_false (by omega)
  have d3 : decide (ra < 0) = false := decide_eq_false (by omega)
  have d4 : decide (999999999 < ra) = false := decide_eq_false (by omega)
  have v0 : IntKind.i64.wrap (dec * 1000000) = dec * 1000000 := IntWalk.i64_in _ (by omega)
  have v0' : IntKind.i64.wrap (ra * 1000000) = ra * 1000000 := IntWalk.i64_in _ (by omega)
  have eb : ringB dec = 576460752303423488 + (ascS dec).tdiv 2 := rfl
  generalize ringB dec = rb at *
  generalize arLo (stX ra dec) = xl at *
  generalize arHi (stX ra dec) = xh at *
  generalize arLo (stY ra dec) = yl at *
  generalize arHi (stY ra dec) = yh at *
  generalize fm (ascC dec) (ascC ra) = fx at *
  generalize fm (ascC dec) (ascS ra) = fy at *
  generalize ascS dec = s at *
  generalize ascC dec = c at *
  generalize ascS ra = s' at *
  generalize ascC ra = c' at *
  obtain ⟨k, hk⟩ : ∃ k, s.tdiv 2 = k := ⟨_, rfl⟩
  rw [hk] at j1 j2 eb
  have v3 : IntKind.i64.wrap (s.tdiv 2) = k := by rw [hk]; exact IntWalk.i64_in _ (by omega)
  have v4 : wrap64 (s.tdiv 2) = k := (IntWalk.i64_left _).symm.trans v3
  have v4' : wrap64 k = k := (IntWalk.i64_left k).symm.trans (IntWalk.i64_in k (by omega))
  have v6 : IntKind.i64.wrap k = k := IntWalk.i64_in k (by omega)
  have v5 : IntKind.i64.wrap (576460752303423488 + k) = rb := (IntWalk.i64_in _ (by omega)).trans eb.symm
  clear h0 h1 r0 r1 hT o1 o2 q1 q2 k1 k2 k3 k4 k5 k6 k7 k8 f1 f2 f3 f4 b0 b1 j1 j2 eb
  have hgen := sgen; have hgen2 := sgen2; have hgen3 := sgen3; go_enter Tryd.func7, Tryd.ntmps7
  go_upto_region 13 with (first | (go_at_call 26; (refine (c_astrolabeWorks _ (HT.out.below (by exact belz))).mono ?_); rintro e w1 ⟨rfl, hb⟩; have hz := hb.size; (try simp only [szA, szS, szD, szN] at hz); (try (refine bcB (n := w.heap.size) hb ?_; intro h_w_0 e_w_0 d_w_0 _ _))) | (go_at_call 29; (with_reducible refine (HR.out _ (HT.out.below (by exact belz))).mono ?_); rintro e w2 ⟨rfl, hb⟩; have hz := hb.size; (try simp only [szA, szS, szD, szN] at hz); (try (refine bcB (n := w.heap.size) hb ?_; intro h_w_0 e_w_0 d_w_0 _ _)); (try (refine bcB (n := w1.heap.size) hb ?_; intro h_w1_0 e_w1_0 d_w1_0 _ _))) | (go_at_call 15; (first | (with_reducible refine (HS.out _).mono ?_) | (with_reducible refine (HS'.out _).mono ?_)); rintro e w' ⟨rfl, rfl⟩))
  go_region_held3 (fun w' => w'.cell? ⟨w2.heap.size, 0, none⟩ = some (.int .i64 xl) ∧ w'.cell? ⟨w2.heap.size, 1, none⟩ = some (.int .i64 xh) ∧ w'.cell? ⟨w2.heap.size + 1, 0, none⟩ = some (.int .i64 yl) ∧ w'.cell? ⟨w2.heap.size + 1, 1, none⟩ = some (.int .i64 yh)) (refine ⟨?_, ?_, ?_, ?_⟩ <;> (first | (go_simp; done) | go_keep)) (first | (go_at_call 19; (first | (with_reducible refine (HM.out _).mono ?_) | (with_reducible refine (HN.out _).mono ?_)); rintro e w' ⟨rfl, rfl⟩) | (go_at_call 28; (with_reducible refine (HI.out _).mono ?_); rintro e w3 ⟨rfl, hb⟩; have hz := hb.size; (try simp only [szA, szS, szD, szN] at hz); (try (refine bcB (n := w.heap.size) hb ?_; intro h_w_0 e_w_0 d_w_0 _ _)); (try (refine bcB (n := w1.heap.size) hb ?_; intro h_w1_0 e_w1_0 d_w1_0 _ _)); (try (refine bcB (n := w2.heap.size) hb ?_; intro h_w2_0 e_w2_0 d_w2_0 _ _)); (try (refine bcB (n := w2.heap.size + 1) hb ?_; intro h_w2_1 e_w2_1 d_w2_1 _ _))) | (go_at_call 28; (with_reducible refine (HJ.out _).mono ?_); rintro e w5 ⟨rfl, hb⟩; have hz := hb.size; (try simp only [szA, szS, szD, szN] at hz); (try (refine bcB (n := w.heap.size) hb ?_; intro h_w_0 e_w_0 d_w_0 _ _)); (try (refine bcB (n := w1.heap.size) hb ?_; intro h_w1_0 e_w1_0 d_w1_0 _ _)); (try (refine bcB (n := w2.heap.size) hb ?_; intro h_w2_0 e_w2_0 d_w2_0 _ _)); (try (refine bcB (n := w2.heap.size + 1) hb ?_; intro h_w2_1 e_w2_1 d_w2_1 _ _)); (try (refine bcB (n := w3.heap.size) hb ?_; intro h_w3_0 e_w3_0 d_w3_0 _ _))))
  all_goals go_wp2
  all_goals go_ret
  all_goals refine ⟨rfl, ?_⟩
  all_goals exact belz
theorem walk_AstrolabeStars (ra dec : Int) (w : World) (hT : Tab w) : Calls Tryd.prog 7 #[.int .i64 ra, .int .i64 dec] w fun e w' => e = .returned (.bool true) ∧ Below w.heap.size w w' := by
  by_cases h : dec < -195000000 ∨ 250000000 < dec
  · refine walk_Star_bad ra dec 3 w hT (fun w1 => c_Star_range ra dec w1 h) ?_
    by_cases h2 : dec < -195000000
    · exact .inl ⟨rfl, decide_eq_true h2⟩
    · exact .inr (.inl ⟨rfl, decide_eq_false h2, decide_eq_true (by omega)⟩)
  · by_cases g : ra < 0 ∨ 999999999 < ra
    · refine walk_Star_bad ra dec 1 w hT (fun w1 => c_Star_arg ra dec w1 (by omega) (by omega) g) (.inr (.inr ?_))
      by_cases h2 : ra < 0
      · exact .inl ⟨rfl, decide_eq_false (by omega), decide_eq_false (by omega), decide_eq_true h2⟩
      · exact .inr ⟨rfl, decide_eq_false (by omega), decide_eq_false (by omega), decide_eq_false h2, decide_eq_true (by omega)⟩
    · exact walk_Star_ok ra dec w hT (by omega) (by omega) (by omega) (by omega)
theorem walk_AstrolabeAlmucantars (lat alt : Int) (w : World) (hT : Tab w) : Calls Tryd.prog 8 #[.int .i64 lat, .int .i64 alt] w fun e w' => e = .returned (.bool true) ∧ Below w.heap.size w w' := by
  by_cases h : lat < 10000000 ∨ 220000000 < lat
  · refine walk_Alm_bad lat alt 3 w hT (fun w1 => c_Alm_range lat alt w1 h) ?_
    by_cases h2 : lat < 10000000
    · exact .inl ⟨rfl, decide_eq_true h2⟩
    · exact .inr (.inl ⟨rfl, decide_eq_false h2, decide_eq_true (by omega)⟩)
  · by_cases g : alt < 0 ∨ 220000000 < alt
    · refine walk_Alm_bad lat alt 1 w hT (fun w1 => c_Alm_arg lat alt w1 (by omega) (by omega) g) (.inr (.inr ?_))
      by_cases h2 : alt < 0
      · exact .inl ⟨rfl, decide_eq_false (by omega), decide_eq_false (by omega), decide_eq_true h2⟩
      · exact .inr ⟨rfl, decide_eq_false (by omega), decide_eq_false (by omega), decide_eq_false h2, decide_eq_true (by omega)⟩
    · exact walk_Alm_ok lat alt w hT (by omega) (by omega) (by omega) (by omega)
end Go.Proofs.YtjkhoepohiafeaaDoor
