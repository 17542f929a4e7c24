/- Contracts of place.Check, place.Sidereal, of the reference's PlaceErr and Sidereal. -/
import Derived.Test.YtcgnhnmigmdalaaDoorPlainSid
import Derived.Test.YtcgnhnmigmdalaaDoorWalkSva
import Derived.Test.YtcgnhnmigmdalaaDoorSmA
import Derived.BigQuiet
set_option linter.unusedVariables false
set_option linter.unusedSimpArgs false
namespace Go.Proofs.YtcgnhnmigmdalaaDoor
open Go.RowKit
def plB (lon lat : Int) : Bool := decide (-500000000 ≤ lon ∧ lon ≤ 500000000 ∧ -220000000 ≤ lat ∧ lat ≤ 220000000)
theorem plB_t {lon lat : Int} (h : plB lon lat = true) : -500000000 ≤ lon ∧ lon ≤ 500000000 ∧ -220000000 ≤ lat ∧ lat ≤ 220000000 := by simpa [plB] using h
theorem plB_f {lon lat : Int} (h : plB lon lat = false) : lon < -500000000 ∨ 500000000 < lon ∨ lat < -220000000 ∨ 220000000 < lat := by
  have : ¬ (-500000000 ≤ lon ∧ lon ≤ 500000000 ∧ -220000000 ≤ lat ∧ lat ≤ 220000000) := by simpa [plB] using h
  omega
def plE (lon lat : Int) : Int := if plB lon lat then 0 else 3
theorem plE_t {lon lat : Int} (h : plB lon lat = true) : plE lon lat = 0 := by unfold plE; rw [h]; rfl
theorem plE_f {lon lat : Int} (h : plB lon lat = false) : plE lon lat = 3 := by unfold plE; rw [h]; rfl
theorem tm_nil2 (w : World) (a : Option Addr) : TmSlice w a [] := fun k hk => absurd hk (Nat.not_lt_zero _)
theorem c_placeCheck (lon lat : Int) (w : World) :
    Calls Tryd.prog 41 #[.agg #[.int .i64 lon, .int .i64 lat]] w fun e w' => e = .returned (.int .i64 (plE lon lat)) ∧ Below w.heap.size w w' := by
  cases h : plB lon lat with
  | true =>
    rw [plE_t h]
    obtain ⟨h1, h2, h3, h4⟩ := plB_t h
    have f1 : decide (lon < -500000000) = false := decide_eq_false (by omega)
    have f2 : decide (500000000 < lon) = false := decide_eq_false (by omega)
    have f3 : decide (lat < -220000000) = false := decide_eq_false (by omega)
    have f4 : decide (220000000 < lat) = false := decide_eq_false (by omega)
    clear h
    have hgen := sgen; have hgen2 := sgen2; have hgen3 := sgen3; go_enter Tryd.func41, Tryd.ntmps41
    go_wp2
    go_ret
    refine ⟨rfl, ?_⟩
    exact belz
  | false =>
    rw [plE_f h]
    have h' := plB_f h
    clear h
    by_cases f1 : lon < -500000000
    · have f1 : decide (lon < -500000000) = true := decide_eq_true f1
      have hgen := sgen; have hgen2 := sgen2; have hgen3 := sgen3; go_enter Tryd.func41, Tryd.ntmps41
      go_wp2
      go_ret
      refine ⟨rfl, ?_⟩
      exact belz
    · have f1' : decide (lon < -500000000) = false := decide_eq_false f1
      by_cases f2 : 500000000 < lon
      · have f2 : decide (500000000 < lon) = true := decide_eq_true f2
        have hgen := sgen; have hgen2 := sgen2; have hgen3 := sgen3; go_enter Tryd.func41, Tryd.ntmps41
        go_wp2
        go_ret
        refine ⟨rfl, ?_⟩
        exact belz
      · have f2' : decide (500000000 < lon) = false := decide_eq_false f2
        by_cases f3 : lat < -220000000
        · have f3 : decide (lat < -220000000) = true := decide_eq_true f3
          have hgen := sgen; have hgen2 := sgen2; have hgen3 := sgen3; go_enter Tryd.func41, Tryd.ntmps41
          go_wp2
          go_ret
          refine ⟨rfl, ?_⟩
          exact belz
        · have f3' : decide (lat < -220000000) = false := decide_eq_false f3
          have f4 : decide (220000000 < lat) = true := decide_eq_true (by omega)
          have hgen := sgen; have hgen2 := sgen2; have hgen3 := sgen3; go_enter Tryd.func41, Tryd.ntmps41
          go_wp2
          go_ret
          refine ⟨rfl, ?_⟩
          exact belz
theorem c_rPlaceErr (lon lat : Int) (w : World) :
    Calls Tryd.prog 17 #[.agg #[.int .i64 lon, .int .i64 lat]] w fun e w' => e = .returned (.int .i64 (plE lon lat)) ∧ Below w.heap.size w w' := by
  cases h : plB lon lat with
  | true =>
    rw [plE_t h]
    obtain ⟨h1, h2, h3, h4⟩ := plB_t h
    have f1 : decide (lon < -500000000) = false := decide_eq_false (by omega)
    have f2 : decide (500000000 < lon) = false := decide_eq_false (by omega)
    have f3 : decide (lat < -220000000) = false := decide_eq_false (by omega)
    have f4 : decide (220000000 < lat) = false := decide_eq_false (by omega)
    clear h
    have hgen := sgen; have hgen2 := sgen2; have hgen3 := sgen3; go_enter Tryd.func17, Tryd.ntmps17
    go_wp2
    go_ret
    refine ⟨rfl, ?_⟩
    exact belz
  | false =>
    rw [plE_f h]
    have h' := plB_f h
    clear h
    by_cases f1 : lon < -500000000
    · have f1 : decide (lon < -500000000) = true := decide_eq_true f1
      have hgen := sgen; have hgen2 := sgen2; have hgen3 := sgen3; go_enter Tryd.func17, Tryd.ntmps17
      go_wp2
      go_ret
      refine ⟨rfl, ?_⟩
      exact belz
    · have f1' : decide (lon < -500000000) = false := decide_eq_false f1
      by_cases f2 : 500000000 < lon
      · have f2 : decide (500000000 < lon) = true := decide_eq_true f2
        have hgen := sgen; have hgen2 := sgen2; have hgen3 := sgen3; go_enter Tryd.func17, Tryd.ntmps17
        go_wp2
        go_ret
        refine ⟨rfl, ?_⟩
        exact belz
      · have f2' : decide (500000000 < lon) = false := decide_eq_false f2
        by_cases f3 : lat < -220000000
        · have f3 : decide (lat < -220000000) = true := decide_eq_true f3
          have hgen := sgen; have hgen2 := sgen2; have hgen3 := sgen3; go_enter Tryd.func17, Tryd.ntmps17
          go_wp2
          go_ret
          refine ⟨rfl, ?_⟩
          exact belz
        · have f3' : decide (lat < -220000000) = false := decide_eq_false f3
          have f4 : decide (220000000 < lat) = true := decide_eq_true (by omega)
          have hgen := sgen; have hgen2 := sgen2; have hgen3 := sgen3; go_enter Tryd.func17, Tryd.ntmps17
          go_wp2
          go_ret
          refine ⟨rfl, ?_⟩
          exact belz
theorem c_Sidereal_bad (lon lat t : Int) (w : World) (h : plB lon lat = false) :
    Calls Tryd.prog 92 #[.agg #[.int .i64 lon, .int .i64 lat], .int .i64 t] w fun e w' => e = .returned (.tuple #[.agg #[.int .i64 0, .int .i64 0], .int .i64 3]) ∧ Below w.heap.size w w' := by
  have hc := fun w1 => c_placeCheck lon lat w1
  rw [plE_f h] at hc
  have HC := Lib.hid hc
  clear hc h
  have hgen := sgen; have hgen2 := sgen2; have hgen3 := sgen3; go_enter Tryd.func92, Tryd.ntmps92
  go_wp2_with (go_at_call 41; (refine (HC.out _).mono ?_); rintro e w1 ⟨rfl, hb⟩; have hz := hb.size; (try simp only [szA, szS, szD, szN] at hz); (try (refine bcB (n := w.heap.size) hb ?_; intro h_w_0 e_w_0 d_w_0 _ _)); (try (refine bcB (n := w.heap.size + 1) hb ?_; intro h_w_1 e_w_1 d_w_1 _ _)))
  refine bodyPost_ret (v := .tuple #[.agg #[.int .i64 0, .int .i64 0], .int .i64 3]) (by simp only [results, Tryd.results92]; go_simp) rfl ⟨rfl, ?_⟩
  exact belz
theorem c_SiderealT (lon lat t : Int) (w : World) (h : plB lon lat = true) (ht : instB t = false) (t1 : -9223372036854775808 ≤ t) (t2 : t ≤ 9223372036854775807) :
    Calls Tryd.prog 92 #[.agg #[.int .i64 lon, .int .i64 lat], .int .i64 t] w fun e w' => e = .returned (.tuple #[.agg #[.int .i64 0, .int .i64 0], .int .i64 3]) ∧ Below w.heap.size w w' := by
  have hc := fun w1 => c_placeCheck lon lat w1
  rw [plE_t h] at hc
  have HC := Lib.hid hc
  have HA : Hid (∀ w1, Calls Tryd.prog 70 #[.agg #[.int .i64 275313108, .int .i64 1002737909350806, .slice none 0 0, .int .i64 0], .int .i64 t] w1 fun e w' => e = .returned (.tuple #[.agg #[.int .i64 0, .int .i64 0], .int .i64 3]) ∧ Below w1.heap.size w1 w') := Lib.hid (fun w1 => c_Angle_time 275313108 1002737909350806 0 t none 0 [] w1 (Nat.le_refl _) (tm_nil2 w1 none) (by decide +kernel) ht t1 t2)
  clear hc h ht
  have hgen := sgen; have hgen2 := sgen2; have hgen3 := sgen3; go_enter Tryd.func92, Tryd.ntmps92
  go_wp2_with (first | (go_at_call 41; (refine (HC.out _).mono ?_); rintro e w1 ⟨rfl, hb⟩; have hz := hb.size; (try simp only [szA, szS, szD, szN] at hz); (try (refine bcB (n := w.heap.size) hb ?_; intro h_w_0 e_w_0 d_w_0 _ _)); (try (refine bcB (n := w.heap.size + 1) hb ?_; intro h_w_1 e_w_1 d_w_1 _ _))) | (go_at_call 70; (refine (HA.out _).mono ?_); rintro e w2 ⟨rfl, hb⟩; have hz := hb.size; (try simp only [szA, szS, szD, szN] at hz); (try (refine bcB (n := w.heap.size) hb ?_; intro h_w_0 e_w_0 d_w_0 _ _)); (try (refine bcB (n := w.heap.size + 1) hb ?_; intro h_w_1 e_w_1 d_w_1 _ _)); (try (refine bcB (n := w1.heap.size) hb ?_; intro h_w1_0 e_w1_0 d_w1_0 _ _))))
  refine bodyPost_ret (v := .tuple #[.agg #[.int .i64 0, .int .i64 0], .int .i64 3]) (by simp only [results, Tryd.results92]; go_simp) rfl ⟨rfl, ?_⟩
  exact belz
theorem c_Sidereal (lon lat t : Int) (w : World) (hT : Tab w) (h : plB lon lat = true) (ht : instB t = true) :
    Calls Tryd.prog 92 #[.agg #[.int .i64 lon, .int .i64 lat], .int .i64 t] w fun e w' => e = .returned (.tuple #[.agg #[.int .i64 (sidLo lon t), .int .i64 (sidHi lon t)], .int .i64 0]) ∧ Below w.heap.size w w' := by
  have hc := fun w1 => c_placeCheck lon lat w1
  rw [plE_t h] at hc
  have HC := Lib.hid hc
  obtain ⟨h1, h2, -, -⟩ := plB_t h
  have HA : Hid (∀ w1, Tab w1 → Calls Tryd.prog 70 #[.agg #[.int .i64 275313108, .int .i64 1002737909350806, .slice none 0 0, .int .i64 0], .int .i64 t] w1 fun e w' => e = .returned (.tuple #[.agg #[.int .i64 (sdA t), .int .i64 (sdB t)], .int .i64 0]) ∧ Below w1.heap.size w1 w') := Lib.hid (fun w1 h => c_Angle_ok 275313108 1002737909350806 0 t none 0 [] w1 h (Nat.le_refl _) (tm_nil2 w1 none) (by decide +kernel) ht)
  have HT := Lib.hid hT
  obtain ⟨v1, v2, v3, v4, v5⟩ := ang_contains (inst := t) (sumOk_of sid_e)
  change (_ : Int) ≤ sdA t at v1
  change sdA t < _ at v2
  change sdB t - sdA t ≤ 2 * 0 + 3 at v5
  have v6 : sdA t ≤ sdB t := by
    have := (sid_ok lon t).o
    unfold sidLo sidHi at this
    omega
  have E1 : Hid (sidLo lon t = (sdA t + lon) % 1000000000) := Lib.hid rfl
  have E2 : Hid (sidHi lon t = (sdA t + lon) % 1000000000 + (sdB t + lon) - (sdA t + lon)) := Lib.hid rfl
  rw [E1.out, E2.out]
  clear hc h ht hT v3 v4 E1 E2
  generalize sdA t = a at *
  generalize sdB t = b at *
  have HN := Lib.hid (fun w1 => c_Norm (a + lon) (b + lon) w1 (by omega) (by omega) (by omega) (by omega))
  generalize (a + lon) % 1000000000 = q at *
  have v7 : IntKind.i64.wrap (a + lon) = a + lon := IntWalk.i64_in _ (by omega)
  have v8 : IntKind.i64.wrap (b + lon) = b + lon := IntWalk.i64_in _ (by omega)
  have hgen := sgen; have hgen2 := sgen2; have hgen3 := sgen3; go_enter Tryd.func92, Tryd.ntmps92
  go_wp2_with (first | (go_at_call 41; (refine (HC.out _).mono ?_); rintro e w1 ⟨rfl, hb⟩; have hz := hb.size; (try simp only [szA, szS, szD, szN] at hz); (try (refine bcB (n := w.heap.size) hb ?_; intro h_w_0 e_w_0 d_w_0 _ _)); (try (refine bcB (n := w.heap.size + 1) hb ?_; intro h_w_1 e_w_1 d_w_1 _ _))) | (go_at_call 70; (refine (HA.out _ (HT.out.below (by exact belz))).mono ?_); rintro e w2 ⟨rfl, hb⟩; have hz := hb.size; (try simp only [szA, szS, szD, szN] at hz); (try (refine bcB (n := w.heap.size) hb ?_; intro h_w_0 e_w_0 d_w_0 _ _)); (try (refine bcB (n := w.heap.size + 1) hb ?_; intro h_w_1 e_w_1 d_w_1 _ _)); (try (refine bcB (n := w1.heap.size) hb ?_; intro h_w1_0 e_w1_0 d_w1_0 _ _))) | (go_at_call 110; (refine (HN.out _).mono ?_); rintro e w3 ⟨rfl, hb⟩; have hz := hb.size; (try simp only [szA, szS, szD, szN] at hz); (try (refine bcB (n := w.heap.size) hb ?_; intro h_w_0 e_w_0 d_w_0 _ _)); (try (refine bcB (n := w.heap.size + 1) hb ?_; intro h_w_1 e_w_1 d_w_1 _ _)); (try (refine bcB (n := w1.heap.size) hb ?_; intro h_w1_0 e_w1_0 d_w1_0 _ _)); (try (refine bcB (n := w2.heap.size) hb ?_; intro h_w2_0 e_w2_0 d_w2_0 _ _)); (try (refine bcB (n := w2.heap.size + 1) hb ?_; intro h_w2_1 e_w2_1 d_w2_1 _ _))))
  refine bodyPost_ret (v := .tuple #[.agg #[.int .i64 q, .int .i64 (q + (b + lon) - (a + lon))], .int .i64 0]) (by simp only [results, Tryd.results92]; go_simp) rfl ⟨rfl, ?_⟩
  exact belz
theorem c_rSidereal (lon lat t : Int) (w : World) (h1 : -500000000 ≤ lon) (h2 : lon ≤ 500000000) (i1 : -400000000000000 ≤ t) (i2 : t ≤ 400000000000000) :
    Calls Tryd.prog 49 #[.agg #[.int .i64 lon, .int .i64 lat], .int .i64 t] w fun e w' => e = .returned (.int .i64 (refSid lon t)) ∧ Below w.heap.size w w' := by
  obtain ⟨g0, g1⟩ := argV_bd 1002737909350806 t
  have HA := Lib.hid (fun w1 => c_Arg 1002737909350806 t w1 (by omega) (by omega) (by omega) (by omega))
  have E1 : Hid (refSid lon t = (argV 1002737909350806 t + (275313108 + lon) * 1000000) % 1000000000000000) := Lib.hid rfl
  rw [E1.out]
  clear E1
  generalize argV 1002737909350806 t = a at *
  have HM := Lib.hid (fun w1 => c_rMod (a + (275313108 + lon) * 1000000) 1000000000000000 w1 (by omega) (by omega) (by omega) (by omega))
  generalize hx : (a + (275313108 + lon) * 1000000) % 1000000000000000 = x at *
  have v1 : IntKind.i64.wrap (275313108 + lon) = 275313108 + lon := IntWalk.i64_in _ (by omega)
  have v2 : IntKind.i64.wrap ((275313108 + lon) * 1000000) = (275313108 + lon) * 1000000 := IntWalk.i64_in _ (by omega)
  have v3 : IntKind.i64.wrap (a + (275313108 + lon) * 1000000) = a + (275313108 + lon) * 1000000 := IntWalk.i64_in _ (by omega)
  have hgen := sgen; have hgen2 := sgen2; have hgen3 := sgen3; go_enter Tryd.func49, Tryd.ntmps49
  go_wp2_with fail
  go_quiet ((first | (go_at_call 47; exact Calls.quiet_of_same ((HA.out _).mono (fun e w' ⟨h1, h2⟩ => ⟨h1, h2.symm⟩))) | (go_at_call 72; exact Calls.quiet_of_same ((HM.out _).mono (fun e w' ⟨h1, h2⟩ => ⟨h1, h2.symm⟩)))))
  go_wp2_with fail
  go_ret
  refine ⟨rfl, ?_⟩
  exact belz
end Go.Proofs.YtcgnhnmigmdalaaDoor
