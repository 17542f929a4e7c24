/- Contracts of place.Check, place.Sidereal, of the reference's PlaceErr and Sidereal. The contract of the reference's Above. -/
import Derived.Test.YtcgnhnmigmdalaaGreatDoorLkA
import Derived.Test.YtcgnhnmigmdalaaGreatDoorWalkSva
import Derived.Test.YtcgnhnmigmdalaaGreatDoorSmA
import Derived.BigQuiet
import Derived.Test.YtcgnhnmigmdalaaGreatDoorMnA
import Derived.Deep.DeepCutAuto
set_option linter.unusedVariables false
set_option linter.unusedSimpArgs false
namespace Go.Proofs.YtcgnhnmigmdalaaGreatDoor
section
open Go.RowKit
def plB (lon lat : Int) : Bool := decide (-500000000 ≤ lon ∧ lon ≤ 500000000 ∧ -220000000 ≤ lat ∧ lat ≤ 220000000)
theorem plB_t {lon lat : Int} (h : plB lon lat = true) : -500000000 ≤ lon ∧ lon ≤ 500000000 ∧ -220000000 ≤ lat ∧ lat ≤ 220000000 := by simpa [plB] using h
theorem plB_f {lon lat : Int} (h : plB lon lat = false) : lon < -500000000 ∨ 500000000 < lon ∨ lat < -220000000 ∨ 220000000 < lat := by
  have : ¬ (-500000000 ≤ lon ∧ lon ≤ 500000000 ∧ -220000000 ≤ lat ∧ lat ≤ 220000000) := by simpa [plB] using h
  omega
def plE (lon lat : Int) : Int := if plB lon lat then 0 else 3
theorem plE_t {lon lat : Int} (h : plB lon lat = true) : plE lon lat = 0 := by unfold plE; rw [h]; rfl
theorem plE_f {lon lat : Int} (h : plB lon lat = false) : plE lon lat = 3 := by unfold plE; rw [h]; rfl
theorem tm_nil2 (w : World) (a : Option Addr) : TmSlice w a [] := fun k hk => absurd hk (Nat.not_lt_zero _)
theorem c_placeCheck (lon lat : Int) (w : World) :
    Calls Tryz.prog 83 #[.agg #[.int .i64 lon, .int .i64 lat]] w fun e w' => e = .returned (.int .i64 (plE lon lat)) ∧ Below w.heap.size w w' := by
  cases h : plB lon lat with
  | true =>
    rw [plE_t h]
    obtain ⟨h1, h2, h3, h4⟩ := plB_t h
    have f1 : decide (lon < -500000000) = false := decide_eq_false (by omega)
    have f2 : decide (500000000 < lon) = false := decide_eq_false (by omega)
    have f3 : decide (lat < -220000000) = false := decide_eq_false (by omega)
    have f4 : decide (220000000 < lat) = false := decide_eq_false (by omega)
    clear h
    have hgen := sgen; have hgen2 := sgen2; have hgen3 := sgen3; go_enter Tryz.func83, Tryz.ntmps83
    go_wp2
    go_ret
    refine ⟨rfl, ?_⟩
    exact belz
  | false =>
    rw [plE_f h]
    have h' := plB_f h
    clear h
    by_cases f1 : lon < -500000000
    · have f1 : decide (lon < -500000000) = true := decide_eq_true f1
      have hgen := sgen; have hgen2 := sgen2; have hgen3 := sgen3; go_enter Tryz.func83, Tryz.ntmps83
      go_wp2
      go_ret
      refine ⟨rfl, ?_⟩
      exact belz
    · have f1' : decide (lon < -500000000) = false := decide_eq_false f1
      by_cases f2 : 500000000 < lon
      · have f2 : decide (500000000 < lon) = true := decide_eq_true f2
        have hgen := sgen; have hgen2 := sgen2; have hgen3 := sgen3; go_enter Tryz.func83, Tryz.ntmps83
        go_wp2
        go_ret
        refine ⟨rfl, ?_⟩
        exact belz
      · have f2' : decide (500000000 < lon) = false := decide_eq_false f2
        by_cases f3 : lat < -220000000
        · have f3 : decide (lat < -220000000) = true := decide_eq_true f3
          have hgen := sgen; have hgen2 := sgen2; have hgen3 := sgen3; go_enter Tryz.func83, Tryz.ntmps83
          go_wp2
          go_ret
          refine ⟨rfl, ?_⟩
          exact belz
        · have f3' : decide (lat < -220000000) = false := decide_eq_false f3
          have f4 : decide (220000000 < lat) = true := decide_eq_true (by omega)
          have hgen := sgen; have hgen2 := sgen2; have hgen3 := sgen3; go_enter Tryz.func83, Tryz.ntmps83
          go_wp2
          go_ret
          refine ⟨rfl, ?_⟩
          exact belz
theorem c_rPlaceErr (lon lat : Int) (w : World) :
    Calls Tryz.prog 12 #[.agg #[.int .i64 lon, .int .i64 lat]] w fun e w' => e = .returned (.int .i64 (plE lon lat)) ∧ Below w.heap.size w w' := by
  cases h : plB lon lat with
  | true =>
    rw [plE_t h]
    obtain ⟨h1, h2, h3, h4⟩ := plB_t h
    have f1 : decide (lon < -500000000) = false := decide_eq_false (by omega)
    have f2 : decide (500000000 < lon) = false := decide_eq_false (by omega)
    have f3 : decide (lat < -220000000) = false := decide_eq_false (by omega)
    have f4 : decide (220000000 < lat) = false := decide_eq_false (by omega)
    clear h
    have hgen := sgen; have hgen2 := sgen2; have hgen3 := sgen3; go_enter Tryz.func12, Tryz.ntmps12
    go_wp2
    go_ret
    refine ⟨rfl, ?_⟩
    exact belz
  | false =>
    rw [plE_f h]
    have h' := plB_f h
    clear h
    by_cases f1 : lon < -500000000
    · have f1 : decide (lon < -500000000) = true := decide_eq_true f1
      have hgen := sgen; have hgen2 := sgen2; have hgen3 := sgen3; go_enter Tryz.func12, Tryz.ntmps12
      go_wp2
      go_ret
      refine ⟨rfl, ?_⟩
      exact belz
    · have f1' : decide (lon < -500000000) = false := decide_eq_false f1
      by_cases f2 : 500000000 < lon
      · have f2 : decide (500000000 < lon) = true := decide_eq_true f2
        have hgen := sgen; have hgen2 := sgen2; have hgen3 := sgen3; go_enter Tryz.func12, Tryz.ntmps12
        go_wp2
        go_ret
        refine ⟨rfl, ?_⟩
        exact belz
      · have f2' : decide (500000000 < lon) = false := decide_eq_false f2
        by_cases f3 : lat < -220000000
        · have f3 : decide (lat < -220000000) = true := decide_eq_true f3
          have hgen := sgen; have hgen2 := sgen2; have hgen3 := sgen3; go_enter Tryz.func12, Tryz.ntmps12
          go_wp2
          go_ret
          refine ⟨rfl, ?_⟩
          exact belz
        · have f3' : decide (lat < -220000000) = false := decide_eq_false f3
          have f4 : decide (220000000 < lat) = true := decide_eq_true (by omega)
          have hgen := sgen; have hgen2 := sgen2; have hgen3 := sgen3; go_enter Tryz.func12, Tryz.ntmps12
          go_wp2
          go_ret
          refine ⟨rfl, ?_⟩
          exact belz
theorem c_Sidereal_bad (lon lat t : Int) (w : World) (h : plB lon lat = false) :
    Calls Tryz.prog 44 #[.agg #[.int .i64 lon, .int .i64 lat], .int .i64 t] w fun e w' => e = .returned (.tuple #[.agg #[.int .i64 0, .int .i64 0], .int .i64 3]) ∧ Below w.heap.size w w' := by
  have hc := fun w1 => c_placeCheck lon lat w1
  rw [plE_f h] at hc
  have HC := Lib.hid hc
  clear hc h
  have hgen := sgen; have hgen2 := sgen2; have hgen3 := sgen3; go_enter Tryz.func44, Tryz.ntmps44
  go_wp2_with (go_at_call 83; (refine (HC.out _).mono ?_); rintro e w1 ⟨rfl, hb⟩; have hz := hb.size; (try simp only [szA, szS, szD, szN] at hz); (try (refine bcB (n := w.heap.size) hb ?_; intro h_w_0 e_w_0 d_w_0 _ _)); (try (refine bcB (n := w.heap.size + 1) hb ?_; intro h_w_1 e_w_1 d_w_1 _ _)))
  refine bodyPost_ret (v := .tuple #[.agg #[.int .i64 0, .int .i64 0], .int .i64 3]) (by simp only [results, Tryz.results44]; go_simp) rfl ⟨rfl, ?_⟩
  exact belz
theorem c_SiderealT (lon lat t : Int) (w : World) (h : plB lon lat = true) (ht : instB t = false) (t1 : -9223372036854775808 ≤ t) (t2 : t ≤ 9223372036854775807) :
    Calls Tryz.prog 44 #[.agg #[.int .i64 lon, .int .i64 lat], .int .i64 t] w fun e w' => e = .returned (.tuple #[.agg #[.int .i64 0, .int .i64 0], .int .i64 3]) ∧ Below w.heap.size w w' := by
  have hc := fun w1 => c_placeCheck lon lat w1
  rw [plE_t h] at hc
  have HC := Lib.hid hc
  have HA : Hid (∀ w1, Calls Tryz.prog 85 #[.agg #[.int .i64 275313108, .int .i64 1002737909350806, .slice none 0 0, .int .i64 0], .int .i64 t] w1 fun e w' => e = .returned (.tuple #[.agg #[.int .i64 0, .int .i64 0], .int .i64 3]) ∧ Below w1.heap.size w1 w') := Lib.hid (fun w1 => c_Angle_time 275313108 1002737909350806 0 t none 0 [] w1 (Nat.le_refl _) (tm_nil2 w1 none) (by decide +kernel) ht t1 t2)
  clear hc h ht
  have hgen := sgen; have hgen2 := sgen2; have hgen3 := sgen3; go_enter Tryz.func44, Tryz.ntmps44
  go_wp2_with (first | (go_at_call 83; (refine (HC.out _).mono ?_); rintro e w1 ⟨rfl, hb⟩; have hz := hb.size; (try simp only [szA, szS, szD, szN] at hz); (try (refine bcB (n := w.heap.size) hb ?_; intro h_w_0 e_w_0 d_w_0 _ _)); (try (refine bcB (n := w.heap.size + 1) hb ?_; intro h_w_1 e_w_1 d_w_1 _ _))) | (go_at_call 85; (refine (HA.out _).mono ?_); rintro e w2 ⟨rfl, hb⟩; have hz := hb.size; (try simp only [szA, szS, szD, szN] at hz); (try (refine bcB (n := w.heap.size) hb ?_; intro h_w_0 e_w_0 d_w_0 _ _)); (try (refine bcB (n := w.heap.size + 1) hb ?_; intro h_w_1 e_w_1 d_w_1 _ _)); (try (refine bcB (n := w1.heap.size) hb ?_; intro h_w1_0 e_w1_0 d_w1_0 _ _))))
  refine bodyPost_ret (v := .tuple #[.agg #[.int .i64 0, .int .i64 0], .int .i64 3]) (by simp only [results, Tryz.results44]; go_simp) rfl ⟨rfl, ?_⟩
  exact belz
theorem c_Sidereal (lon lat t : Int) (w : World) (hT : Tab w) (h : plB lon lat = true) (ht : instB t = true) :
    Calls Tryz.prog 44 #[.agg #[.int .i64 lon, .int .i64 lat], .int .i64 t] w fun e w' => e = .returned (.tuple #[.agg #[.int .i64 (sidLo lon t), .int .i64 (sidHi lon t)], .int .i64 0]) ∧ Below w.heap.size w w' := by
  have hc := fun w1 => c_placeCheck lon lat w1
  rw [plE_t h] at hc
  have HC := Lib.hid hc
  obtain ⟨h1, h2, -, -⟩ := plB_t h
  have HA : Hid (∀ w1, Tab w1 → Calls Tryz.prog 85 #[.agg #[.int .i64 275313108, .int .i64 1002737909350806, .slice none 0 0, .int .i64 0], .int .i64 t] w1 fun e w' => e = .returned (.tuple #[.agg #[.int .i64 (sdA t), .int .i64 (sdB t)], .int .i64 0]) ∧ Below w1.heap.size w1 w') := Lib.hid (fun w1 h => c_Angle_ok 275313108 1002737909350806 0 t none 0 [] w1 h (Nat.le_refl _) (tm_nil2 w1 none) (by decide +kernel) ht)
  have HT := Lib.hid hT
  obtain ⟨v1, v2, v3, v4, v5⟩ := ang_contains (inst := t) (sumOk_of sid_e)
  change (_ : Int) ≤ sdA t at v1
  change sdA t < _ at v2
  change sdB t - sdA t ≤ 2 * 0 + 3 at v5
  have v6 : sdA t ≤ sdB t := by
    have := (sid_ok lon t).o
    unfold sidLo sidHi at this
    omega
  have E1 : Hid (sidLo lon t = (sdA t + lon) % 1000000000) := Lib.hid rfl
  have E2 : Hid (sidHi lon t = (sdA t + lon) % 1000000000 + (sdB t + lon) - (sdA t + lon)) := Lib.hid rfl
  rw [E1.out, E2.out]
  clear hc h ht hT v3 v4 E1 E2
  generalize sdA t = a at *
  generalize sdB t = b at *
  have HN := Lib.hid (fun w1 => c_Norm (a + lon) (b + lon) w1 (by omega) (by omega) (by omega) (by omega))
  generalize (a + lon) % 1000000000 = q at *
  have v7 : IntKind.i64.wrap (a + lon) = a + lon := IntWalk.i64_in _ (by omega)
  have v8 : IntKind.i64.wrap (b + lon) = b + lon := IntWalk.i64_in _ (by omega)
  have hgen := sgen; have hgen2 := sgen2; have hgen3 := sgen3; go_enter Tryz.func44, Tryz.ntmps44
  go_wp2_with (first | (go_at_call 83; (refine (HC.out _).mono ?_); rintro e w1 ⟨rfl, hb⟩; have hz := hb.size; (try simp only [szA, szS, szD, szN] at hz); (try (refine bcB (n := w.heap.size) hb ?_; intro h_w_0 e_w_0 d_w_0 _ _)); (try (refine bcB (n := w.heap.size + 1) hb ?_; intro h_w_1 e_w_1 d_w_1 _ _))) | (go_at_call 85; (refine (HA.out _ (HT.out.below (by exact belz))).mono ?_); rintro e w2 ⟨rfl, hb⟩; have hz := hb.size; (try simp only [szA, szS, szD, szN] at hz); (try (refine bcB (n := w.heap.size) hb ?_; intro h_w_0 e_w_0 d_w_0 _ _)); (try (refine bcB (n := w.heap.size + 1) hb ?_; intro h_w_1 e_w_1 d_w_1 _ _)); (try (refine bcB (n := w1.heap.size) hb ?_; intro h_w1_0 e_w1_0 d_w1_0 _ _))) | (go_at_call 84; (refine (HN.out _).mono ?_); rintro e w3 ⟨rfl, hb⟩; have hz := hb.size; (try simp only [szA, szS, szD, szN] at hz); (try (refine bcB (n := w.heap.size) hb ?_; intro h_w_0 e_w_0 d_w_0 _ _)); (try (refine bcB (n := w.heap.size + 1) hb ?_; intro h_w_1 e_w_1 d_w_1 _ _)); (try (refine bcB (n := w1.heap.size) hb ?_; intro h_w1_0 e_w1_0 d_w1_0 _ _)); (try (refine bcB (n := w2.heap.size) hb ?_; intro h_w2_0 e_w2_0 d_w2_0 _ _)); (try (refine bcB (n := w2.heap.size + 1) hb ?_; intro h_w2_1 e_w2_1 d_w2_1 _ _))))
  refine bodyPost_ret (v := .tuple #[.agg #[.int .i64 q, .int .i64 (q + (b + lon) - (a + lon))], .int .i64 0]) (by simp only [results, Tryz.results44]; go_simp) rfl ⟨rfl, ?_⟩
  exact belz
theorem c_rSidereal (lon lat t : Int) (w : World) (h1 : -500000000 ≤ lon) (h2 : lon ≤ 500000000) (i1 : -400000000000000 ≤ t) (i2 : t ≤ 400000000000000) :
    Calls Tryz.prog 35 #[.agg #[.int .i64 lon, .int .i64 lat], .int .i64 t] w fun e w' => e = .returned (.int .i64 (refSid lon t)) ∧ Below w.heap.size w w' := by
  obtain ⟨g0, g1⟩ := argV_bd 1002737909350806 t
  have HA := Lib.hid (fun w1 => c_Arg 1002737909350806 t w1 (by omega) (by omega) (by omega) (by omega))
  have E1 : Hid (refSid lon t = (argV 1002737909350806 t + (275313108 + lon) * 1000000) % 1000000000000000) := Lib.hid rfl
  rw [E1.out]
  clear E1
  generalize argV 1002737909350806 t = a at *
  have HM := Lib.hid (fun w1 => c_rMod (a + (275313108 + lon) * 1000000) 1000000000000000 w1 (by omega) (by omega) (by omega) (by omega))
  generalize hx : (a + (275313108 + lon) * 1000000) % 1000000000000000 = x at *
  have v1 : IntKind.i64.wrap (275313108 + lon) = 275313108 + lon := IntWalk.i64_in _ (by omega)
  have v2 : IntKind.i64.wrap ((275313108 + lon) * 1000000) = (275313108 + lon) * 1000000 := IntWalk.i64_in _ (by omega)
  have v3 : IntKind.i64.wrap (a + (275313108 + lon) * 1000000) = a + (275313108 + lon) * 1000000 := IntWalk.i64_in _ (by omega)
  have hgen := sgen; have hgen2 := sgen2; have hgen3 := sgen3; go_enter Tryz.func35, Tryz.ntmps35
  go_wp2_with fail
  go_quiet ((first | (go_at_call 71; exact Calls.quiet_of_same ((HA.out _).mono (fun e w' ⟨h1, h2⟩ => ⟨h1, h2.symm⟩))) | (go_at_call 33; exact Calls.quiet_of_same ((HM.out _).mono (fun e w' ⟨h1, h2⟩ => ⟨h1, h2.symm⟩)))))
  go_wp2_with fail
  go_ret
  refine ⟨rfl, ?_⟩
  exact belz
end
section
open Go.RowKit
/-- The reference's parts. -/
def abOut (θ x y : Int) : Int := fm (sc θ).2 x + fm (sc θ).1 y
def abSide (θ x y : Int) : Int := fm (sc θ).2 y - fm (sc θ).1 x
def latA (lat : Int) : Int := lat * 1000000 % 1000000000000000
def abUp (θ lat x y z : Int) : Int := fm (sc (latA lat)).1 z + fm (sc (latA lat)).2 (abOut θ x y)
def abNo (θ lat x y z : Int) : Int := fm (sc (latA lat)).2 z - fm (sc (latA lat)).1 (abOut θ x y)
theorem latA_bd (lat : Int) : 0 ≤ latA lat ∧ latA lat < 1000000000000000 := by unfold latA; omega
theorem fm_b1 {a b : Int} (a1 : -1160000000000000000 ≤ a) (a2 : a ≤ 1160000000000000000) (b1 : -1160000000000000000 ≤ b) (b2 : b ≤ 1160000000000000000) : -1170000000000000000 ≤ fm a b ∧ fm a b ≤ 1170000000000000000 :=
  fm_le (a := a) (b := b) (A := 1160000000000000000) (B := 1160000000000000000) (by omega) (by omega) (by omega) (by omega) 1170000000000000000 (by decide)
set_option maxRecDepth 100000 in
theorem c_rAbove (lon lat t x y z : Int) (w : World) (h1 : -500000000 ≤ lon) (h2 : lon ≤ 500000000) (l1 : -220000000 ≤ lat) (l2 : lat ≤ 220000000) (i1 : -400000000000000 ≤ t) (i2 : t ≤ 400000000000000)
    (x1 : -1160000000000000000 ≤ x) (x2 : x ≤ 1160000000000000000) (y1 : -1160000000000000000 ≤ y) (y2 : y ≤ 1160000000000000000) (z1 : -1160000000000000000 ≤ z) (z2 : z ≤ 1160000000000000000)
    (o1 : -1160000000000000000 ≤ abOut (refSid lon t) x y) (o2 : abOut (refSid lon t) x y ≤ 1160000000000000000) :
    Calls Tryz.prog 18 #[.agg #[.int .i64 lon, .int .i64 lat], .agg #[.int .i64 x, .int .i64 y, .int .i64 z], .int .i64 t] w fun e w' => e = .returned (.tuple #[.int .i64 (abUp (refSid lon t) lat x y z), .int .i64 (abSide (refSid lon t) x y), .int .i64 (abNo (refSid lon t) lat x y z)]) ∧ Below w.heap.size w w' := by
  have ok := sid_ok lon t
  have HS := Lib.hid (fun w1 => c_rSidereal lon lat t w1 h1 h2 i1 i2)
  have a0 := ok.a0
  have a1 := ok.a1
  clear ok
  have hs1 := fun w1 => c_SinCos (refSid lon t) w1 (by omega) (by omega)
  rw [Int.emod_eq_of_lt a0 a1] at hs1
  have hs2 := fun w1 => c_SinCos (lat * 1000000) w1 (by omega) (by omega)
  have e2 : lat * 1000000 % 1000000000000000 = latA lat := rfl
  rw [e2] at hs2
  clear e2
  have EU : Hid (abUp (refSid lon t) lat x y z = fm (sc (latA lat)).1 z + fm (sc (latA lat)).2 (abOut (refSid lon t) x y)) := Lib.hid rfl
  have EN : Hid (abNo (refSid lon t) lat x y z = fm (sc (latA lat)).2 z - fm (sc (latA lat)).1 (abOut (refSid lon t) x y)) := Lib.hid rfl
  have EO : Hid (abOut (refSid lon t) x y = fm (sc (refSid lon t)).2 x + fm (sc (refSid lon t)).1 y) := Lib.hid rfl
  have ES : Hid (abSide (refSid lon t) x y = fm (sc (refSid lon t)).2 y - fm (sc (refSid lon t)).1 x) := Lib.hid rfl
  rw [EU.out, EN.out, ES.out]
  rw [EO.out] at o1 o2 ⊢
  clear EU EN EO ES
  obtain ⟨b0, b1⟩ := latA_bd lat
  obtain ⟨t1, t2, t3, t4⟩ := sc_bds (refSid lon t) a0 a1
  obtain ⟨p1, p2, p3, p4⟩ := sc_bds (latA lat) b0 b1
  have HS1 := Lib.hid hs1
  have HS2 := Lib.hid hs2
  clear hs1 hs2 a0 a1 b0 b1
  generalize refSid lon t = θ at *
  generalize (sc θ).1 = st at *
  generalize (sc θ).2 = ct at *
  generalize (sc (latA lat)).1 = sp at *
  generalize (sc (latA lat)).2 = cp at *
  have f1 := fm_b1 (a := ct) (b := x) t3 t4 x1 x2
  have f2 := fm_b1 (a := st) (b := y) t1 t2 y1 y2
  have f3 := fm_b1 (a := ct) (b := y) t3 t4 y1 y2
  have f4 := fm_b1 (a := st) (b := x) t1 t2 x1 x2
  have f5 := fm_b1 (a := sp) (b := z) p1 p2 z1 z2
  have f6 := fm_b1 (a := cp) (b := z) p3 p4 z1 z2
  have f7 := fm_b1 (a := cp) (b := fm ct x + fm st y) p3 p4 o1 o2
  have f8 := fm_b1 (a := sp) (b := fm ct x + fm st y) p1 p2 o1 o2
  have v0 : IntKind.i64.wrap (lat * 1000000) = lat * 1000000 := IntWalk.i64_in _ (by omega)
  have v1 : IntKind.i64.wrap (fm ct x + fm st y) = fm ct x + fm st y := IntWalk.i64_in _ (by omega)
  have v2 : IntKind.i64.wrap (fm ct y - fm st x) = fm ct y - fm st x := IntWalk.i64_in _ (by omega)
  have v3 : IntKind.i64.wrap (fm sp z + fm cp (fm ct x + fm st y)) = fm sp z + fm cp (fm ct x + fm st y) := IntWalk.i64_in _ (by omega)
  have v4 : IntKind.i64.wrap (fm cp z - fm sp (fm ct x + fm st y)) = fm cp z - fm sp (fm ct x + fm st y) := IntWalk.i64_in _ (by omega)
  have hgen := sgen; have hgen2 := sgen2; have hgen3 := sgen3; go_enter Tryz.func18, Tryz.ntmps18
  go_upto_region 3 with (first | (go_at_call 35; (with_reducible refine (HS.out _).mono ?_); rintro e w1 ⟨rfl, hb⟩; have hz := hb.size; (try simp only [szA, szS, szD, szN] at hz); (try (refine bcB (n := w.heap.size) hb ?_; intro h_w_0 e_w_0 d_w_0 _ _)); (try (refine bcB (n := w.heap.size + 1) hb ?_; intro h_w_1 e_w_1 d_w_1 _ _))) | (go_at_call 34; (with_reducible refine (HS1.out _).mono ?_); rintro e w' ⟨rfl, rfl⟩) | (go_at_call 34; (with_reducible refine (HS2.out _).mono ?_); rintro e w' ⟨rfl, rfl⟩))
  go_quiet ((go_at_call 31; exact Calls.quiet_of_same ((c_fMul _ _ _ (by omega) (by omega) (by omega) (by omega)).mono (fun e w' ⟨h1, h2⟩ => ⟨h1, h2.symm⟩))))
  go_wp2_with fail
  go_quiet ((go_at_call 31; exact (c_fMul _ _ _ (by omega) (by omega) (by omega) (by omega)).mono (fun e w' ⟨h1, h2⟩ => ⟨h1, _, h2.symm⟩)))
  go_wp2_with fail
  refine bodyPost_ret (v := .tuple #[.int .i64 (fm sp z + fm cp (fm ct x + fm st y)), .int .i64 (fm ct y - fm st x), .int .i64 (fm cp z - fm sp (fm ct x + fm st y))]) (by simp only [results, Tryz.results18]; go_simp) rfl ⟨rfl, ?_⟩
  exact belz
end
end Go.Proofs.YtcgnhnmigmdalaaGreatDoor
