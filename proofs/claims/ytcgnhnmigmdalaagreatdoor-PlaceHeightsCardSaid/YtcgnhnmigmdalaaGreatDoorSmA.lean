/- The moon: contracts of its sums, of Longitude, Latitude and of the reference's MoonLon and MoonLat; the walk through the law MoonLongitudes. The interval of a short sum contains the reference's, with a small slack. No program in sight. The sun's sum: contracts of sun.Sum, sun.Longitude and of the reference's sunSum and SunLon. The moon's elongation: contracts of trig.Minus, trig.Less, moon.Elongation; the walk through the law MoonElongations. -/
import Derived.Test.YtcgnhnmigmdalaaGreatDoorWalkSva
import Derived.Deep.RegionHeld3
import Derived.Test.YtcgnhnmigmdalaaGreatDoorFltE
import Derived.Test.YtcgnhnmigmdalaaGreatDoorWalkRsum
set_option linter.unusedVariables false
set_option linter.unusedSimpArgs false
namespace Go.Proofs.YtcgnhnmigmdalaaGreatDoor
section
open Go.RowKit
def moonL : List Tm := [⟨17468817, 99384016, 36291647083333⟩, ⟨3538964, 134030564, 31434736861111⟩, ⟨1828650, 233414580, 67726383944444⟩, ⟨593383, 198768032, 72583294166666⟩, ⟨-514211, 84888545, 2737778555556⟩, ⟨-317589, 297001062, 73496390222222⟩]
def northL : List Tm := [⟨14244783, 648500531, 36748195111111⟩, ⟨779450, 747884547, 73039842194444⟩, ⟨771369, 450883485, -456548027778⟩]
theorem moon_e : sumE 392048814 36601101305556 moonL 20000 = 0 := by decide +kernel
theorem north_e : sumE 0 0 northL 20000 = 0 := by decide +kernel
def moonLo (t : Int) : Int := angLo 392048814 36601101305556 moonL 20000 t
def moonHi (t : Int) : Int := angHi 392048814 36601101305556 moonL 20000 t
def moonW (t : Int) : Int := wholeV 392048814 36601101305556 moonL t
def northLo (t : Int) : Int := valLo 0 northL 20000 t
def northHi (t : Int) : Int := valHi 0 northL 20000 t
def northV (t : Int) : Int := refAt 0 northL t 3
theorem moon_facts (t : Int) : 0 ≤ moonLo t ∧ moonLo t < 1000000000 ∧ (moonW t - 20000 * 1048576 - moonLo t * 1048576 + 8192) % 1048576000000000 ≤ (moonHi t - moonLo t - 2 * 20000) * 1048576 + 16384 ∧ moonHi t - moonLo t ≤ 40003 ∧ 0 ≤ moonW t ∧ moonW t < 1048576000000000 ∧ moonLo t ≤ moonHi t := by
  obtain ⟨v1, v2, v3, v4, v5⟩ := ang_contains (inst := t) (sumOk_of moon_e)
  refine ⟨v1, v2, v3, v5, ?_, ?_, ?_⟩
  · unfold moonW wholeV; omega
  · unfold moonW wholeV; omega
  · unfold moonLo moonHi
    omega
theorem north_facts (t : Int) : northLo t * 1048576 ≤ northV t - 20000 * 1048576 + 7600 ∧ northV t + 20000 * 1048576 ≤ northHi t * 1048576 + 7600 ∧ northHi t - northLo t ≤ 40002 ∧ -50000000000000000 ≤ northV t ∧ northV t ≤ 50000000000000000 := by
  have hv := sumOk_of north_e
  obtain ⟨v1, v2⟩ := val_contains (inst := t) hv
  have v3 := (val_width (inst := t) hv).2.2
  have nb := refAt_bd (inst := t) hv.m1 hv.m2 hv.tm 3 (Nat.le_refl _)
  exact ⟨v1, v2, v3, by unfold northV; omega, by unfold northV; omega⟩
theorem moon_low (t : Int) : 0 ≤ (moonW t - 20000 * 1048576 - moonLo t * 1048576 + 8192) % 1048576000000000 := by omega
/-- A whole sum with a part of the remainder, in eighths, lies in the interval. -/
theorem moon_shift (t n : Int) (h1 : -8 ≤ n) (h2 : n ≤ 8) : ((moonW t + 2500 * n * 1048576) % 1048576000000000 - 0 * 1048576 - moonLo t * 1048576 + 8192) % 1048576000000000 ≤ (moonHi t - moonLo t - 2 * 0) * 1048576 + 16384 := by
  obtain ⟨-, -, h, hw, -⟩ := moon_facts t
  have h0 := moon_low t
  generalize moonW t = W at *
  generalize moonLo t = lo at *
  generalize moonHi t = hi at *
  have e : ((W + 2500 * n * 1048576) % 1048576000000000 - 0 * 1048576 - lo * 1048576 + 8192) % 1048576000000000 = ((W - 20000 * 1048576 - lo * 1048576 + 8192) % 1048576000000000 + (20000 * 1048576 + 2500 * n * 1048576)) % 1048576000000000 := by omega
  rw [e]
  generalize (W - 20000 * 1048576 - lo * 1048576 + 8192) % 1048576000000000 = K at *
  have e2 : (K + (20000 * 1048576 + 2500 * n * 1048576)) % 1048576000000000 = K + (20000 * 1048576 + 2500 * n * 1048576) := Int.emod_eq_of_lt (by omega) (by omega)
  rw [e2]
  omega
theorem moon_zero : moonLo 0 ≤ 406718613 ∧ 406718613 ≤ moonHi 0 ∧ moonHi 0 - moonLo 0 ≤ 40030 := by
  obtain ⟨l0, l1, h, hw, -⟩ := moon_facts 0
  have h0 := moon_low 0
  have e : (moonW 0 / 1048576 : Int) = 406718613 ∨ moonW 0 / 1048576 = 406718612 := by decide +kernel
  generalize moonW 0 = W at *
  generalize moonLo 0 = lo at *
  generalize moonHi 0 = hi at *
  omega
theorem north_zero : northLo 0 ≤ -11989968 ∧ -11989968 ≤ northHi 0 ∧ northHi 0 - northLo 0 ≤ 40030 := by
  obtain ⟨h1, h2, h3, -⟩ := north_facts 0
  have e : (northV 0 / 1048576 : Int) = -11989968 ∨ (northV 0 / 1048576 : Int) = -11989969 := by decide +kernel
  generalize northV 0 = W at *
  generalize northLo 0 = lo at *
  generalize northHi 0 = hi at *
  omega
theorem c_moon_longitude (w : World) : Calls Tryz.prog 88 #[] w fun e w' => ∃ b, e = .returned (sumV 392048814 36601101305556 (some ⟨b, 0, none⟩) 6 6 20000) ∧ Below w.heap.size w w' ∧ TmSlice w' (some ⟨b, 0, none⟩) moonL := by
  have hgen := sgen; have hgen2 := sgen2; have hgen3 := sgen3; go_enter Tryz.func88, Tryz.ntmps88
  go_wp2
  refine bodyPost_ret (v := sumV 392048814 36601101305556 (some ⟨w.heap.size + 1, 0, none⟩) 6 6 20000) (by simp only [results, Tryz.results88]; go_simp) rfl ⟨_, rfl, ?_, ?_⟩
  · exact belz
  · intro k hk
    refine ⟨_, 0, rfl, by go_simp, ?_, ?_, ?_⟩
    all_goals (rcases k with _ | _ | _ | _ | _ | _ | k <;> first | (simp only [moonL, List.getElem_cons_zero, List.getElem_cons_succ]; go_simp; done) | (exfalso; simp only [moonL, List.length_cons, List.length_nil] at hk; omega))
theorem c_moonSum (w : World) : Calls Tryz.prog 66 #[] w fun e w' => ∃ b, e = .returned (sumV 392048814 36601101305556 (some ⟨b, 0, none⟩) 6 6 20000) ∧ Below w.heap.size w w' ∧ TmSlice w' (some ⟨b, 0, none⟩) moonL := by
  have hgen := sgen; have hgen2 := sgen2; have hgen3 := sgen3; go_enter Tryz.func66, Tryz.ntmps66
  go_wp2
  refine bodyPost_ret (v := sumV 392048814 36601101305556 (some ⟨w.heap.size + 1, 0, none⟩) 6 6 20000) (by simp only [results, Tryz.results66]; go_simp) rfl ⟨_, rfl, ?_, ?_⟩
  · exact belz
  · intro k hk
    refine ⟨_, 0, rfl, by go_simp, ?_, ?_, ?_⟩
    all_goals (rcases k with _ | _ | _ | _ | _ | _ | k <;> first | (simp only [moonL, List.getElem_cons_zero, List.getElem_cons_succ]; go_simp; done) | (exfalso; simp only [moonL, List.length_cons, List.length_nil] at hk; omega))
theorem c_moon_latitude (w : World) : Calls Tryz.prog 90 #[] w fun e w' => ∃ b, e = .returned (sumV 0 0 (some ⟨b, 0, none⟩) 3 3 20000) ∧ Below w.heap.size w w' ∧ TmSlice w' (some ⟨b, 0, none⟩) northL := by
  have hgen := sgen; have hgen2 := sgen2; have hgen3 := sgen3; go_enter Tryz.func90, Tryz.ntmps90
  go_wp2
  refine bodyPost_ret (v := sumV 0 0 (some ⟨w.heap.size + 1, 0, none⟩) 3 3 20000) (by simp only [results, Tryz.results90]; go_simp) rfl ⟨_, rfl, ?_, ?_⟩
  · exact belz
  · intro k hk
    refine ⟨_, 0, rfl, by go_simp, ?_, ?_, ?_⟩
    all_goals (rcases k with _ | _ | _ | k <;> first | (simp only [northL, List.getElem_cons_zero, List.getElem_cons_succ]; go_simp; done) | (exfalso; simp only [northL, List.length_cons, List.length_nil] at hk; omega))
theorem c_northSum (w : World) : Calls Tryz.prog 69 #[] w fun e w' => ∃ b, e = .returned (sumV 0 0 (some ⟨b, 0, none⟩) 3 3 20000) ∧ Below w.heap.size w w' ∧ TmSlice w' (some ⟨b, 0, none⟩) northL := by
  have hgen := sgen; have hgen2 := sgen2; have hgen3 := sgen3; go_enter Tryz.func69, Tryz.ntmps69
  go_wp2
  refine bodyPost_ret (v := sumV 0 0 (some ⟨w.heap.size + 1, 0, none⟩) 3 3 20000) (by simp only [results, Tryz.results69]; go_simp) rfl ⟨_, rfl, ?_, ?_⟩
  · exact belz
  · intro k hk
    refine ⟨_, 0, rfl, by go_simp, ?_, ?_, ?_⟩
    all_goals (rcases k with _ | _ | _ | k <;> first | (simp only [northL, List.getElem_cons_zero, List.getElem_cons_succ]; go_simp; done) | (exfalso; simp only [northL, List.length_cons, List.length_nil] at hk; omega))
theorem c_Angle_moon (t : Int) (a : Option Addr) (w : World) (hT : Tab w) (hs : TmSlice w a moonL) (ht : instB t = true) :
    Calls Tryz.prog 85 #[sumV 392048814 36601101305556 a 6 6 20000, .int .i64 t] w fun e w' => e = .returned (.tuple #[.agg #[.int .i64 (moonLo t), .int .i64 (moonHi t)], .int .i64 0]) ∧ Below w.heap.size w w' :=
  c_Angle_ok 392048814 36601101305556 20000 t a 6 moonL w hT (Nat.le_refl _) hs moon_e ht
theorem c_Angle_moonT (t : Int) (a : Option Addr) (w : World) (hs : TmSlice w a moonL) (ht : instB t = false) (t1 : -9223372036854775808 ≤ t) (t2 : t ≤ 9223372036854775807) :
    Calls Tryz.prog 85 #[sumV 392048814 36601101305556 a 6 6 20000, .int .i64 t] w fun e w' => e = .returned (.tuple #[.agg #[.int .i64 0, .int .i64 0], .int .i64 3]) ∧ Below w.heap.size w w' :=
  c_Angle_time 392048814 36601101305556 20000 t a 6 moonL w (Nat.le_refl _) hs moon_e ht t1 t2
theorem c_Value_north (t : Int) (a : Option Addr) (w : World) (hT : Tab w) (hs : TmSlice w a northL) (ht : instB t = true) :
    Calls Tryz.prog 89 #[sumV 0 0 a 3 3 20000, .int .i64 t] w fun e w' => e = .returned (.tuple #[.agg #[.int .i64 (northLo t), .int .i64 (northHi t)], .int .i64 0]) ∧ Below w.heap.size w w' :=
  c_Value_ok 0 0 20000 t a 3 northL w hT (Nat.le_refl _) hs north_e ht
theorem c_Value_northT (t : Int) (a : Option Addr) (w : World) (hs : TmSlice w a northL) (ht : instB t = false) (t1 : -9223372036854775808 ≤ t) (t2 : t ≤ 9223372036854775807) :
    Calls Tryz.prog 89 #[sumV 0 0 a 3 3 20000, .int .i64 t] w fun e w' => e = .returned (.tuple #[.agg #[.int .i64 0, .int .i64 0], .int .i64 3]) ∧ Below w.heap.size w w' :=
  c_Value_time 0 0 20000 t a 3 northL w (Nat.le_refl _) hs north_e ht t1 t2
theorem c_Whole_moon (t : Int) (a : Option Addr) (w : World) (hs : TmSlice w a moonL) (i1 : -400000000000000 ≤ t) (i2 : t ≤ 400000000000000) :
    Calls Tryz.prog 65 #[sumV 392048814 36601101305556 a 6 6 20000, .int .i64 t] w fun e w' => e = .returned (.int .i64 (moonW t)) ∧ Below w.heap.size w w' :=
  c_rWhole 392048814 36601101305556 20000 t a 6 moonL w (Nat.le_refl _) hs (sumOk_of moon_e) i1 i2
theorem c_Sum_north (t : Int) (a : Option Addr) (w : World) (hs : TmSlice w a northL) (i1 : -400000000000000 ≤ t) (i2 : t ≤ 400000000000000) :
    Calls Tryz.prog 68 #[sumV 0 0 a 3 3 20000, .int .i64 t] w fun e w' => e = .returned (.int .i64 (northV t)) ∧ Below w.heap.size w w' :=
  c_rSum 0 0 20000 t a 3 northL w (Nat.le_refl _) hs (sumOk_of north_e) i1 i2
theorem c_Longitude (t : Int) (w : World) (hT : Tab w) (ht : instB t = true) :
    Calls Tryz.prog 48 #[.int .i64 t] w fun e w' => e = .returned (.tuple #[.agg #[.int .i64 (moonLo t), .int .i64 (moonHi t)], .int .i64 0]) ∧ Below w.heap.size w w' := by
  have HA := Lib.hid (fun w1 (h : Tab w1) a hs1 => c_Angle_moon t a w1 h hs1 ht)
  have HT := Lib.hid hT
  clear hT ht
  generalize moonLo t = lo at *
  generalize moonHi t = hi at *
  have hgen := sgen; have hgen2 := sgen2; have hgen3 := sgen3; go_enter Tryz.func48, Tryz.ntmps48
  go_wp2_with (first | (go_at_call 88; (refine (c_moon_longitude _).mono ?_); rintro e w1 ⟨b, rfl, hb, hm⟩; have hz := hb.size; (try simp only [szA, szS, szD, szN] at hz); (try (refine bcB (n := w.heap.size) hb ?_; intro h_w_0 e_w_0 d_w_0 _ _)); (try (refine bcB (n := w.heap.size + 1) hb ?_; intro h_w_1 e_w_1 d_w_1 _ _))) | (go_at_call 85; (refine (HA.out _ (HT.out.below (by exact belz)) _ hm).mono ?_); rintro e w2 ⟨rfl, hb⟩; have hz := hb.size; (try simp only [szA, szS, szD, szN] at hz); (try (refine bcB (n := w.heap.size) hb ?_; intro h_w_0 e_w_0 d_w_0 _ _)); (try (refine bcB (n := w.heap.size + 1) hb ?_; intro h_w_1 e_w_1 d_w_1 _ _)); (try (refine bcB (n := w1.heap.size) hb ?_; intro h_w1_0 e_w1_0 d_w1_0 _ _))))
  refine bodyPost_ret (v := .tuple #[.agg #[.int .i64 lo, .int .i64 hi], .int .i64 0]) (by simp only [results, Tryz.results48]; go_simp) rfl ⟨rfl, ?_⟩
  exact belz
theorem c_LongitudeT (t : Int) (w : World) (ht : instB t = false) (t1 : -9223372036854775808 ≤ t) (t2 : t ≤ 9223372036854775807) :
    Calls Tryz.prog 48 #[.int .i64 t] w fun e w' => e = .returned (.tuple #[.agg #[.int .i64 0, .int .i64 0], .int .i64 3]) ∧ Below w.heap.size w w' := by
  have HA := Lib.hid (fun w1 a hs1 => c_Angle_moonT t a w1 hs1 ht t1 t2)
  clear ht
  have hgen := sgen; have hgen2 := sgen2; have hgen3 := sgen3; go_enter Tryz.func48, Tryz.ntmps48
  go_wp2_with (first | (go_at_call 88; (refine (c_moon_longitude _).mono ?_); rintro e w1 ⟨b, rfl, hb, hm⟩; have hz := hb.size; (try simp only [szA, szS, szD, szN] at hz); (try (refine bcB (n := w.heap.size) hb ?_; intro h_w_0 e_w_0 d_w_0 _ _)); (try (refine bcB (n := w.heap.size + 1) hb ?_; intro h_w_1 e_w_1 d_w_1 _ _))) | (go_at_call 85; (refine (HA.out _ _ hm).mono ?_); rintro e w2 ⟨rfl, hb⟩; have hz := hb.size; (try simp only [szA, szS, szD, szN] at hz); (try (refine bcB (n := w.heap.size) hb ?_; intro h_w_0 e_w_0 d_w_0 _ _)); (try (refine bcB (n := w.heap.size + 1) hb ?_; intro h_w_1 e_w_1 d_w_1 _ _)); (try (refine bcB (n := w1.heap.size) hb ?_; intro h_w1_0 e_w1_0 d_w1_0 _ _))))
  refine bodyPost_ret (v := .tuple #[.agg #[.int .i64 0, .int .i64 0], .int .i64 3]) (by simp only [results, Tryz.results48]; go_simp) rfl ⟨rfl, ?_⟩
  exact belz
theorem c_Latitude (t : Int) (w : World) (hT : Tab w) (ht : instB t = true) :
    Calls Tryz.prog 49 #[.int .i64 t] w fun e w' => e = .returned (.tuple #[.agg #[.int .i64 (northLo t), .int .i64 (northHi t)], .int .i64 0]) ∧ Below w.heap.size w w' := by
  have HA := Lib.hid (fun w1 (h : Tab w1) a hs1 => c_Value_north t a w1 h hs1 ht)
  have HT := Lib.hid hT
  clear hT ht
  generalize northLo t = lo at *
  generalize northHi t = hi at *
  have hgen := sgen; have hgen2 := sgen2; have hgen3 := sgen3; go_enter Tryz.func49, Tryz.ntmps49
  go_wp2_with (first | (go_at_call 90; (refine (c_moon_latitude _).mono ?_); rintro e w1 ⟨b, rfl, hb, hm⟩; have hz := hb.size; (try simp only [szA, szS, szD, szN] at hz); (try (refine bcB (n := w.heap.size) hb ?_; intro h_w_0 e_w_0 d_w_0 _ _)); (try (refine bcB (n := w.heap.size + 1) hb ?_; intro h_w_1 e_w_1 d_w_1 _ _))) | (go_at_call 89; (refine (HA.out _ (HT.out.below (by exact belz)) _ hm).mono ?_); rintro e w2 ⟨rfl, hb⟩; have hz := hb.size; (try simp only [szA, szS, szD, szN] at hz); (try (refine bcB (n := w.heap.size) hb ?_; intro h_w_0 e_w_0 d_w_0 _ _)); (try (refine bcB (n := w.heap.size + 1) hb ?_; intro h_w_1 e_w_1 d_w_1 _ _)); (try (refine bcB (n := w1.heap.size) hb ?_; intro h_w1_0 e_w1_0 d_w1_0 _ _))))
  refine bodyPost_ret (v := .tuple #[.agg #[.int .i64 lo, .int .i64 hi], .int .i64 0]) (by simp only [results, Tryz.results49]; go_simp) rfl ⟨rfl, ?_⟩
  exact belz
theorem c_LatitudeT (t : Int) (w : World) (ht : instB t = false) (t1 : -9223372036854775808 ≤ t) (t2 : t ≤ 9223372036854775807) :
    Calls Tryz.prog 49 #[.int .i64 t] w fun e w' => e = .returned (.tuple #[.agg #[.int .i64 0, .int .i64 0], .int .i64 3]) ∧ Below w.heap.size w w' := by
  have HA := Lib.hid (fun w1 a hs1 => c_Value_northT t a w1 hs1 ht t1 t2)
  clear ht
  have hgen := sgen; have hgen2 := sgen2; have hgen3 := sgen3; go_enter Tryz.func49, Tryz.ntmps49
  go_wp2_with (first | (go_at_call 90; (refine (c_moon_latitude _).mono ?_); rintro e w1 ⟨b, rfl, hb, hm⟩; have hz := hb.size; (try simp only [szA, szS, szD, szN] at hz); (try (refine bcB (n := w.heap.size) hb ?_; intro h_w_0 e_w_0 d_w_0 _ _)); (try (refine bcB (n := w.heap.size + 1) hb ?_; intro h_w_1 e_w_1 d_w_1 _ _))) | (go_at_call 89; (refine (HA.out _ _ hm).mono ?_); rintro e w2 ⟨rfl, hb⟩; have hz := hb.size; (try simp only [szA, szS, szD, szN] at hz); (try (refine bcB (n := w.heap.size) hb ?_; intro h_w_0 e_w_0 d_w_0 _ _)); (try (refine bcB (n := w.heap.size + 1) hb ?_; intro h_w_1 e_w_1 d_w_1 _ _)); (try (refine bcB (n := w1.heap.size) hb ?_; intro h_w1_0 e_w1_0 d_w1_0 _ _))))
  refine bodyPost_ret (v := .tuple #[.agg #[.int .i64 0, .int .i64 0], .int .i64 3]) (by simp only [results, Tryz.results49]; go_simp) rfl ⟨rfl, ?_⟩
  exact belz
theorem c_MoonLon (t n : Int) (w : World) (i1 : -400000000000000 ≤ t) (i2 : t ≤ 400000000000000) (n1 : -8 ≤ n) (n2 : n ≤ 8) :
    Calls Tryz.prog 26 #[.int .i64 t, .int .i64 n] w fun e w' => e = .returned (.int .i64 ((moonW t + 2500 * n * 1048576) % 1048576000000000)) ∧ Below w.heap.size w w' := by
  obtain ⟨-, -, -, -, m1, m2, -⟩ := moon_facts t
  have HW := Lib.hid (fun w1 a hs1 => c_Whole_moon t a w1 hs1 i1 i2)
  generalize moonW t = W at *
  have HM := Lib.hid (fun w1 => c_rMod (W + 2500 * n * 1048576) 1048576000000000 w1 (by omega) (by omega) (by omega) (by omega))
  have hgen := sgen; have hgen2 := sgen2; have hgen3 := sgen3; go_enter Tryz.func26, Tryz.ntmps26
  go_wp2_with (first | (go_at_call 66; (refine (c_moonSum _).mono ?_); rintro e w1 ⟨b, rfl, hb, hm⟩; have hz := hb.size; (try simp only [szA, szS, szD, szN] at hz); (try (refine bcB (n := w.heap.size) hb ?_; intro h_w_0 e_w_0 d_w_0 _ _))) | (go_at_call 65; (refine (HW.out _ _ hm).mono ?_); rintro e w2 ⟨rfl, hb⟩; have hz := hb.size; (try simp only [szA, szS, szD, szN] at hz); (try (refine bcB (n := w.heap.size) hb ?_; intro h_w_0 e_w_0 d_w_0 _ _)); (try (refine bcB (n := w1.heap.size) hb ?_; intro h_w1_0 e_w1_0 d_w1_0 _ _))) | (go_at_call 33; refine (HM.out _).mono ?_; rintro e w' ⟨rfl, rfl⟩))
  go_ret
  refine ⟨rfl, ?_⟩
  exact belz
theorem c_MoonLat (t n : Int) (w : World) (i1 : -400000000000000 ≤ t) (i2 : t ≤ 400000000000000) (n1 : -8 ≤ n) (n2 : n ≤ 8) :
    Calls Tryz.prog 28 #[.int .i64 t, .int .i64 n] w fun e w' => e = .returned (.int .i64 (northV t + 2500 * n * 1048576)) ∧ Below w.heap.size w w' := by
  obtain ⟨-, -, -, m1, m2⟩ := north_facts t
  have HW := Lib.hid (fun w1 a hs1 => c_Sum_north t a w1 hs1 i1 i2)
  generalize northV t = W at *
  have hgen := sgen; have hgen2 := sgen2; have hgen3 := sgen3; go_enter Tryz.func28, Tryz.ntmps28
  go_wp2_with (first | (go_at_call 69; (refine (c_northSum _).mono ?_); rintro e w1 ⟨b, rfl, hb, hm⟩; have hz := hb.size; (try simp only [szA, szS, szD, szN] at hz); (try (refine bcB (n := w.heap.size) hb ?_; intro h_w_0 e_w_0 d_w_0 _ _))) | (go_at_call 68; (refine (HW.out _ _ hm).mono ?_); rintro e w2 ⟨rfl, hb⟩; have hz := hb.size; (try simp only [szA, szS, szD, szN] at hz); (try (refine bcB (n := w.heap.size) hb ?_; intro h_w_0 e_w_0 d_w_0 _ _)); (try (refine bcB (n := w1.heap.size) hb ?_; intro h_w1_0 e_w1_0 d_w1_0 _ _))))
  go_ret
  refine ⟨rfl, ?_⟩
  exact belz
theorem c_at17 (k : Int) (w : World) (k1 : -9223372036854775808 ≤ k) (k2 : k ≤ 9223372036854775807) :
    Calls Tryz.prog 8 #[.int .i64 k, .int .i64 17] w fun e w' => ∃ x : Int, e = .returned (.int .i64 x) ∧ 0 ≤ x ∧ x ≤ 16 ∧ w = w' := by
  have h1 : -17 < k.tmod 17 := by
    have := Int.tmod_lt_of_pos (-k) (show (0 : Int) < 17 by omega)
    rw [Int.neg_tmod] at this; omega
  have h2 := Int.tmod_lt_of_pos k (show (0 : Int) < 17 by omega)
  have hgen := sgen; have hgen2 := sgen2; have hgen3 := sgen3; go_enter Tryz.func8, Tryz.ntmps8
  go_wp2
  go_ret
  refine ⟨_, rfl, ?_, ?_, rfl⟩
  · omega
  · omega
end
section
theorem val_contains2 {m r : Int} {l : List Tm} {s inst : Int} (hv : SumOk m r l s) (h8 : l.length ≤ 8) : valLo m l s inst * 1048576 ≤ refAt m l inst l.length - s * 1048576 + 2000 ∧ refAt m l inst l.length + s * 1048576 ≤ valHi m l s inst * 1048576 + 2000 := by
  have hn := refAt_near (m := m) (inst := inst) hv.tm l.length (Nat.le_refl _)
  obtain ⟨f1, f2, X1, X2, -, -, -, -, -, -, -, -, -, -, b1, -, b3, -⟩ := val_around (inst := inst) hv.len hv.tm
  have k8 : (l.length : Rat) ≤ 8 := by
    have : (l.length : Rat) ≤ ((8 : Nat) : Rat) := cast_le h8
    exact this
  obtain ⟨n1, n2⟩ := rabs_le.1 hn
  have cancel : ∀ {a b : Int}, (a : Rat) ≤ (b : Rat) → a ≤ b := fun h => Rat.intCast_le_intCast.1 h
  unfold valLo valHi
  by_cases h0 : l.length = 0
  · rw [if_pos h0, if_pos h0]
    have e : refAt m l inst l.length = m * 1048576 := by rw [h0]; rfl
    rw [e]
    omega
  · rw [if_neg h0, if_neg h0]
    constructor
    · refine cancel ?_
      push_cast
      grind
    · refine cancel ?_
      push_cast
      grind
theorem ang_contains2 {m r : Int} {l : List Tm} {s inst : Int} (hv : SumOk m r l s) (h8 : l.length ≤ 8) :
    (wholeV m r l inst - s * 1048576 - angLo m r l s inst * 1048576 + 2000) % 1048576000000000 ≤ (angHi m r l s inst - angLo m r l s inst - 2 * s) * 1048576 + 4000 := by
  obtain ⟨c1, c2⟩ := val_contains2 (inst := inst) hv h8
  obtain ⟨w1, w2, w3⟩ := val_width (inst := inst) hv
  have s1 := hv.s1
  have s2 := hv.s2
  have ea : argV r inst = grQ r inst % 1000000000 * 1000000 + grR r inst / 86400000 := by
    unfold argV grQ grR; generalize r * inst = P; omega
  have r0 : 0 ≤ grR r inst := Int.emod_nonneg _ (by omega)
  have r1 : grR r inst < 86400000000000 := Int.emod_lt_of_pos _ (by omega)
  have eh : angHi m r l s inst = angLo m r l s inst + (if 0 < grR r inst then valHi m l s inst + 1 else valHi m l s inst) - valLo m l s inst := rfl
  have el : angLo m r l s inst = (valLo m l s inst + grQ r inst % 1000000000) % 1000000000 := rfl
  rw [eh, el]
  unfold wholeV
  rw [ea]
  generalize refAt m l inst l.length = n at *
  generalize valLo m l s inst = vl at *
  generalize valHi m l s inst = vh at *
  generalize grQ r inst % 1000000000 = q at *
  generalize grR r inst = ρ at *
  have e1 : (q * 1000000 + ρ / 86400000) / 1000000 = q := by omega
  have e2 : (q * 1000000 + ρ / 86400000) % 1000000 = ρ / 86400000 := by omega
  rw [e1, e2]
  have key : ((n + q * 1048576 + ρ / 86400000 * 1048576 / 1000000) % 1048576000000000 - s * 1048576 - (vl + q) % 1000000000 * 1048576 + 2000) % 1048576000000000 = (n - s * 1048576 - vl * 1048576 + ρ / 86400000 * 1048576 / 1000000 + 2000) % 1048576000000000 := by omega
  rw [key]
  have f0 : 0 ≤ ρ / 86400000 * 1048576 / 1000000 := by omega
  have f1 : ρ / 86400000 * 1048576 / 1000000 < 1048576 := by omega
  by_cases h : 0 < ρ
  · rw [if_pos h]
    have hK : (n - s * 1048576 - vl * 1048576 + ρ / 86400000 * 1048576 / 1000000 + 2000) % 1048576000000000 = n - s * 1048576 - vl * 1048576 + ρ / 86400000 * 1048576 / 1000000 + 2000 := Int.emod_eq_of_lt (by omega) (by omega)
    rw [hK]
    omega
  · have f2 : ρ / 86400000 * 1048576 / 1000000 = 0 := by omega
    rw [if_neg h, f2]
    have hK : (n - s * 1048576 - vl * 1048576 + 0 + 2000) % 1048576000000000 = n - s * 1048576 - vl * 1048576 + 0 + 2000 := Int.emod_eq_of_lt (by omega) (by omega)
    rw [hK]
    omega
/-- The difference of two angles: it lies in the difference of their intervals, with parts of the remainders. K1, K2: what ang_contains2 tells of the two; w1, w2: the widths. -/
theorem less_contains {W1 W2 lo1 lo2 w1 w2 s1 s2 e1 e2 : Int} (h1 : (W1 - s1 * 1048576 - lo1 * 1048576 + 2000) % 1048576000000000 ≤ (w1 - 2 * s1) * 1048576 + 4000) (h2 : (W2 - s2 * 1048576 - lo2 * 1048576 + 2000) % 1048576000000000 ≤ (w2 - 2 * s2) * 1048576 + 4000)
    (a1 : -s1 ≤ e1) (a2 : e1 ≤ s1) (b1 : -s2 ≤ e2) (b2 : e2 ≤ s2) (s10 : 0 ≤ s1) (s11 : s1 ≤ 100000) (s20 : 0 ≤ s2) (s21 : s2 ≤ 100000) (w1b : w1 ≤ 300000) (w2b : w2 ≤ 300000) :
    (((W1 + e1 * 1048576) % 1048576000000000 - (W2 + e2 * 1048576) % 1048576000000000) % 1048576000000000 - 0 * 1048576 - (lo1 - (lo2 + w2)) % 1000000000 * 1048576 + 8192) % 1048576000000000 ≤ (w1 + w2 - 2 * 0) * 1048576 + 16384 := by
  have k1 := Int.emod_nonneg (W1 - s1 * 1048576 - lo1 * 1048576 + 2000) (show (1048576000000000 : Int) ≠ 0 by omega)
  have k2 := Int.emod_nonneg (W2 - s2 * 1048576 - lo2 * 1048576 + 2000) (show (1048576000000000 : Int) ≠ 0 by omega)
  have e : (((W1 + e1 * 1048576) % 1048576000000000 - (W2 + e2 * 1048576) % 1048576000000000) % 1048576000000000 - 0 * 1048576 - (lo1 - (lo2 + w2)) % 1000000000 * 1048576 + 8192) % 1048576000000000 =
      ((W1 - s1 * 1048576 - lo1 * 1048576 + 2000) % 1048576000000000 - (W2 - s2 * 1048576 - lo2 * 1048576 + 2000) % 1048576000000000 + (s1 + e1 - s2 - e2 + w2) * 1048576 + 8192) % 1048576000000000 := by omega
  rw [e]
  generalize (W1 - s1 * 1048576 - lo1 * 1048576 + 2000) % 1048576000000000 = K1 at *
  generalize (W2 - s2 * 1048576 - lo2 * 1048576 + 2000) % 1048576000000000 = K2 at *
  rw [Int.emod_eq_of_lt (by omega) (by omega)]
  omega
end
section
open Go.RowKit
def sunL : List Tm := [⟨5318339, 84888545, 2737778555556⟩, ⟨55536, 169777090, 5475557111112⟩]
theorem sun_e : sumE 775342092 2737909333333 sunL 2000 = 0 := by decide +kernel
def sunLo (t : Int) : Int := angLo 775342092 2737909333333 sunL 2000 t
def sunHi (t : Int) : Int := angHi 775342092 2737909333333 sunL 2000 t
def sunW (t : Int) : Int := wholeV 775342092 2737909333333 sunL t
theorem sun_facts (t : Int) : 0 ≤ sunLo t ∧ sunLo t < 1000000000 ∧ (sunW t - 2000 * 1048576 - sunLo t * 1048576 + 2000) % 1048576000000000 ≤ (sunHi t - sunLo t - 2 * 2000) * 1048576 + 4000 ∧ sunHi t - sunLo t ≤ 4003 ∧ 0 ≤ sunW t ∧ sunW t < 1048576000000000 ∧ sunLo t ≤ sunHi t := by
  obtain ⟨v1, v2, v3, v4, v5⟩ := ang_contains (inst := t) (sumOk_of sun_e)
  have v6 := ang_contains2 (inst := t) (sumOk_of sun_e) (by decide)
  refine ⟨v1, v2, v6, v5, ?_, ?_, ?_⟩
  · unfold sunW wholeV; omega
  · unfold sunW wholeV; omega
  · unfold sunLo sunHi
    omega
theorem c_sun_Sum (w : World) : Calls Tryz.prog 86 #[] w fun e w' => ∃ b, e = .returned (sumV 775342092 2737909333333 (some ⟨b, 0, none⟩) 2 2 2000) ∧ Below w.heap.size w w' ∧ TmSlice w' (some ⟨b, 0, none⟩) sunL := by
  have hgen := sgen; have hgen2 := sgen2; have hgen3 := sgen3; go_enter Tryz.func86, Tryz.ntmps86
  go_wp2
  refine bodyPost_ret (v := sumV 775342092 2737909333333 (some ⟨w.heap.size + 1, 0, none⟩) 2 2 2000) (by simp only [results, Tryz.results86]; go_simp) rfl ⟨_, rfl, ?_, ?_⟩
  · exact belz
  · intro k hk
    refine ⟨_, 0, rfl, by go_simp, ?_, ?_, ?_⟩
    all_goals (rcases k with _ | _ | k <;> first | (simp only [sunL, List.getElem_cons_zero, List.getElem_cons_succ]; go_simp; done) | (exfalso; simp only [sunL, List.length_cons, List.length_nil] at hk; omega))
theorem c_sunSum (w : World) : Calls Tryz.prog 67 #[] w fun e w' => ∃ b, e = .returned (sumV 775342092 2737909333333 (some ⟨b, 0, none⟩) 2 2 2000) ∧ Below w.heap.size w w' ∧ TmSlice w' (some ⟨b, 0, none⟩) sunL := by
  have hgen := sgen; have hgen2 := sgen2; have hgen3 := sgen3; go_enter Tryz.func67, Tryz.ntmps67
  go_wp2
  refine bodyPost_ret (v := sumV 775342092 2737909333333 (some ⟨w.heap.size + 1, 0, none⟩) 2 2 2000) (by simp only [results, Tryz.results67]; go_simp) rfl ⟨_, rfl, ?_, ?_⟩
  · exact belz
  · intro k hk
    refine ⟨_, 0, rfl, by go_simp, ?_, ?_, ?_⟩
    all_goals (rcases k with _ | _ | k <;> first | (simp only [sunL, List.getElem_cons_zero, List.getElem_cons_succ]; go_simp; done) | (exfalso; simp only [sunL, List.length_cons, List.length_nil] at hk; omega))
theorem c_Angle_sun (t : Int) (a : Option Addr) (w : World) (hT : Tab w) (hs : TmSlice w a sunL) (ht : instB t = true) :
    Calls Tryz.prog 85 #[sumV 775342092 2737909333333 a 2 2 2000, .int .i64 t] w fun e w' => e = .returned (.tuple #[.agg #[.int .i64 (sunLo t), .int .i64 (sunHi t)], .int .i64 0]) ∧ Below w.heap.size w w' :=
  c_Angle_ok 775342092 2737909333333 2000 t a 2 sunL w hT (Nat.le_refl _) hs sun_e ht
theorem c_Angle_sunT (t : Int) (a : Option Addr) (w : World) (hs : TmSlice w a sunL) (ht : instB t = false) (t1 : -9223372036854775808 ≤ t) (t2 : t ≤ 9223372036854775807) :
    Calls Tryz.prog 85 #[sumV 775342092 2737909333333 a 2 2 2000, .int .i64 t] w fun e w' => e = .returned (.tuple #[.agg #[.int .i64 0, .int .i64 0], .int .i64 3]) ∧ Below w.heap.size w w' :=
  c_Angle_time 775342092 2737909333333 2000 t a 2 sunL w (Nat.le_refl _) hs sun_e ht t1 t2
theorem c_Whole_sun (t : Int) (a : Option Addr) (w : World) (hs : TmSlice w a sunL) (i1 : -400000000000000 ≤ t) (i2 : t ≤ 400000000000000) :
    Calls Tryz.prog 65 #[sumV 775342092 2737909333333 a 2 2 2000, .int .i64 t] w fun e w' => e = .returned (.int .i64 (sunW t)) ∧ Below w.heap.size w w' :=
  c_rWhole 775342092 2737909333333 2000 t a 2 sunL w (Nat.le_refl _) hs (sumOk_of sun_e) i1 i2
theorem c_sunLongitude (t : Int) (w : World) (hT : Tab w) (ht : instB t = true) :
    Calls Tryz.prog 46 #[.int .i64 t] w fun e w' => e = .returned (.tuple #[.agg #[.int .i64 (sunLo t), .int .i64 (sunHi t)], .int .i64 0]) ∧ Below w.heap.size w w' := by
  have HA := Lib.hid (fun w1 (h : Tab w1) a hs1 => c_Angle_sun t a w1 h hs1 ht)
  have HT := Lib.hid hT
  clear hT ht
  generalize sunLo t = lo at *
  generalize sunHi t = hi at *
  have hgen := sgen; have hgen2 := sgen2; have hgen3 := sgen3; go_enter Tryz.func46, Tryz.ntmps46
  go_wp2_with (first | (go_at_call 86; (refine (c_sun_Sum _).mono ?_); rintro e w1 ⟨b, rfl, hb, hm⟩; have hz := hb.size; (try simp only [szA, szS, szD, szN] at hz); (try (refine bcB (n := w.heap.size) hb ?_; intro h_w_0 e_w_0 d_w_0 _ _)); (try (refine bcB (n := w.heap.size + 1) hb ?_; intro h_w_1 e_w_1 d_w_1 _ _))) | (go_at_call 85; (refine (HA.out _ (HT.out.below (by exact belz)) _ hm).mono ?_); rintro e w2 ⟨rfl, hb⟩; have hz := hb.size; (try simp only [szA, szS, szD, szN] at hz); (try (refine bcB (n := w.heap.size) hb ?_; intro h_w_0 e_w_0 d_w_0 _ _)); (try (refine bcB (n := w.heap.size + 1) hb ?_; intro h_w_1 e_w_1 d_w_1 _ _)); (try (refine bcB (n := w1.heap.size) hb ?_; intro h_w1_0 e_w1_0 d_w1_0 _ _))))
  refine bodyPost_ret (v := .tuple #[.agg #[.int .i64 lo, .int .i64 hi], .int .i64 0]) (by simp only [results, Tryz.results46]; go_simp) rfl ⟨rfl, ?_⟩
  exact belz
theorem c_sunLongitudeT (t : Int) (w : World) (ht : instB t = false) (t1 : -9223372036854775808 ≤ t) (t2 : t ≤ 9223372036854775807) :
    Calls Tryz.prog 46 #[.int .i64 t] w fun e w' => e = .returned (.tuple #[.agg #[.int .i64 0, .int .i64 0], .int .i64 3]) ∧ Below w.heap.size w w' := by
  have HA := Lib.hid (fun w1 a hs1 => c_Angle_sunT t a w1 hs1 ht t1 t2)
  clear ht
  have hgen := sgen; have hgen2 := sgen2; have hgen3 := sgen3; go_enter Tryz.func46, Tryz.ntmps46
  go_wp2_with (first | (go_at_call 86; (refine (c_sun_Sum _).mono ?_); rintro e w1 ⟨b, rfl, hb, hm⟩; have hz := hb.size; (try simp only [szA, szS, szD, szN] at hz); (try (refine bcB (n := w.heap.size) hb ?_; intro h_w_0 e_w_0 d_w_0 _ _)); (try (refine bcB (n := w.heap.size + 1) hb ?_; intro h_w_1 e_w_1 d_w_1 _ _))) | (go_at_call 85; (refine (HA.out _ _ hm).mono ?_); rintro e w2 ⟨rfl, hb⟩; have hz := hb.size; (try simp only [szA, szS, szD, szN] at hz); (try (refine bcB (n := w.heap.size) hb ?_; intro h_w_0 e_w_0 d_w_0 _ _)); (try (refine bcB (n := w.heap.size + 1) hb ?_; intro h_w_1 e_w_1 d_w_1 _ _)); (try (refine bcB (n := w1.heap.size) hb ?_; intro h_w1_0 e_w1_0 d_w1_0 _ _))))
  refine bodyPost_ret (v := .tuple #[.agg #[.int .i64 0, .int .i64 0], .int .i64 3]) (by simp only [results, Tryz.results46]; go_simp) rfl ⟨rfl, ?_⟩
  exact belz
theorem c_SunLon (t n : Int) (w : World) (i1 : -400000000000000 ≤ t) (i2 : t ≤ 400000000000000) (n1 : -8 ≤ n) (n2 : n ≤ 8) :
    Calls Tryz.prog 27 #[.int .i64 t, .int .i64 n] w fun e w' => e = .returned (.int .i64 ((sunW t + 250 * n * 1048576) % 1048576000000000)) ∧ Below w.heap.size w w' := by
  obtain ⟨-, -, -, -, m1, m2, -⟩ := sun_facts t
  have HW := Lib.hid (fun w1 a hs1 => c_Whole_sun t a w1 hs1 i1 i2)
  generalize sunW t = W at *
  have HM := Lib.hid (fun w1 => c_rMod (W + 250 * n * 1048576) 1048576000000000 w1 (by omega) (by omega) (by omega) (by omega))
  have hgen := sgen; have hgen2 := sgen2; have hgen3 := sgen3; go_enter Tryz.func27, Tryz.ntmps27
  go_wp2_with (first | (go_at_call 67; (refine (c_sunSum _).mono ?_); rintro e w1 ⟨b, rfl, hb, hm⟩; have hz := hb.size; (try simp only [szA, szS, szD, szN] at hz); (try (refine bcB (n := w.heap.size) hb ?_; intro h_w_0 e_w_0 d_w_0 _ _))) | (go_at_call 65; (refine (HW.out _ _ hm).mono ?_); rintro e w2 ⟨rfl, hb⟩; have hz := hb.size; (try simp only [szA, szS, szD, szN] at hz); (try (refine bcB (n := w.heap.size) hb ?_; intro h_w_0 e_w_0 d_w_0 _ _)); (try (refine bcB (n := w1.heap.size) hb ?_; intro h_w1_0 e_w1_0 d_w1_0 _ _))) | (go_at_call 33; refine (HM.out _).mono ?_; rintro e w' ⟨rfl, rfl⟩))
  go_ret
  refine ⟨rfl, ?_⟩
  exact belz
end
section
open Go.RowKit
def elLo (t : Int) : Int := (moonLo t - sunHi t) % 1000000000
def elHi (t : Int) : Int := elLo t + (moonHi t - sunLo t) - (moonLo t - sunHi t)
theorem el_contains (t n1 n2 : Int) (a1 : -8 ≤ n1) (a2 : n1 ≤ 8) (b1 : -8 ≤ n2) (b2 : n2 ≤ 8) :
    (((moonW t + 2500 * n1 * 1048576) % 1048576000000000 - (sunW t + 250 * n2 * 1048576) % 1048576000000000) % 1048576000000000 - 0 * 1048576 - elLo t * 1048576 + 8192) % 1048576000000000 ≤ (elHi t - elLo t - 2 * 0) * 1048576 + 16384 := by
  obtain ⟨-, -, h2, w2, -⟩ := sun_facts t
  have h1 : (moonW t - 20000 * 1048576 - moonLo t * 1048576 + 2000) % 1048576000000000 ≤ (moonHi t - moonLo t - 2 * 20000) * 1048576 + 4000 := ang_contains2 (inst := t) (sumOk_of moon_e) (by decide)
  obtain ⟨-, -, -, w1, -⟩ := moon_facts t
  have h := less_contains (W1 := moonW t) (W2 := sunW t) (lo1 := moonLo t) (lo2 := sunLo t) (w1 := moonHi t - moonLo t) (w2 := sunHi t - sunLo t) (s1 := 20000) (s2 := 2000) (e1 := 2500 * n1) (e2 := 250 * n2) h1 h2 (by omega) (by omega) (by omega) (by omega) (by omega) (by omega) (by omega) (by omega) (by omega) (by omega)
  have e1 : moonLo t - (sunLo t + (sunHi t - sunLo t)) = moonLo t - sunHi t := by omega
  have e2 : elHi t - elLo t = moonHi t - moonLo t + (sunHi t - sunLo t) := by unfold elHi; omega
  rw [e1] at h
  rw [e2]
  exact h
/-- A longitude of the moon, of the sun, with a part of the remainder. -/
def MLon (t m : Int) : Prop := ∃ n, -8 ≤ n ∧ n ≤ 8 ∧ m = (moonW t + 2500 * n * 1048576) % 1048576000000000
def SLon (t m : Int) : Prop := ∃ n, -8 ≤ n ∧ n ≤ 8 ∧ m = (sunW t + 250 * n * 1048576) % 1048576000000000
theorem MLon.bd {t m : Int} (h : MLon t m) : 0 ≤ m ∧ m < 1048576000000000 := by obtain ⟨n, -, -, rfl⟩ := h; omega
theorem SLon.bd {t m : Int} (h : SLon t m) : 0 ≤ m ∧ m < 1048576000000000 := by obtain ⟨n, -, -, rfl⟩ := h; omega
theorem c_MoonLonE (t n : Int) (w : World) (i1 : -400000000000000 ≤ t) (i2 : t ≤ 400000000000000) (n1 : -8 ≤ n) (n2 : n ≤ 8) :
    Calls Tryz.prog 26 #[.int .i64 t, .int .i64 n] w fun e w' => ∃ m, e = .returned (.int .i64 m) ∧ MLon t m ∧ Below w.heap.size w w' :=
  (c_MoonLon t n w i1 i2 n1 n2).mono fun e w' ⟨h1, h2⟩ => ⟨_, h1, ⟨n, n1, n2, rfl⟩, h2⟩
theorem c_SunLonE (t n : Int) (w : World) (i1 : -400000000000000 ≤ t) (i2 : t ≤ 400000000000000) (n1 : -8 ≤ n) (n2 : n ≤ 8) :
    Calls Tryz.prog 27 #[.int .i64 t, .int .i64 n] w fun e w' => ∃ m, e = .returned (.int .i64 m) ∧ SLon t m ∧ Below w.heap.size w w' :=
  (c_SunLon t n w i1 i2 n1 n2).mono fun e w' ⟨h1, h2⟩ => ⟨_, h1, ⟨n, n1, n2, rfl⟩, h2⟩
theorem c_Minus (al ah bl bh : Int) (w : World) (a1 : -2000000000 ≤ al) (a2 : al ≤ 2000000000) (a3 : -2000000000 ≤ ah) (a4 : ah ≤ 2000000000) (b1 : -2000000000 ≤ bl) (b2 : bl ≤ 2000000000) (b3 : -2000000000 ≤ bh) (b4 : bh ≤ 2000000000) :
    Calls Tryz.prog 63 #[.agg #[.int .i64 al, .int .i64 ah], .agg #[.int .i64 bl, .int .i64 bh]] w fun e w' => e = .returned (.agg #[.int .i64 (al - bh), .int .i64 (ah - bl)]) ∧ Below w.heap.size w w' := by
  have hgen := sgen; have hgen2 := sgen2; have hgen3 := sgen3; go_enter Tryz.func63, Tryz.ntmps63
  go_wp2
  refine bodyPost_ret (v := .agg #[.int .i64 (al - bh), .int .i64 (ah - bl)]) (by simp only [results, Tryz.results63]; go_simp) rfl ⟨rfl, ?_⟩
  exact belz
theorem c_Less (al ah bl bh : Int) (w : World) (a1 : -2000000000 ≤ al) (a2 : al ≤ 2000000000) (a3 : -2000000000 ≤ ah) (a4 : ah ≤ 2000000000) (b1 : -2000000000 ≤ bl) (b2 : bl ≤ 2000000000) (b3 : -2000000000 ≤ bh) (b4 : bh ≤ 2000000000) :
    Calls Tryz.prog 64 #[.agg #[.int .i64 al, .int .i64 ah], .agg #[.int .i64 bl, .int .i64 bh]] w fun e w' => e = .returned (.agg #[.int .i64 ((al - bh) % 1000000000), .int .i64 ((al - bh) % 1000000000 + (ah - bl) - (al - bh))]) ∧ Below w.heap.size w w' := by
  have HM := Lib.hid (fun w1 => c_Minus al ah bl bh w1 a1 a2 a3 a4 b1 b2 b3 b4)
  have HN := Lib.hid (fun w1 => c_Norm (al - bh) (ah - bl) w1 (by omega) (by omega) (by omega) (by omega))
  generalize al - bh = p at *
  generalize ah - bl = q at *
  generalize p % 1000000000 = m at *
  have hgen := sgen; have hgen2 := sgen2; have hgen3 := sgen3; go_enter Tryz.func64, Tryz.ntmps64
  go_wp2_with (first | (go_at_call 63; (refine (HM.out _).mono ?_); rintro e w1 ⟨rfl, hb⟩; have hz := hb.size; (try simp only [szA, szS, szD, szN] at hz); (try (refine bcB (n := w.heap.size) hb ?_; intro h_w_0 e_w_0 d_w_0 _ _)); (try (refine bcB (n := w.heap.size + 1) hb ?_; intro h_w_1 e_w_1 d_w_1 _ _)); (try (refine bcB (n := w.heap.size + 1 + 1) hb ?_; intro h_w_2 e_w_2 d_w_2 _ _))) | (go_at_call 84; (refine (HN.out _).mono ?_); rintro e w2 ⟨rfl, hb⟩; have hz := hb.size; (try simp only [szA, szS, szD, szN] at hz); (try (refine bcB (n := w.heap.size) hb ?_; intro h_w_0 e_w_0 d_w_0 _ _)); (try (refine bcB (n := w.heap.size + 1) hb ?_; intro h_w_1 e_w_1 d_w_1 _ _)); (try (refine bcB (n := w.heap.size + 1 + 1) hb ?_; intro h_w_2 e_w_2 d_w_2 _ _)); (try (refine bcB (n := w1.heap.size) hb ?_; intro h_w1_0 e_w1_0 d_w1_0 _ _))))
  refine bodyPost_ret (v := .agg #[.int .i64 m, .int .i64 (m + q - p)]) (by simp only [results, Tryz.results64]; go_simp) rfl ⟨rfl, ?_⟩
  exact belz
theorem c_Elongation (t : Int) (w : World) (hT : Tab w) (ht : instB t = true) :
    Calls Tryz.prog 98 #[.int .i64 t] w fun e w' => e = .returned (.tuple #[.agg #[.int .i64 (elLo t), .int .i64 (elHi t)], .int .i64 0]) ∧ Below w.heap.size w w' := by
  obtain ⟨p1, p2, -, p3, -, -, p6⟩ := moon_facts t
  obtain ⟨q1, q2, -, q3, -, -, q6⟩ := sun_facts t
  have HA := Lib.hid (fun w1 (h : Tab w1) => c_Longitude t w1 h ht)
  have HB := Lib.hid (fun w1 (h : Tab w1) => c_sunLongitude t w1 h ht)
  have HL := Lib.hid (fun w1 => c_Less (moonLo t) (moonHi t) (sunLo t) (sunHi t) w1 (by omega) (by omega) (by omega) (by omega) (by omega) (by omega) (by omega) (by omega))
  have e1 : (moonLo t - sunHi t) % 1000000000 = elLo t := rfl
  have e2 : (moonLo t - sunHi t) % 1000000000 + (moonHi t - sunLo t) - (moonLo t - sunHi t) = elHi t := rfl
  rw [e2, e1] at HL
  have HT := Lib.hid hT
  clear hT ht e1 e2 p1 p2 p3 p6 q1 q2 q3 q6
  generalize elLo t = lo at *
  generalize elHi t = hi at *
  generalize moonLo t = a1 at *
  generalize moonHi t = a2 at *
  generalize sunLo t = b1 at *
  generalize sunHi t = b2 at *
  have hgen := sgen; have hgen2 := sgen2; have hgen3 := sgen3; go_enter Tryz.func98, Tryz.ntmps98
  go_wp2_with (first | (go_at_call 48; (refine (HA.out _ (HT.out.below (by exact belz))).mono ?_); rintro e w1 ⟨rfl, hb⟩; have hz := hb.size; (try simp only [szA, szS, szD, szN] at hz); (try (refine bcB (n := w.heap.size) hb ?_; intro h_w_0 e_w_0 d_w_0 _ _)); (try (refine bcB (n := w.heap.size + 1) hb ?_; intro h_w_1 e_w_1 d_w_1 _ _))) | (go_at_call 46; (refine (HB.out _ (HT.out.below (by exact belz))).mono ?_); rintro e w2 ⟨rfl, hb⟩; have hz := hb.size; (try simp only [szA, szS, szD, szN] at hz); (try (refine bcB (n := w.heap.size) hb ?_; intro h_w_0 e_w_0 d_w_0 _ _)); (try (refine bcB (n := w.heap.size + 1) hb ?_; intro h_w_1 e_w_1 d_w_1 _ _)); (try (refine bcB (n := w1.heap.size) hb ?_; intro h_w1_0 e_w1_0 d_w1_0 _ _))) | (go_at_call 64; (refine (HL.out _).mono ?_); rintro e w3 ⟨rfl, hb⟩; have hz := hb.size; (try simp only [szA, szS, szD, szN] at hz); (try (refine bcB (n := w.heap.size) hb ?_; intro h_w_0 e_w_0 d_w_0 _ _)); (try (refine bcB (n := w.heap.size + 1) hb ?_; intro h_w_1 e_w_1 d_w_1 _ _)); (try (refine bcB (n := w1.heap.size) hb ?_; intro h_w1_0 e_w1_0 d_w1_0 _ _)); (try (refine bcB (n := w2.heap.size) hb ?_; intro h_w2_0 e_w2_0 d_w2_0 _ _))))
  refine bodyPost_ret (v := .tuple #[.agg #[.int .i64 lo, .int .i64 hi], .int .i64 0]) (by simp only [results, Tryz.results98]; go_simp) rfl ⟨rfl, ?_⟩
  exact belz
theorem c_ElongationT (t : Int) (w : World) (ht : instB t = false) (t1 : -9223372036854775808 ≤ t) (t2 : t ≤ 9223372036854775807) :
    Calls Tryz.prog 98 #[.int .i64 t] w fun e w' => e = .returned (.tuple #[.agg #[.int .i64 0, .int .i64 0], .int .i64 3]) ∧ Below w.heap.size w w' := by
  have HA := Lib.hid (fun w1 => c_LongitudeT t w1 ht t1 t2)
  clear ht
  have hgen := sgen; have hgen2 := sgen2; have hgen3 := sgen3; go_enter Tryz.func98, Tryz.ntmps98
  go_wp2_with (go_at_call 48; (refine (HA.out _).mono ?_); rintro e w1 ⟨rfl, hb⟩; have hz := hb.size; (try simp only [szA, szS, szD, szN] at hz); (try (refine bcB (n := w.heap.size) hb ?_; intro h_w_0 e_w_0 d_w_0 _ _)); (try (refine bcB (n := w.heap.size + 1) hb ?_; intro h_w_1 e_w_1 d_w_1 _ _)))
  refine bodyPost_ret (v := .tuple #[.agg #[.int .i64 0, .int .i64 0], .int .i64 3]) (by simp only [results, Tryz.results98]; go_simp) rfl ⟨rfl, ?_⟩
  exact belz
end
end Go.Proofs.YtcgnhnmigmdalaaGreatDoor
