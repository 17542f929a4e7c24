/- Contracts of the reference's argument and Equator. Contracts of the reference's Body; the walk through the law SunAts. The moon's conversion to the equator: numbers. No program in sight. The walk through the law MoonLongitudes. Contracts of moon.At; the walk through the law MoonAts. -/
import Derived.Test.YtcgnhnmigmdalaaGreatDoorSmA
import Derived.Test.YtcgnhnmigmdalaaGreatDoorEqB
import Derived.Test.YtcgnhnmigmdalaaGreatDoorSnA
set_option linter.unusedVariables false
set_option linter.unusedSimpArgs false
namespace Go.Proofs.YtcgnhnmigmdalaaGreatDoor
section
open Go.RowKit
theorem and20 {x : Int} (h₀ : 0 ≤ x) (h₁ : x < 9223372036854775808) : bits .and .i64 x 1048575 = x % 1048576 := bits_mask .i64 63 (by decide) wraps_i64 20 (by decide) x h₀ h₁
theorem c_argument (v : Int) (w : World) (v1 : -4000000000000000000 ≤ v) (v2 : v ≤ 4000000000000000000) :
    Calls Tryz.prog 70 #[.int .i64 v] w fun e w' => e = .returned (.int .i64 (argU v)) ∧ w = w' := by
  have HM := Lib.hid (fun w1 => c_rMod v 1048576000000000 w1 (by omega) (by omega) (by omega) (by omega))
  have HE : Hid (argU v = v % 1048576000000000 / 1048576 * 1000000 + v % 1048576000000000 % 1048576 * 1000000 / 1048576) := Lib.hid rfl
  have m0 := Int.emod_nonneg v (show (1048576000000000 : Int) ≠ 0 by omega)
  have m1 := Int.emod_lt_of_pos v (show (0 : Int) < 1048576000000000 by omega)
  generalize v % 1048576000000000 = m at *
  have ha := and20 m0 (by omega)
  have hgen := sgen; have hgen2 := sgen2; have hgen3 := sgen3; go_enter Tryz.func70, Tryz.ntmps70
  go_wp2_with (go_at_call 33; refine (HM.out _).mono ?_; rintro e w' ⟨rfl, rfl⟩)
  go_ret
  exact ⟨ret_int (by rw [HE.out]), rfl⟩
theorem sc_bds (a : Int) (h0 : 0 ≤ a) (h1 : a < 1000000000000000) : -1160000000000000000 ≤ (sc a).1 ∧ (sc a).1 ≤ 1160000000000000000 ∧ -1160000000000000000 ≤ (sc a).2 ∧ (sc a).2 ≤ 1160000000000000000 := by
  obtain ⟨s, c⟩ := sc_zA h0 h1
  obtain ⟨z0, z1⟩ := zA_bd h0 h1
  obtain ⟨n1, n2⟩ := sc_one z0 z1
  have a1 := fine_bd (n := (sc a).1) (x := S (tq * zA a)) (by grind) (by grind)
  have a2 := fine_bd (n := (sc a).2) (x := C (tq * zA a)) (by grind) (by grind)
  exact ⟨a1.2.1, a1.2.2, a2.2.1, a2.2.2⟩
theorem fm_bds {a b : Int} (a1 : -1170000000000000000 ≤ a) (a2 : a ≤ 1170000000000000000) (b1 : -1160000000000000000 ≤ b) (b2 : b ≤ 1160000000000000000) : -1190000000000000000 ≤ fm a b ∧ fm a b ≤ 1190000000000000000 :=
  fm_le (a := a) (b := b) (A := 1170000000000000000) (B := 1160000000000000000) (by omega) (by omega) (by omega) (by omega) 1190000000000000000 (by decide)
set_option maxRecDepth 100000 in
theorem c_rEquator (lon lat : Int) (w : World) (l1 : -4000000000000000000 ≤ lon) (l2 : lon ≤ 4000000000000000000) (b1 : -4000000000000000000 ≤ lat) (b2 : lat ≤ 4000000000000000000) :
    Calls Tryz.prog 32 #[.int .i64 lon, .int .i64 lat] w fun e w' => e = .returned (.agg #[.int .i64 (dirX lon lat), .int .i64 (dirY lon lat), .int .i64 (dirZ lon lat)]) ∧ Below w.heap.size w w' := by
  have HA1 := Lib.hid (fun w1 => c_argument lon w1 l1 l2)
  have HA2 := Lib.hid (fun w1 => c_argument lat w1 b1 b2)
  obtain ⟨p0, p1⟩ := argU_bd lon
  obtain ⟨q0, q1⟩ := argU_bd lat
  have HX : Hid (dirX lon lat = fm (sc (argU lat)).2 (sc (argU lon)).2) := Lib.hid rfl
  have HY : Hid (dirY lon lat = fm (fm (sc (argU lat)).2 (sc (argU lon)).1) (sc tiltA).2 - fm (sc (argU lat)).1 (sc tiltA).1) := Lib.hid rfl
  have HZ : Hid (dirZ lon lat = fm (fm (sc (argU lat)).2 (sc (argU lon)).1) (sc tiltA).1 + fm (sc (argU lat)).1 (sc tiltA).2) := Lib.hid rfl
  generalize argU lon = al at *
  generalize argU lat = ab at *
  have hs1 := fun w1 => c_SinCos al w1 (by omega) (by omega)
  have hs2 := fun w1 => c_SinCos ab w1 (by omega) (by omega)
  have hs3 := fun w1 => c_SinCos 65109000000000 w1 (by omega) (by omega)
  rw [Int.emod_eq_of_lt p0 p1] at hs1
  rw [Int.emod_eq_of_lt q0 q1] at hs2
  have e3 : (65109000000000 : Int) % 1000000000000000 = tiltA := rfl
  rw [e3] at hs3
  obtain ⟨sl1, sl2, cl1, cl2⟩ := sc_bds al p0 p1
  obtain ⟨sb1, sb2, cb1, cb2⟩ := sc_bds ab q0 q1
  obtain ⟨se1, se2, ce1, ce2⟩ := sc_bds tiltA (by decide) (by decide)
  have HS1 := Lib.hid hs1
  have HS2 := Lib.hid hs2
  have HS3 := Lib.hid hs3
  clear hs1 hs2 hs3
  generalize (sc al).1 = sl at *
  generalize (sc al).2 = cl at *
  generalize (sc ab).1 = sb at *
  generalize (sc ab).2 = cb at *
  generalize (sc tiltA).1 = se at *
  generalize (sc tiltA).2 = ce at *
  have f1 := fm_bds (a := cb) (b := cl) (by omega) (by omega) (by omega) (by omega)
  have f2 := fm_le (a := cb) (b := sl) (A := 1160000000000000000) (B := 1160000000000000000) (by omega) (by omega) (by omega) (by omega) 1170000000000000000 (by decide)
  have f3 := fm_bds (a := fm cb sl) (b := ce) (by omega) (by omega) (by omega) (by omega)
  have f4 := fm_bds (a := fm cb sl) (b := se) (by omega) (by omega) (by omega) (by omega)
  have f5 := fm_bds (a := sb) (b := se) (by omega) (by omega) (by omega) (by omega)
  have f6 := fm_bds (a := sb) (b := ce) (by omega) (by omega) (by omega) (by omega)
  have hgen := sgen; have hgen2 := sgen2; have hgen3 := sgen3; go_enter Tryz.func32, Tryz.ntmps32
  go_wp2_with (first | (go_at_call 70; (with_reducible refine (HA1.out _).mono ?_); rintro e w' ⟨rfl, rfl⟩) | (go_at_call 70; (with_reducible refine (HA2.out _).mono ?_); rintro e w' ⟨rfl, rfl⟩) | (go_at_call 34; (with_reducible refine (HS1.out _).mono ?_); rintro e w' ⟨rfl, rfl⟩) | (go_at_call 34; (with_reducible refine (HS2.out _).mono ?_); rintro e w' ⟨rfl, rfl⟩) | (go_at_call 34; (with_reducible refine (HS3.out _).mono ?_); rintro e w' ⟨rfl, rfl⟩) | (go_at_call 31; (with_reducible refine (c_fMul _ _ _ (by omega) (by omega) (by omega) (by omega)).mono ?_); rintro e w' ⟨rfl, rfl⟩))
  refine bodyPost_ret (v := .agg #[.int .i64 (fm cb cl), .int .i64 (fm (fm cb sl) ce - fm sb se), .int .i64 (fm (fm cb sl) se + fm sb ce)]) (by simp only [results, Tryz.results32]; go_simp) rfl ⟨by rw [HX.out, HY.out, HZ.out], ?_⟩
  exact belz
end
section
open Go.RowKit
/-- A latitude of the moon with a part of the remainder. -/
def BLat (t v : Int) : Prop := ∃ n, -8 ≤ n ∧ n ≤ 8 ∧ v = northV t + 2500 * n * 1048576
theorem c_MoonLatE (t n : Int) (w : World) (i1 : -400000000000000 ≤ t) (i2 : t ≤ 400000000000000) (n1 : -8 ≤ n) (n2 : n ≤ 8) :
    Calls Tryz.prog 28 #[.int .i64 t, .int .i64 n] w fun e w' => ∃ m, e = .returned (.int .i64 m) ∧ BLat t m ∧ Below w.heap.size w w' :=
  (c_MoonLat t n w i1 i2 n1 n2).mono fun e w' ⟨h1, h2⟩ => ⟨_, h1, ⟨n, n1, n2, rfl⟩, h2⟩
theorem BLat.bd {t v : Int} (h : BLat t v) : -60000000000000000 ≤ v ∧ v ≤ 60000000000000000 := by
  obtain ⟨n, h1, h2, rfl⟩ := h
  obtain ⟨-, -, -, h4, h5⟩ := north_facts t
  omega
/-- The sun's direction. -/
def SunD (t x y z : Int) : Prop := ∃ m, SLon t m ∧ x = dirX m 0 ∧ y = dirY m 0 ∧ z = dirZ m 0
def MoonD (t x y z : Int) : Prop := ∃ m v, MLon t m ∧ BLat t v ∧ x = dirX m v ∧ y = dirY m v ∧ z = dirZ m v
theorem c_Body0 (t n f : Int) (w : World) (i1 : -400000000000000 ≤ t) (i2 : t ≤ 400000000000000) (n1 : -8 ≤ n) (n2 : n ≤ 8) :
    Calls Tryz.prog 19 #[.int .i64 0, .int .i64 t, .int .i64 n, .int .i64 f] w fun e w' => ∃ x y z, e = .returned (.agg #[.int .i64 x, .int .i64 y, .int .i64 z]) ∧ SunD t x y z ∧ Below w.heap.size w w' := by
  have HS := Lib.hid (fun w1 => c_SunLonE t n w1 i1 i2 n1 n2)
  have HE : Hid (∀ w1 m, SLon t m → _) := Lib.hid (fun w1 m h => c_rEquator m 0 w1 (by have := h.bd; omega) (by have := h.bd; omega) (by have := h.bd; omega) (by have := h.bd; omega))
  have hgen := sgen; have hgen2 := sgen2; have hgen3 := sgen3; go_enter Tryz.func19, Tryz.ntmps19
  go_wp2_with (first | (go_at_call 27; (refine (HS.out _).mono ?_); rintro e w1 ⟨m, rfl, hm, hb⟩; have hz := hb.size; (try simp only [szA, szS, szD, szN] at hz); (try (refine bcB (n := w.heap.size) hb ?_; intro h_w_0 e_w_0 d_w_0 _ _))) | (go_at_call 32; (refine (HE.out _ _ hm).mono ?_); rintro e w2 ⟨rfl, hb⟩; have hz := hb.size; (try simp only [szA, szS, szD, szN] at hz); (try (refine bcB (n := w.heap.size) hb ?_; intro h_w_0 e_w_0 d_w_0 _ _)); (try (refine bcB (n := w1.heap.size) hb ?_; intro h_w1_0 e_w1_0 d_w1_0 _ _))))
  refine bodyPost_ret (v := .agg #[.int .i64 (dirX m 0), .int .i64 (dirY m 0), .int .i64 (dirZ m 0)]) (by simp only [results, Tryz.results19]; go_simp) rfl ⟨_, _, _, rfl, ⟨m, hm, rfl, rfl, rfl⟩, ?_⟩
  exact belz
theorem c_Body1 (t n f : Int) (w : World) (i1 : -400000000000000 ≤ t) (i2 : t ≤ 400000000000000) (n1 : -8 ≤ n) (n2 : n ≤ 8) (f1 : -8 ≤ f) (f2 : f ≤ 8) :
    Calls Tryz.prog 19 #[.int .i64 1, .int .i64 t, .int .i64 n, .int .i64 f] w fun e w' => ∃ x y z, e = .returned (.agg #[.int .i64 x, .int .i64 y, .int .i64 z]) ∧ MoonD t x y z ∧ Below w.heap.size w w' := by
  have HS := Lib.hid (fun w1 => c_MoonLonE t n w1 i1 i2 n1 n2)
  have HB := Lib.hid (fun w1 => c_MoonLatE t f w1 i1 i2 f1 f2)
  have HE : Hid (∀ w1 m v, MLon t m → BLat t v → _) := Lib.hid (fun w1 m v h h' => c_rEquator m v w1 (by have := h.bd; omega) (by have := h.bd; omega) (by have := h'.bd; omega) (by have := h'.bd; omega))
  have hgen := sgen; have hgen2 := sgen2; have hgen3 := sgen3; go_enter Tryz.func19, Tryz.ntmps19
  go_wp2_with (first | (go_at_call 26; (refine (HS.out _).mono ?_); rintro e w1 ⟨m, rfl, hm, hb⟩; have hz := hb.size; (try simp only [szA, szS, szD, szN] at hz); (try (refine bcB (n := w.heap.size) hb ?_; intro h_w_0 e_w_0 d_w_0 _ _))) | (go_at_call 28; (refine (HB.out _).mono ?_); rintro e w2 ⟨v, rfl, hv, hb⟩; have hz := hb.size; (try simp only [szA, szS, szD, szN] at hz); (try (refine bcB (n := w.heap.size) hb ?_; intro h_w_0 e_w_0 d_w_0 _ _)); (try (refine bcB (n := w1.heap.size) hb ?_; intro h_w1_0 e_w1_0 d_w1_0 _ _))) | (go_at_call 32; (refine (HE.out _ _ _ hm hv).mono ?_); rintro e w3 ⟨rfl, hb⟩; have hz := hb.size; (try simp only [szA, szS, szD, szN] at hz); (try (refine bcB (n := w.heap.size) hb ?_; intro h_w_0 e_w_0 d_w_0 _ _)); (try (refine bcB (n := w1.heap.size) hb ?_; intro h_w1_0 e_w1_0 d_w1_0 _ _)); (try (refine bcB (n := w2.heap.size) hb ?_; intro h_w2_0 e_w2_0 d_w2_0 _ _))))
  refine bodyPost_ret (v := .agg #[.int .i64 (dirX m v), .int .i64 (dirY m v), .int .i64 (dirZ m v)]) (by simp only [results, Tryz.results19]; go_simp) rfl ⟨_, _, _, rfl, ⟨m, v, hm, hv, rfl, rfl, rfl⟩, ?_⟩
  exact belz
/-- The parts of the sun's direction fit. -/
theorem sunD_bd {t x y z : Int} (h : SunD t x y z) : (-1160000000000000000 ≤ x ∧ x ≤ 1160000000000000000) ∧ (-1160000000000000000 ≤ y ∧ y ≤ 1160000000000000000) ∧ (-1160000000000000000 ≤ z ∧ z ≤ 1160000000000000000) := by
  obtain ⟨m, hm, rfl, rfl, rfl⟩ := h
  have n := eq_norm (sun_pt hm).l.1 (sun_pt hm).l.2 (sun_pt hm).b.1 (sun_pt hm).b.2 (s0 := 1/10000) (c0 := 99999/100000) (r0 := 917/1000) (by rw [zb_zero, sc_zero.1]; decide +kernel) (by decide +kernel) (by decide +kernel) (by decide +kernel) (by decide +kernel)
  have d := dir_ok m 0
  have dx := d.x
  have dy := d.y
  have dz := d.z
  exact ⟨(fine_bd (by grind) n.2.1).2, (fine_bd (by grind) n.2.2.1).2, (fine_bd (by grind) (show rabs (pZ (zA (argU m)) (zA (argU 0))) ≤ 1 + 1 / 1000000 by have := n.2.2.2; grind)).2⟩
end
section
open Ieee
theorem prt_small (a v : Int) (h1 : -1153000000000000000 ≤ v) (h2 : v ≤ 1153000000000000000) {A : Int} (ha : rabs (a : Rat) ≤ (A : Rat)) : prt a v ≤ A * 1048652 + 1 ∧ -(A * 1048652 + 1) ≤ prt a v := by
  obtain ⟨p1, p2⟩ := prt_near a v
  have hv := rabs_int h1 h2
  have m := rabs_le.1 (mul_rabs ha hv)
  have A0 := rabs_nonneg (a : Rat)
  have c : ((1153000000000000000 : Int) : Rat) = 1153000000000000000 := rfl
  rw [c] at m
  constructor
  · refine Rat.intCast_le_intCast.1 ?_
    push_cast
    grind
  · refine Rat.intCast_le_intCast.1 ?_
    push_cast
    grind
theorem refArg_sc (t : Tm) (i : Int) : -1153000000000000000 ≤ (sc (refArg t i % 1000000000000000)).1 ∧ (sc (refArg t i % 1000000000000000)).1 ≤ 1153000000000000000 := by
  have h0 := Int.emod_nonneg (refArg t i) (show (1000000000000000 : Int) ≠ 0 by decide)
  have h1 := Int.emod_lt_of_pos (refArg t i) (show (0 : Int) < 1000000000000000 by decide)
  have b := sc_bd h0 (by omega) 12 (by decide)
  exact ⟨b.1, b.2.1⟩
theorem north_small (t : Int) : -16564089629000 ≤ northV t ∧ northV t ≤ 16564089629000 := by
  have e : northV t = 0 * 1048576 + refTerm ⟨14244783, 648500531, 36748195111111⟩ t + refTerm ⟨779450, 747884547, 73039842194444⟩ t + refTerm ⟨771369, 450883485, -456548027778⟩ t := rfl
  have a1 := refArg_sc ⟨14244783, 648500531, 36748195111111⟩ t
  have a2 := refArg_sc ⟨779450, 747884547, 73039842194444⟩ t
  have a3 := refArg_sc ⟨771369, 450883485, -456548027778⟩ t
  have b1 := prt_small 14244783 _ a1.1 a1.2 (A := 14244783) (rabs_int (by decide) (by decide))
  have b2 := prt_small 779450 _ a2.1 a2.2 (A := 779450) (rabs_int (by decide) (by decide))
  have b3 := prt_small 771369 _ a3.1 a3.2 (A := 771369) (rabs_int (by decide) (by decide))
  have f1 : refTerm ⟨14244783, 648500531, 36748195111111⟩ t = prt 14244783 (sc (refArg ⟨14244783, 648500531, 36748195111111⟩ t % 1000000000000000)).1 := rfl
  have f2 : refTerm ⟨779450, 747884547, 73039842194444⟩ t = prt 779450 (sc (refArg ⟨779450, 747884547, 73039842194444⟩ t % 1000000000000000)).1 := rfl
  have f3 : refTerm ⟨771369, 450883485, -456548027778⟩ t = prt 771369 (sc (refArg ⟨771369, 450883485, -456548027778⟩ t % 1000000000000000)).1 := rfl
  rw [e, f1, f2, f3]
  generalize prt 14244783 _ = p1 at *
  generalize prt 779450 _ = p2 at *
  generalize prt 771369 _ = p3 at *
  omega
theorem blat_in {t v : Int} (h : BLat t v) : northLo t * 1048576 - 2000 ≤ v ∧ v ≤ northHi t * 1048576 + 2000 := by
  obtain ⟨n, h1, h2, rfl⟩ := h
  obtain ⟨a, b⟩ := val_contains2 (inst := t) (sumOk_of north_e) (by decide)
  have a : northLo t * 1048576 ≤ northV t - 20000 * 1048576 + 2000 := a
  have b : northV t + 20000 * 1048576 ≤ northHi t * 1048576 + 2000 := b
  omega
theorem north_rng (t : Int) : northLo t ≤ northHi t ∧ -15900000 ≤ northLo t ∧ northHi t ≤ 15900000 ∧ northHi t - northLo t ≤ 40002 := by
  obtain ⟨a, b⟩ := val_contains2 (inst := t) (sumOk_of north_e) (by decide)
  have a : northLo t * 1048576 ≤ northV t - 20000 * 1048576 + 2000 := a
  have b : northV t + 20000 * 1048576 ≤ northHi t * 1048576 + 2000 := b
  obtain ⟨-, -, w, -, -⟩ := north_facts t
  have s := north_small t
  omega
theorem mlon_in {t m : Int} (h : MLon t m) : (m - moonLo t * 1048576 + 2000) % 1048576000000000 ≤ (moonHi t - moonLo t) * 1048576 + 4000 := by
  obtain ⟨n, h1, h2, rfl⟩ := h
  have h : (moonW t - 20000 * 1048576 - moonLo t * 1048576 + 2000) % 1048576000000000 ≤ (moonHi t - moonLo t - 2 * 20000) * 1048576 + 4000 := ang_contains2 (inst := t) (sumOk_of moon_e) (by decide)
  obtain ⟨-, -, -, hw, -⟩ := moon_facts t
  have h0 : 0 ≤ (moonW t - 20000 * 1048576 - moonLo t * 1048576 + 2000) % 1048576000000000 := by omega
  generalize moonW t = W at *
  generalize moonLo t = lo at *
  generalize moonHi t = hi at *
  have e : ((W + 2500 * n * 1048576) % 1048576000000000 - lo * 1048576 + 2000) % 1048576000000000 = ((W - 20000 * 1048576 - lo * 1048576 + 2000) % 1048576000000000 + (20000 * 1048576 + 2500 * n * 1048576)) % 1048576000000000 := by omega
  rw [e]
  generalize (W - 20000 * 1048576 - lo * 1048576 + 2000) % 1048576000000000 = K at *
  have e2 : (K + (20000 * 1048576 + 2500 * n * 1048576)) % 1048576000000000 = K + (20000 * 1048576 + 2500 * n * 1048576) := Int.emod_eq_of_lt (by omega) (by omega)
  rw [e2]
  omega
theorem moon_pt {t m v : Int} (h : MLon t m) (h' : BLat t v) : Pt (moonLo t) (moonHi t) (northLo t) (northHi t) (zA (argU m)) (zA (argU v)) := by
  obtain ⟨-, -, -, -, -, -, h6⟩ := moon_facts t
  obtain ⟨a0, a1⟩ := argU_bd m
  obtain ⟨c0, c1⟩ := argU_bd v
  have b := blat_in h'
  exact ⟨h6, (north_rng t).1, zA_bd a0 a1, zA_bd c0 c1, kl_ang h.bd.1 h.bd.2 (mlon_in h), kl_val (by omega) (by omega)⟩
theorem blat_sin {t v : Int} (h : BLat t v) : rabs (S (tq * zA (argU v))) ≤ 994/10000 := by
  obtain ⟨n, h1, h2, rfl⟩ := h
  have s := north_small t
  generalize hv : northV t + 2500 * n * 1048576 = v
  have v1 : -16585065000000 ≤ v := by omega
  have v2 : v ≤ 16585065000000 := by omega
  obtain ⟨c0, c1⟩ := argU_bd v
  obtain ⟨z0, z1⟩ := zA_bd c0 c1
  obtain ⟨n1, n2⟩ := zA_near v
  have l1 := icast (show -16585065000000 ≤ v by omega)
  have l2 := icast (show v ≤ 16585065000000 by omega)
  have k1 : ((-16585065000000 : Int) : Rat) = -16585065000000 := rfl
  have k2 : ((16585065000000 : Int) : Rat) = 16585065000000 := rfl
  rw [k1] at l1
  rw [k2] at l2
  obtain ⟨j, hj, hj2⟩ : ∃ j : Int, v % 1048576000000000 = v + j * 1048576000000000 ∧ (j = 0 ∨ j = 1) := by
    by_cases q : 0 ≤ v
    · exact ⟨0, by omega, .inl rfl⟩
    · exact ⟨1, by omega, .inr rfl⟩
  have ej : ((v % 1048576000000000 : Int) : Rat) = (v : Rat) + (j : Rat) * 1048576000000000 := by rw [hj]; push_cast; rfl
  rw [ej] at n1 n2
  have yb : rabs (zA (argU v) - (j : Rat) * 1000000000) ≤ 15816800 := by
    rw [rabs_le]
    constructor <;> grind
  have l := rabs_le.1 (sin_lat (z := zA (argU v)) (y := zA (argU v) - (j : Rat) * 1000000000) (j := j) z0 z1 (Rat.le_trans yb (by decide +kernel)) (by grind))
  obtain ⟨t1, t2, -⟩ := tq_num
  have m := mul_rabs (show rabs tq ≤ 628319 / 100000000000000 from rabs_le.2 ⟨by grind, by grind⟩) yb
  have sm := S_small1 (x := tq * (zA (argU v) - (j : Rat) * 1000000000)) (Rat.le_trans m (by decide +kernel))
  have sm2 := rabs_le.1 (Rat.le_trans sm m)
  have fin : (628319 / 100000000000000 * 15816800 : Rat) ≤ 9939/100000 := by decide +kernel
  exact rabs_le.2 ⟨by grind, by grind⟩
theorem moon_norm {t m v : Int} (h : MLon t m) (h' : BLat t v) : (8732/10000 : Rat) * (8732/10000) - 1 / 1000000000 ≤ pX (zA (argU m)) (zA (argU v)) * pX (zA (argU m)) (zA (argU v)) + pY (zA (argU m)) (zA (argU v)) * pY (zA (argU m)) (zA (argU v)) ∧ rabs (pX (zA (argU m)) (zA (argU v))) ≤ 1 + 1 / 1000000 ∧ rabs (pY (zA (argU m)) (zA (argU v))) ≤ 1 + 1 / 1000000 ∧ rabs (pZ (zA (argU m)) (zA (argU v))) ≤ 1 + 1 / 1000000000 := eq_norm (moon_pt h h').l.1 (moon_pt h h').l.2 (moon_pt h h').b.1 (moon_pt h h').b.2 (s0 := 994/10000) (c0 := 995/1000) (r0 := 8732/10000) (blat_sin h') (by decide +kernel) (by decide +kernel) (by decide +kernel) (by decide +kernel)
theorem moon_wd (t : Int) : 62832 / 10000 * ((moonHi t - moonLo t : Int) : Rat) + 225/100 ≤ 251350 ∧ 62832 / 10000 * ((northHi t - northLo t : Int) : Rat) + 225/100 ≤ 251350 := by
  obtain ⟨-, -, -, h4, -, -, -⟩ := moon_facts t
  obtain ⟨-, -, -, h5⟩ := north_rng t
  have a := icast h4
  have b := icast h5
  have c : ((40003 : Int) : Rat) = 40003 := rfl
  have c' : ((40002 : Int) : Rat) = 40002 := rfl
  rw [c] at a
  rw [c'] at b
  constructor <;> grind
theorem moon_box {t m v : Int} (h : MLon t m) (h' : BLat t v) : Box (eqY0 (moonLo t) (moonHi t) (northLo t) (northHi t)) (eqY1 (moonLo t) (moonHi t) (northLo t) (northHi t)) (eqX0 (moonLo t) (moonHi t) (northLo t) (northHi t)) (eqX1 (moonLo t) (moonHi t) (northLo t) (northHi t)) 871900000 (865/1000000) :=
  eq_box (moon_pt h h') (s0 := 994/10000) (c0 := 995/1000) (r0 := 8732/10000) (wl := 251350) (wb := 251350) (A := 502703) (B := 561225) (moon_wd t).1 (moon_wd t).2 (blat_sin h') (by decide +kernel) (by decide +kernel) (by decide +kernel) (by decide +kernel) (by decide +kernel) (by decide +kernel) (by decide +kernel) (by decide +kernel) (by decide +kernel) (by decide +kernel) (by decide +kernel) (by decide +kernel) (by decide +kernel)
theorem moon_sov (t : Int) : -100200000 ≤ sovLo (northLo t) (northHi t) ∧ sovHi (northLo t) (northHi t) ≤ 100200000 := by
  obtain ⟨o, a, b, w⟩ := north_rng t
  have ok := over_ok (northLo t) (northHi t) o
  have c1 := ok.c1 (northLo t) (Int.le_refl _) o
  have c2 := ok.c2 (northHi t) o (Int.le_refl _)
  have ww := ok.w
  have w' := (moon_wd t).2
  have sm : ∀ n : Int, -15900000 ≤ n → n ≤ 15900000 → siU n ≤ 9991/100000 ∧ -(9991/100000) ≤ siU n := by
    intro n n1 n2
    have s := rabs_le.1 (siU_tq (a := n) (by omega) (by omega))
    have rn := rabs_int (n := n) (B := 15900000) n1 n2
    have cc : ((15900000 : Int) : Rat) = 15900000 := rfl
    rw [cc] at rn
    obtain ⟨t1, t2, -⟩ := tq_num
    have m := mul_rabs (show rabs tq ≤ 628319 / 100000000000000 from rabs_le.2 ⟨by grind, by grind⟩) rn
    have ss := rabs_le.1 (Rat.le_trans (S_small1 (x := tq * (n : Rat)) (Rat.le_trans m (by decide +kernel))) m)
    have fin : (628319 / 100000000000000 * 15900000 : Rat) ≤ 99903/1000000 := by decide +kernel
    constructor <;> grind
  have s1 := sm (northLo t) a (by omega)
  have s2 := sm (northHi t) (by omega) b
  clear sm ok
  generalize sovLo (northLo t) (northHi t) = L at *
  generalize sovHi (northLo t) (northHi t) = H at *
  push_cast at ww w'
  constructor
  · refine Rat.intCast_le_intCast.1 ?_
    have k : ((-100200000 : Int) : Rat) = -100200000 := rfl
    rw [k]; grind
  · refine Rat.intCast_le_intCast.1 ?_
    have k : ((100200000 : Int) : Rat) = 100200000 := rfl
    rw [k]; grind
theorem moon_dec (t : Int) : asHi (eqZ1 (moonLo t) (moonHi t) (northLo t) (northHi t)) - asLo (eqZ0 (moonLo t) (moonHi t) (northLo t) (northHi t)) ≤ 200000 := by
  obtain ⟨-, -, -, -, -, -, h6⟩ := moon_facts t
  obtain ⟨o, -⟩ := north_rng t
  obtain ⟨s1, s2⟩ := moon_sov t
  have z := eqZ_small (l0 := moonLo t) (l1 := moonHi t) h6 o s1 s2 (by decide)
  have zo := (eqZ_bd (l0 := moonLo t) (l1 := moonHi t) h6 o).1
  obtain ⟨-, -, wZ⟩ := eq_widths (l0 := moonLo t) (l1 := moonHi t) (wl := 251350) (wb := 251350) h6 o (moon_wd t).1 (moon_wd t).2
  generalize eqZ0 (moonLo t) (moonHi t) (northLo t) (northHi t) = m at *
  generalize eqZ1 (moonLo t) (moonHi t) (northLo t) (northHi t) = n at *
  have b1 := rabs_int (n := m) (B := 498000000) (by omega) (by omega)
  have b2 := rabs_int (n := n) (B := 498000000) (by omega) (by omega)
  have cc : ((498000000 : Int) : Rat) = 1000000000 * (498/1000) := by decide +kernel
  rw [cc] at b1 b2
  have k := asin_wide (m := m) (n := n) (s := 498/1000) (c0 := 867/1000) zo (by omega) (by omega) b1 b2 (by decide +kernel) (by decide +kernel) (by decide +kernel)
  push_cast at k
  refine width_int (κ := 10348 / 10000000) ?_ (by decide +kernel)
  push_cast
  grind
theorem moonD_bd {t x y z : Int} (h : MoonD t x y z) : (-1160000000000000000 ≤ x ∧ x ≤ 1160000000000000000) ∧ (-1160000000000000000 ≤ y ∧ y ≤ 1160000000000000000) ∧ (-1160000000000000000 ≤ z ∧ z ≤ 1160000000000000000) := by
  obtain ⟨m, v, hm, hv, rfl, rfl, rfl⟩ := h
  have n := moon_norm hm hv
  have d := dir_ok m v
  have dx := d.x
  have dy := d.y
  have dz := d.z
  exact ⟨(fine_bd (by grind) n.2.1).2, (fine_bd (by grind) n.2.2.1).2, (fine_bd (by grind) (show rabs (pZ (zA (argU m)) (zA (argU v))) ≤ 1 + 1 / 1000000 by have := n.2.2.2; grind)).2⟩
theorem mlon_ex (t : Int) : ∃ m, MLon t m := ⟨_, 0, by decide, by decide, rfl⟩
theorem blat_ex (t : Int) : ∃ v, BLat t v := ⟨_, 0, by decide, by decide, rfl⟩
end
section
open Go.RowKit
end
section
open Go.RowKit
def mraLo (t : Int) : Int := raLo (moonLo t) (moonHi t) (northLo t) (northHi t) % 1000000000
def mraHi (t : Int) : Int := raLo (moonLo t) (moonHi t) (northLo t) (northHi t) % 1000000000 + raHi (moonLo t) (moonHi t) (northLo t) (northHi t) - raLo (moonLo t) (moonHi t) (northLo t) (northHi t)
def mdeLo (t : Int) : Int := asLo (eqZ0 (moonLo t) (moonHi t) (northLo t) (northHi t))
def mdeHi (t : Int) : Int := asHi (eqZ1 (moonLo t) (moonHi t) (northLo t) (northHi t))
/-- What is known of the moon's coordinates. -/
structure MoonR (t : Int) : Prop where
  ra0 : 0 ≤ mraLo t
  ra1 : mraLo t < 1000000000
  ra2 : mraLo t ≤ mraHi t
  ra3 : mraHi t - mraLo t ≤ 200000
  de0 : -250000000 ≤ mdeLo t
  de1 : mdeLo t ≤ mdeHi t
  de2 : mdeHi t ≤ 250000000
  de3 : mdeHi t - mdeLo t ≤ 200000
  ia : ∀ x y z, MoonD t x y z → InArcOk (mraLo t) (mraHi t % 1000000000) y x
  is : ∀ x y z, MoonD t x y z → InAsin (mdeLo t) (mdeHi t) z
theorem moon_all (t : Int) : MoonR t ∧ ∀ w, Tab w → Calls Tryz.prog 47 #[.agg #[.int .i64 (moonLo t), .int .i64 (moonHi t)], .agg #[.int .i64 (northLo t), .int .i64 (northHi t)]] w fun e w' => e = .returned (.tuple #[.agg #[.int .i64 (mraLo t), .int .i64 (mraHi t)], .agg #[.int .i64 (mdeLo t), .int .i64 (mdeHi t)], .int .i64 0]) ∧ Below w.heap.size w w' := by
  obtain ⟨f0, f1, -, f3, -, -, f6⟩ := moon_facts t
  obtain ⟨o, n1, n2, n3⟩ := north_rng t
  obtain ⟨m, hm⟩ := mlon_ex t
  obtain ⟨v, hv0⟩ := blat_ex t
  obtain ⟨⟨D0, E, L, H, hv⟩, ho, -, hc⟩ := c_Equator_all (l0 := moonLo t) (l1 := moonHi t) (b0 := northLo t) (b1 := northHi t) f6 (by omega) (by omega) o (by omega) (by omega) (moon_box hm hv0).off
  have hw : raHi (moonLo t) (moonHi t) (northLo t) (northHi t) - raLo (moonLo t) (moonHi t) (northLo t) (northHi t) ≤ 200000 := width_int (arc_wide (moon_box hm hv0) hv) (by decide +kernel)
  refine ⟨?_, hc (by omega)⟩
  have bz := eqZ_bd (l0 := moonLo t) (l1 := moonHi t) f6 o
  have ab := as_bounds (eqZ0 (moonLo t) (moonHi t) (northLo t) (northHi t))
  have ab2 := as_bounds (eqZ1 (moonLo t) (moonHi t) (northLo t) (northHi t))
  have m0 := Int.emod_nonneg (raLo (moonLo t) (moonHi t) (northLo t) (northHi t)) (show (1000000000 : Int) ≠ 0 by decide)
  have m1 := Int.emod_lt_of_pos (raLo (moonLo t) (moonHi t) (northLo t) (northHi t)) (show (0 : Int) < 1000000000 by decide)
  refine ⟨m0, m1, by unfold mraLo mraHi; omega, by unfold mraLo mraHi; omega, ab.1, as_order bz.1, ab2.2.2.2.1, moon_dec t, ?_, ?_⟩
  · rintro x y z ⟨m, v, hm, hv', rfl, rfl, rfl⟩
    have d := dir_ok m v
    have n := moon_norm hm hv'
    have dx := d.x
    have dy := d.y
    have h := eq_inArc (moon_pt hm hv') hv (by unfold raLo raHi at hw; omega) (u := dirY m v) (v := dirX m v) (by grind) (by grind) (fine_bd (by grind) n.2.2.1).1 (fine_bd (by grind) n.2.1).1
    have e : mraHi t % 1000000000 = raHi (moonLo t) (moonHi t) (northLo t) (northHi t) % 1000000000 := by unfold mraHi; omega
    rw [e]
    exact h
  · rintro x y z ⟨m, v, hm, hv', rfl, rfl, rfl⟩
    have d := dir_ok m v
    have n := moon_norm hm hv'
    have dz := d.z
    exact eq_inAsin (moon_pt hm hv') (by grind) n.2.2.2
theorem c_moonAt (t : Int) (w : World) (hT : Tab w) (ht : instB t = true) :
    Calls Tryz.prog 10 #[.int .i64 t] w fun e w' => e = .returned (.tuple #[.agg #[.int .i64 (mraLo t), .int .i64 (mraHi t)], .agg #[.int .i64 (mdeLo t), .int .i64 (mdeHi t)], .int .i64 0]) ∧ Below w.heap.size w w' := by
  have HE := Lib.hid (moon_all t).2
  have HL := Lib.hid (fun w1 (h : Tab w1) => c_Longitude t w1 h ht)
  have HB := Lib.hid (fun w1 (h : Tab w1) => c_Latitude t w1 h ht)
  have HT := Lib.hid hT
  clear hT ht
  generalize moonLo t = l0 at *
  generalize moonHi t = l1 at *
  generalize northLo t = b0 at *
  generalize northHi t = b1 at *
  generalize mraLo t = r0 at *
  generalize mraHi t = r1 at *
  generalize mdeLo t = d0 at *
  generalize mdeHi t = d1 at *
  have hgen := sgen; have hgen2 := sgen2; have hgen3 := sgen3; go_enter Tryz.func10, Tryz.ntmps10
  go_wp2_with (first | (go_at_call 48; (refine (HL.out _ (HT.out.below (by exact belz))).mono ?_); rintro e w1 ⟨rfl, hb⟩; have hz := hb.size; (try simp only [szA, szS, szD, szN] at hz); (try (refine bcB (n := w.heap.size) hb ?_; intro h_w_0 e_w_0 d_w_0 _ _)); (try (refine bcB (n := w.heap.size + 1) hb ?_; intro h_w_1 e_w_1 d_w_1 _ _))) | (go_at_call 49; (refine (HB.out _ (HT.out.below (by exact belz))).mono ?_); rintro e w2 ⟨rfl, hb⟩; have hz := hb.size; (try simp only [szA, szS, szD, szN] at hz); (try (refine bcB (n := w.heap.size) hb ?_; intro h_w_0 e_w_0 d_w_0 _ _)); (try (refine bcB (n := w.heap.size + 1) hb ?_; intro h_w_1 e_w_1 d_w_1 _ _)); (try (refine bcB (n := w1.heap.size) hb ?_; intro h_w1_0 e_w1_0 d_w1_0 _ _))) | (go_at_call 47; (refine (HE.out _ (HT.out.below (by exact belz))).mono ?_); rintro e w3 ⟨rfl, hb⟩; have hz := hb.size; (try simp only [szA, szS, szD, szN] at hz); (try (refine bcB (n := w.heap.size) hb ?_; intro h_w_0 e_w_0 d_w_0 _ _)); (try (refine bcB (n := w.heap.size + 1) hb ?_; intro h_w_1 e_w_1 d_w_1 _ _)); (try (refine bcB (n := w1.heap.size) hb ?_; intro h_w1_0 e_w1_0 d_w1_0 _ _)); (try (refine bcB (n := w2.heap.size) hb ?_; intro h_w2_0 e_w2_0 d_w2_0 _ _))))
  refine bodyPost_ret (v := .tuple #[.agg #[.int .i64 r0, .int .i64 r1], .agg #[.int .i64 d0, .int .i64 d1], .int .i64 0]) (by simp only [results, Tryz.results10]; go_simp) rfl ⟨rfl, ?_⟩
  exact belz
theorem c_moonAtT (t : Int) (w : World) (ht : instB t = false) (t1 : -9223372036854775808 ≤ t) (t2 : t ≤ 9223372036854775807) :
    Calls Tryz.prog 10 #[.int .i64 t] w fun e w' => e = .returned (.tuple #[.agg #[.int .i64 0, .int .i64 0], .agg #[.int .i64 0, .int .i64 0], .int .i64 3]) ∧ Below w.heap.size w w' := by
  have HL := Lib.hid (fun w1 => c_LongitudeT t w1 ht t1 t2)
  clear ht
  have hgen := sgen; have hgen2 := sgen2; have hgen3 := sgen3; go_enter Tryz.func10, Tryz.ntmps10
  go_wp2_with (go_at_call 48; (refine (HL.out _).mono ?_); rintro e w1 ⟨rfl, hb⟩; have hz := hb.size; (try simp only [szA, szS, szD, szN] at hz); (try (refine bcB (n := w.heap.size) hb ?_; intro h_w_0 e_w_0 d_w_0 _ _)); (try (refine bcB (n := w.heap.size + 1) hb ?_; intro h_w_1 e_w_1 d_w_1 _ _)))
  refine bodyPost_ret (v := .tuple #[.agg #[.int .i64 0, .int .i64 0], .agg #[.int .i64 0, .int .i64 0], .int .i64 3]) (by simp only [results, Tryz.results10]; go_simp) rfl ⟨rfl, ?_⟩
  exact belz
end
end Go.Proofs.YtcgnhnmigmdalaaGreatDoor
