/- Contracts of the reference's argument and Equator. Contracts of the reference's Body; the walk through the law SunAts. The moon's conversion to the equator: numbers. No program in sight. The walk through the law MoonLongitudes. Contracts of moon.At; the walk through the law MoonAts. -/
import Derived.Test.YtcgnhnmigmdalaaGreatDoorSmA
import Derived.Test.YtcgnhnmigmdalaaGreatDoorEqB
import Derived.Test.YtcgnhnmigmdalaaGreatDoorSnA
set_option linter.unusedVariables false
set_option linter.unusedSimpArgs false
namespace Go.Proofs.YtcgnhnmigmdalaaGreatDoor
section
open Go.RowKit
theorem and20 {x : Int} (h₀ : 0 ≤ x) (h₁ : x < 9223372036854775808) : bits .and .i64 x 1048575 = x % 1048576 := bits_mask .i64 63 (by decide) wraps_i64 20 (by decide) x h₀ h₁
theorem c_argument (v : Int) (w : World) (v1 : -4000000000000000000 ≤ v) (v2 : v ≤ 4000000000000000000) :
    Calls Tryz.prog 70 #[.int .i64 v] w fun e w' => e = .returned (.int .i64 (argU v)) ∧ w = w' := by
  have HM := Lib.hid (fun w1 => c_rMod v 1048576000000000 w1 (by omega) (by omega) (by omega) (by omega))
  have HE : Hid (argU v = v % 1048576000000000 / 1048576 * 1000000 + v % 1048576000000000 % 1048576 * 1000000 / 1048576) := Lib.hid rfl
  have m0 := Int.emod_nonneg v (show (1048576000000000 : Int) ≠ 0 by omega)
  have m1 := Int.emod_lt_of_pos v (show (0 : Int) < 1048576000000000 by omega)
  generalize v % 1048576000000000 = m at *
  have ha := and20 m0 (by omega)
  have hgen := sgen; have hgen2 := sgen2; have hgen3 := sgen3; go_enter Tryz.func70, Tryz.ntmps70
  go_wp2_with (go_at_call 33; refine (HM.out _).mono ?_; rintro e w' ⟨rfl, rfl⟩)
  go_ret
  exact ⟨ret_int (by rw [HE.out]), rfl⟩
theorem sc_bds (a : Int) (h0 : 0 ≤ a) (h1 : a < 1000000000000000) : -1160000000000000000 ≤ (sc a).1 ∧ (sc a).1 ≤ 1160000000000000000 ∧ -1160000000000000000 ≤ (sc a).2 ∧ (sc a).2 ≤ 1160000000000000000 := by
  obtain ⟨s, c⟩ := sc_zA h0 h1
  obtain ⟨z0, z1⟩ := zA_bd h0 h1
  obtain ⟨n1, n2⟩ := sc_one z0 z1
  have a1 := fine_bd (n := (sc a).1) (x := S (tq * zA a)) (by grind) (by grind)
  have a2 := fine_bd (n := (sc a).2) (x := C (tq * zA a)) (by grind) (by grind)
  exact ⟨a1.2.1, a1.2.2, a2.2.1, a2.2.2⟩
theorem fm_bds {a b : Int} (a1 : -1170000000000000000 ≤ a) (a2 : a ≤ 1170000000000000000) (b1 : -1160000000000000000 ≤ b) (b2 : b ≤ 1160000000000000000) : -1190000000000000000 ≤ fm a b ∧ fm a b ≤ 1190000000000000000 :=
  fm_le (a := a) (b := b) (A := 1170000000000000000) (B := 1160000000000000000) (by omega) (by omega) (by omega) (by omega) 1190000000000000000 (by decide)
set_option maxRecDepth 100000 in
theorem c_rEquator (lon lat : Int) (w : World) (l1 : -4000000000000000000 ≤ lon) (l2 : lon ≤ 4000000000000000000) (b1 : -4000000000000000000 ≤ lat) (b2 : lat ≤ 4000000000000000000) :
    Calls Tryz.prog 32 #[.int .i64 lon, .int .i64 lat] w fun e w' => e = .returned (.agg #[.int .i64 (dirX lon lat), .int .i64 (dirY lon lat), .int .i64 (dirZ lon lat)]) ∧ Below w.heap.size w w' := by
  have HA1 := Lib.hid (fun w1 => c_argument lon w1 l1 l2)
  have HA2 := Lib.hid (fun w1 => c_argument lat w1 b1 b2)
  obtain ⟨p0, p1⟩ := argU_bd lon
  obtain ⟨q0, q1⟩ := argU_bd lat
  have HX : Hid (dirX lon lat = fm (sc (argU lat)).2 (sc (argU lon)).2) := Lib.hid rfl
  have HY : Hid (dirY lon lat = fm (fm (sc (argU lat)).2 (sc (argU lon)).1) (sc tiltA).2 - fm (sc (argU lat)).1 (sc tiltA).1) := Lib.hid rfl
  have HZ : Hid (dirZ lon lat = fm (fm (sc (argU lat)).2 (sc (argU lon)).1) (sc tiltA).1 + fm (sc (argU lat)).1 (sc tiltA).2) := Lib.hid rfl
  generalize argU lon = al at *
  generalize argU lat = ab at *
  have hs1 := fun w1 => c_SinCos al w1 (by omega) (by omega)
  have hs2 := fun w1 => c_SinCos ab w1 (by omega) (by omega)
  have hs3 := fun w1 => c_SinCos 65109000000000 w1 (by omega) (by omega)
  rw [Int.emod_eq_of_lt p0 p1] at hs1
  rw [Int.emod_eq_of_lt q0 q1] at hs2
  have e3 : (65109000000000 : Int) % 1000000000000000 = tiltA := rfl
  rw [e3] at hs3
  obtain ⟨sl1, sl2, cl1, cl2⟩ := sc_bds al p0 p1
  obtain ⟨sb1, sb2, cb1, cb2⟩ := sc_bds ab q0 q1
  obtain ⟨se1, se2, ce1, ce2⟩ := sc_bds tiltA (by decide) (by decide)
  have HS1 := Lib.hid hs1
  have HS2 := Lib.hid hs2
  have HS3 := Lib.hid hs3
  clear hs1 hs2 hs3
  generalize (sc al).1 = sl at *
  generalize (sc al).2 = cl at *
  generalize (sc ab).1 = sb at *
  generalize (sc ab).2 = cb at *
  generalize (sc tiltA).1 = se at *
  generalize (sc tiltA).2 = ce at *
  have f1 := fm_bds (a := cb) (b := cl) (by omega) (by omega) (by omega) (by omega)
  have f2 := fm_le (a := cb) (b := sl) (A := 1160000000000000000) (B := 1160000000000000000) (by omega) (by omega) (by omega) (by omega) 1170000000000000000 (by decide)
  have f3 := fm_bds (a := fm cb sl) (b := ce) (by omega) (by omega) (by omega) (by omega)
  have f4 := fm_bds (a := fm cb sl) (b := se) (by omega) (by omega) (by omega) (by omega)
  have f5 := fm_bds (a := sb) (b := se) (by omega) (by omega) (by omega) (by omega)
  have f6 := fm_bds (a := sb) (b := ce) (by omega) (by omega) (by omega) (by omega)
  have hgen := sgen; have hgen2 := sgen2; have hgen3 := sgen3; go_enter Tryz.func32, Tryz.ntmps32
  go_wp2_with (first | (go_at_call 70; (with_reducible refine (HA1.out _).mono ?_); rintro e w' ⟨rfl, rfl⟩) | (go_at_call 70; (with_reducible refine (HA2.out _).mono ?_); rintro e w' ⟨rfl, rfl⟩) | (go_at_call 34; (with_reducible refine (HS1.out _).mono ?_); rintro e w' ⟨rfl, rfl⟩) | (go_at_call 34; (with_reducible refine (HS2.out _).mono ?_); rintro e w' ⟨rfl, rfl⟩) | (go_at_call 34; (with_reducible refine (HS3.out _).mono ?_); rintro e w' ⟨rfl, rfl⟩) | (go_at_call 31; (with_reducible refine (c_fMul _ _ _ (by omega) (by omega) (by omega) (by omega)).mono ?_); rintro e w' ⟨rfl, rfl⟩))
  refine bodyPost_ret (v := .agg #[.int .i64 (fm cb cl), .int .i64 (fm (fm cb sl) ce - fm sb se), .int .i64 (fm (fm cb sl) se + fm sb ce)]) (by simp only [results, Tryz.results32]; go_simp) rfl ⟨by rw [HX.out, HY.out, HZ.out], ?_⟩
  exact belz
end
section
open Go.RowKit
/-- A latitude of the moon with a part of the remainder. -/
def BLat (t v : Int) : Prop := ∃ n, -8 ≤ n ∧ n ≤ 8 ∧ v = northV t + 2500 * n * 1048576
theorem BLat.bd {t v : Int} (h : BLat t v) : -60000000000000000 ≤ v ∧ v ≤ 60000000000000000 := by
  obtain ⟨n, h1, h2, rfl⟩ := h
  obtain ⟨-, -, -, h4, h5⟩ := north_facts t
  omega
end
section
open Ieee
end
section
open Go.RowKit
end
section
open Go.RowKit
end
end Go.Proofs.YtcgnhnmigmdalaaGreatDoor
