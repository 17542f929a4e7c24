/- The contract of the reference's Above. -/
import Derived.Test.YtcgnhnmigmdalaaDoorWalkSid
import Derived.Test.YtcgnhnmigmdalaaDoorWalkDir
import Derived.Deep.DeepCutAuto
set_option linter.unusedVariables false
set_option linter.unusedSimpArgs false
namespace Go.Proofs.YtcgnhnmigmdalaaDoor
open Go.RowKit
/-- The reference's parts. -/
def abOut (θ x y : Int) : Int := fm (sc θ).2 x + fm (sc θ).1 y
def abSide (θ x y : Int) : Int := fm (sc θ).2 y - fm (sc θ).1 x
def latA (lat : Int) : Int := lat * 1000000 % 1000000000000000
def abUp (θ lat x y z : Int) : Int := fm (sc (latA lat)).1 z + fm (sc (latA lat)).2 (abOut θ x y)
def abNo (θ lat x y z : Int) : Int := fm (sc (latA lat)).2 z - fm (sc (latA lat)).1 (abOut θ x y)
theorem latA_bd (lat : Int) : 0 ≤ latA lat ∧ latA lat < 1000000000000000 := by unfold latA; omega
theorem fm_b1 {a b : Int} (a1 : -1160000000000000000 ≤ a) (a2 : a ≤ 1160000000000000000) (b1 : -1160000000000000000 ≤ b) (b2 : b ≤ 1160000000000000000) : -1170000000000000000 ≤ fm a b ∧ fm a b ≤ 1170000000000000000 :=
  fm_le (a := a) (b := b) (A := 1160000000000000000) (B := 1160000000000000000) (by omega) (by omega) (by omega) (by omega) 1170000000000000000 (by decide)
set_option maxRecDepth 100000 in
theorem c_rAbove (lon lat t x y z : Int) (w : World) (h1 : -500000000 ≤ lon) (h2 : lon ≤ 500000000) (l1 : -220000000 ≤ lat) (l2 : lat ≤ 220000000) (i1 : -400000000000000 ≤ t) (i2 : t ≤ 400000000000000)
    (x1 : -1160000000000000000 ≤ x) (x2 : x ≤ 1160000000000000000) (y1 : -1160000000000000000 ≤ y) (y2 : y ≤ 1160000000000000000) (z1 : -1160000000000000000 ≤ z) (z2 : z ≤ 1160000000000000000)
    (o1 : -1160000000000000000 ≤ abOut (refSid lon t) x y) (o2 : abOut (refSid lon t) x y ≤ 1160000000000000000) :
    Calls Tryd.prog 21 #[.agg #[.int .i64 lon, .int .i64 lat], .agg #[.int .i64 x, .int .i64 y, .int .i64 z], .int .i64 t] w fun e w' => e = .returned (.tuple #[.int .i64 (abUp (refSid lon t) lat x y z), .int .i64 (abSide (refSid lon t) x y), .int .i64 (abNo (refSid lon t) lat x y z)]) ∧ Below w.heap.size w w' := by
  have ok := sid_ok lon t
  have HS := Lib.hid (fun w1 => c_rSidereal lon lat t w1 h1 h2 i1 i2)
  have a0 := ok.a0
  have a1 := ok.a1
  clear ok
  have hs1 := fun w1 => c_SinCos (refSid lon t) w1 (by omega) (by omega)
  rw [Int.emod_eq_of_lt a0 a1] at hs1
  have hs2 := fun w1 => c_SinCos (lat * 1000000) w1 (by omega) (by omega)
  have e2 : lat * 1000000 % 1000000000000000 = latA lat := rfl
  rw [e2] at hs2
  clear e2
  have EU : Hid (abUp (refSid lon t) lat x y z = fm (sc (latA lat)).1 z + fm (sc (latA lat)).2 (abOut (refSid lon t) x y)) := Lib.hid rfl
  have EN : Hid (abNo (refSid lon t) lat x y z = fm (sc (latA lat)).2 z - fm (sc (latA lat)).1 (abOut (refSid lon t) x y)) := Lib.hid rfl
  have EO : Hid (abOut (refSid lon t) x y = fm (sc (refSid lon t)).2 x + fm (sc (refSid lon t)).1 y) := Lib.hid rfl
  have ES : Hid (abSide (refSid lon t) x y = fm (sc (refSid lon t)).2 y - fm (sc (refSid lon t)).1 x) := Lib.hid rfl
  rw [EU.out, EN.out, ES.out]
  rw [EO.out] at o1 o2 ⊢
  clear EU EN EO ES
  obtain ⟨b0, b1⟩ := latA_bd lat
  obtain ⟨t1, t2, t3, t4⟩ := sc_bds (refSid lon t) a0 a1
  obtain ⟨p1, p2, p3, p4⟩ := sc_bds (latA lat) b0 b1
  have HS1 := Lib.hid hs1
  have HS2 := Lib.hid hs2
  clear hs1 hs2 a0 a1 b0 b1
  generalize refSid lon t = θ at *
  generalize (sc θ).1 = st at *
  generalize (sc θ).2 = ct at *
  generalize (sc (latA lat)).1 = sp at *
  generalize (sc (latA lat)).2 = cp at *
  have f1 := fm_b1 (a := ct) (b := x) t3 t4 x1 x2
  have f2 := fm_b1 (a := st) (b := y) t1 t2 y1 y2
  have f3 := fm_b1 (a := ct) (b := y) t3 t4 y1 y2
  have f4 := fm_b1 (a := st) (b := x) t1 t2 x1 x2
  have f5 := fm_b1 (a := sp) (b := z) p1 p2 z1 z2
  have f6 := fm_b1 (a := cp) (b := z) p3 p4 z1 z2
  have f7 := fm_b1 (a := cp) (b := fm ct x + fm st y) p3 p4 o1 o2
  have f8 := fm_b1 (a := sp) (b := fm ct x + fm st y) p1 p2 o1 o2
  have v0 : IntKind.i64.wrap (lat * 1000000) = lat * 1000000 := IntWalk.i64_in _ (by omega)
  have v1 : IntKind.i64.wrap (fm ct x + fm st y) = fm ct x + fm st y := IntWalk.i64_in _ (by omega)
  have v2 : IntKind.i64.wrap (fm ct y - fm st x) = fm ct y - fm st x := IntWalk.i64_in _ (by omega)
  have v3 : IntKind.i64.wrap (fm sp z + fm cp (fm ct x + fm st y)) = fm sp z + fm cp (fm ct x + fm st y) := IntWalk.i64_in _ (by omega)
  have v4 : IntKind.i64.wrap (fm cp z - fm sp (fm ct x + fm st y)) = fm cp z - fm sp (fm ct x + fm st y) := IntWalk.i64_in _ (by omega)
  have hgen := sgen; have hgen2 := sgen2; have hgen3 := sgen3; go_enter Tryd.func21, Tryd.ntmps21
  go_upto_region 3 with (first | (go_at_call 49; (with_reducible refine (HS.out _).mono ?_); rintro e w1 ⟨rfl, hb⟩; have hz := hb.size; (try simp only [szA, szS, szD, szN] at hz); (try (refine bcB (n := w.heap.size) hb ?_; intro h_w_0 e_w_0 d_w_0 _ _)); (try (refine bcB (n := w.heap.size + 1) hb ?_; intro h_w_1 e_w_1 d_w_1 _ _))) | (go_at_call 46; (with_reducible refine (HS1.out _).mono ?_); rintro e w' ⟨rfl, rfl⟩) | (go_at_call 46; (with_reducible refine (HS2.out _).mono ?_); rintro e w' ⟨rfl, rfl⟩))
  go_quiet ((go_at_call 48; exact Calls.quiet_of_same ((c_fMul _ _ _ (by omega) (by omega) (by omega) (by omega)).mono (fun e w' ⟨h1, h2⟩ => ⟨h1, h2.symm⟩))))
  go_wp2_with fail
  go_quiet ((go_at_call 48; exact (c_fMul _ _ _ (by omega) (by omega) (by omega) (by omega)).mono (fun e w' ⟨h1, h2⟩ => ⟨h1, _, h2.symm⟩)))
  go_wp2_with fail
  refine bodyPost_ret (v := .tuple #[.int .i64 (fm sp z + fm cp (fm ct x + fm st y)), .int .i64 (fm ct y - fm st x), .int .i64 (fm cp z - fm sp (fm ct x + fm st y))]) (by simp only [results, Tryd.results21]; go_simp) rfl ⟨rfl, ?_⟩
  exact belz
end Go.Proofs.YtcgnhnmigmdalaaDoor
