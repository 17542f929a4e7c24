/- The walk through the law TopSums. -/
import Derived.Test.YtcnhjngmdgjjpaaDoorPlainTps
import Derived.Test.YtcnhjngmdgjjpaaDoorWalkTopS
import Derived.Deep.DeepCutAuto
import Derived.Deep.RegionHeld3
set_option linter.unusedVariables false
set_option linter.unusedSimpArgs false
namespace Go.Proofs.YtcnhjngmdgjjpaaDoor
open Go.RowKit
theorem c_tpsA (T : Int) (w : World) (hT : Tab w) (h : instB T = true) : Calls Tryd.prog 7 #[sumV 392048814 36601101305556 none 0 0 0, .int .i64 T] w fun e w' => e = .returned (.tuple #[.agg #[.int .i64 (angLo 392048814 36601101305556 [] 0 T), .int .i64 (angHi 392048814 36601101305556 [] 0 T)], .int .i64 0]) ∧ Below w.heap.size w w' :=
  c_Angle_ok 392048814 36601101305556 0 T none 0 [] w hT (Nat.le_refl _) (fun k h => absurd h (by simp)) tps_e.2.2 h
theorem tm_one {w : World} {b : Nat} {x y z : Int} (h : b < w.heap.size) (c0 : w.cell? ⟨b, 0, none⟩ = some (.int .i64 x)) (c1 : w.cell? ⟨b, 1, none⟩ = some (.int .i64 y)) (c2 : w.cell? ⟨b, 2, none⟩ = some (.int .i64 z)) : TmSlice w (some ⟨b, 0, none⟩) [⟨x, y, z⟩] := by
  intro k hk
  have : k = 0 := by simp at hk; omega
  subst this
  exact ⟨b, 0, rfl, h, by simpa using c0, by simpa using c1, by simpa using c2⟩
theorem c_tpsV (b : Nat) (T : Int) (w : World) (hT : Tab w) (h : instB T = true) (hb : b < w.heap.size) (c0 : w.cell? ⟨b, 0, none⟩ = some (.int .i64 17468817)) (c1 : w.cell? ⟨b, 1, none⟩ = some (.int .i64 99384016)) (c2 : w.cell? ⟨b, 2, none⟩ = some (.int .i64 36291647083333)) :
    Calls Tryd.prog 8 #[sumV 0 0 (some ⟨b, 0, none⟩) 1 1 0, .int .i64 T] w fun e w' => e = .returned (.tuple #[.agg #[.int .i64 (valLo 0 [tpT1] 0 T), .int .i64 (valHi 0 [tpT1] 0 T)], .int .i64 0]) ∧ Below w.heap.size w w' :=
  c_Value_ok 0 0 0 T (some ⟨b, 0, none⟩) 1 [tpT1] w hT (by decide) (tm_one hb c0 c1 c2) tps_e.1 h
theorem c_tpsW (b : Nat) (T : Int) (w : World) (hT : Tab w) (h : instB T = true) (hb : b < w.heap.size) (c0 : w.cell? ⟨b, 0, none⟩ = some (.int .i64 3538964)) (c1 : w.cell? ⟨b, 1, none⟩ = some (.int .i64 134030564)) (c2 : w.cell? ⟨b, 2, none⟩ = some (.int .i64 31434736861111)) :
    Calls Tryd.prog 8 #[sumV 0 0 (some ⟨b, 0, none⟩) 1 1 0, .int .i64 T] w fun e w' => e = .returned (.tuple #[.agg #[.int .i64 (valLo 0 [tpT2] 0 T), .int .i64 (valHi 0 [tpT2] 0 T)], .int .i64 0]) ∧ Below w.heap.size w w' :=
  c_Value_ok 0 0 0 T (some ⟨b, 0, none⟩) 1 [tpT2] w hT (by decide) (tm_one hb c0 c1 c2) tps_e.2.1 h
set_option maxRecDepth 100000 in
set_option maxHeartbeats 4000000 in
theorem walk_TopSums (a k : Int) (w : World) (hT : Tab w) (ha : -9223372036854775808 ≤ a ∧ a ≤ 9223372036854775807) :
    Calls Tryd.prog 3 #[.int .i64 a, .int .i64 k] w fun e w' => e = .returned (.bool true) ∧ Below w.heap.size w w' := by
  have HI := Lib.hid (fun w1 => c_sInstant a w1 ha.1 ha.2)
  have t0 : -302400000000000 ≤ a % 604800000000000 - 302400000000000 := by omega
  have t1 : a % 604800000000000 - 302400000000000 < 302400000000000 := by omega
  generalize a % 604800000000000 - 302400000000000 = T at *
  have ht : instB T = true := inst_of (by omega) (by omega)
  have HL := Lib.hid (fun w1 (h : Tab w1) => c_Longitude T w1 h ht)
  have HA := Lib.hid (fun w1 (h : Tab w1) => c_tpsA T w1 h ht)
  have HV := Lib.hid (fun b w1 (h : Tab w1) => c_tpsV b T w1 h ht)
  have HW := Lib.hid (fun b w1 (h : Tab w1) => c_tpsW b T w1 h ht)
  obtain ⟨d1, d2⟩ := tps_law T
  obtain ⟨⟨b1, b2⟩, b3, b4⟩ := tps_bd T
  have m0 : 0 ≤ moonLo T := (moon_facts T).1
  have m1 : moonLo T < 1000000000 := (moon_facts T).2.1
  have n0 : 0 ≤ angLo 392048814 36601101305556 [] 0 T := by unfold angLo; exact Int.emod_nonneg _ (by omega)
  have n1 : angLo 392048814 36601101305556 [] 0 T < 1000000000 := by unfold angLo; exact Int.emod_lt_of_pos _ (by omega)
  rw [show angLo 392048814 36601101305556 moonL 20000 T = moonLo T from rfl] at d1 d2
  generalize moonLo T = lo at *
  generalize moonHi T = hi at *
  generalize angLo 392048814 36601101305556 [] 0 T = al at *
  generalize angHi 392048814 36601101305556 [] 0 T = ah at *
  generalize valLo 0 [tpT1] 0 T = v1 at *
  generalize valHi 0 [tpT1] 0 T = v2 at *
  generalize valLo 0 [tpT2] 0 T = u1 at *
  generalize valHi 0 [tpT2] 0 T = u2 at *
  have HD := Lib.hid (fun w1 => c_sAt (lo - al - v1 - u1 + 500000000) 1000000000 w1 (by omega) (by omega) (by omega) (by omega))
  have x0 := Int.emod_nonneg (lo - al - v1 - u1 + 500000000) (show (1000000000 : Int) ≠ 0 by omega)
  have x1 := Int.emod_lt_of_pos (lo - al - v1 - u1 + 500000000) (show (0 : Int) < 1000000000 by omega)
  generalize (lo - al - v1 - u1 + 500000000) % 1000000000 = x at *
  have e1 : IntKind.i64.wrap (lo - al) = lo - al := IntWalk.i64_in _ (by omega)
  have e2 : IntKind.i64.wrap (lo - al - v1) = lo - al - v1 := IntWalk.i64_in _ (by omega)
  have e3 : IntKind.i64.wrap (lo - al - v1 - u1) = lo - al - v1 - u1 := IntWalk.i64_in _ (by omega)
  have e4 : IntKind.i64.wrap (lo - al - v1 - u1 + 500000000) = lo - al - v1 - u1 + 500000000 := IntWalk.i64_in _ (by omega)
  have e5 : IntKind.i64.wrap (x - 500000000) = x - 500000000 := IntWalk.i64_in _ (by omega)
  have f1 : decide (-3400000 < x - 500000000) = true := decide_eq_true d1
  have f2 : decide (x - 500000000 < 3400000) = true := decide_eq_true d2
  have HT := Lib.hid hT
  clear hT ht d1 d2 b1 b2 b3 b4 m0 m1 n0 n1 x0 x1 t0 t1 ha
  have hgen := sgen; have hgen2 := sgen2; have hgen3 := sgen3; go_enter Tryd.func3, Tryd.ntmps3
  go_upto_region 7 with (first | (go_at_call 4; (refine (c_sSky _ (HT.out.below (by exact belz))).mono ?_); rintro e w1 ⟨rfl, hb⟩; have hz := hb.size; (try simp only [szA, szS, szD, szN] at hz)) | (go_at_call 5; (with_reducible refine (HI.out _).mono ?_); rintro e w' ⟨rfl, rfl⟩) | (go_at_call 6; (refine (HL.out _ (HT.out.below (by exact belz))).mono ?_); rintro e w2 ⟨rfl, hb⟩; have hz := hb.size; (try simp only [szA, szS, szD, szN] at hz)) | (go_at_call 7; (refine (HA.out _ (HT.out.below (by exact belz))).mono ?_); rintro e w3 ⟨rfl, hb⟩; have hz := hb.size; (try simp only [szA, szS, szD, szN] at hz); (try (refine bcB (n := w2.heap.size) hb ?_; intro h_w2_0 e_w2_0 d_w2_0 _ _))) | (go_at_call 8; (refine (HV.out _ _ (HT.out.below (by exact belz)) (by go_simp) (by go_simp) (by go_simp) (by go_simp)).mono ?_); rintro e w4 ⟨rfl, hb⟩; have hz := hb.size; (try simp only [szA, szS, szD, szN] at hz); (try (refine bcB (n := w2.heap.size) hb ?_; intro h_w2_0 e_w2_0 d_w2_0 _ _)); (try (refine bcB (n := w3.heap.size) hb ?_; intro h_w3_0 e_w3_0 d_w3_0 _ _))))
  go_wp2_with (first | (go_at_call 8; (refine (HW.out _ _ (HT.out.below (by exact belz)) (by go_simp) (by go_simp) (by go_simp) (by go_simp)).mono ?_); rintro e w5 ⟨rfl, hb⟩; have hz := hb.size; (try simp only [szA, szS, szD, szN] at hz); (try (refine bcB (n := w2.heap.size) hb ?_; intro h_w2_0 e_w2_0 d_w2_0 _ _)); (try (refine bcB (n := w3.heap.size) hb ?_; intro h_w3_0 e_w3_0 d_w3_0 _ _)); (try (refine bcB (n := w4.heap.size) hb ?_; intro h_w4_0 e_w4_0 d_w4_0 _ _)); (try (refine bcB (n := w4.heap.size + 1) hb ?_; intro h_w4_1 e_w4_1 d_w4_1 _ _))) | (go_at_call 9; (with_reducible refine (HD.out _).mono ?_); rintro e w' ⟨rfl, rfl⟩))
  go_ret
  refine ⟨rfl, ?_⟩
  exact belz
end Go.Proofs.YtcnhjngmdgjjpaaDoor
