/- Contracts of moon.Speed, eclipse.latitudes, eclipse.bounds, eclipse.Find. The lunations of eclipseWorks; bounds of the latitudes. No program in sight. eclipse.Next; eclipseWorks; the walk through the law EclipseNexts. -/
import Derived.Test.YtcgnhnmigmdalaaGreatDoorEcA
import Derived.Test.YtcgnhnmigmdalaaGreatDoorWalkSlpL
import Derived.Test.YtcgnhnmigmdalaaGreatDoorLuA
import Derived.Deep.CutBlock
import Derived.Deep.DeepCutAuto
set_option linter.unusedVariables false
set_option linter.unusedSimpArgs false
namespace Go.Proofs.YtcgnhnmigmdalaaGreatDoor
section
set_option maxRecDepth 100000
open Go.RowKit
theorem c_upE (a b : Int) (w : World) (hb : 0 < b) (ha1 : -9223372036854775807 ≤ a) (ha2 : a ≤ 9223372036854775807) (hb2 : b ≤ 9223372036854775807) (hq : -9223372036854775807 ≤ -a / b ∧ -a / b ≤ 9223372036854775807) :
    Calls Tryz.prog 76 #[.int .i64 a, .int .i64 b] w fun e w' => e = .returned (.int .i64 (-(-a / b))) ∧ Below w.heap.size w w' := by
  have HD := Lib.hid (fun w1 => c_down (-a) b w1 hb (by omega) (by omega) hb2)
  generalize -a / b = q at *
  have hgen := sgen; have hgen2 := sgen2; have hgen3 := sgen3; go_enter Tryz.func76, Tryz.ntmps76
  go_wp2_with (go_at_call 75; (refine (Calls.belowOf (HD.out _)).mono ?_); rintro e w1 ⟨rfl, hb⟩; have hz := hb.size; (try simp only [szA, szS, szD, szN] at hz); (try (refine bcB (n := w.heap.size) hb ?_; intro h_w_0 e_w_0 d_w_0 _ _)))
  go_ret
  refine ⟨rfl, ?_⟩
  exact belz
theorem spd_vals : slLo 0 northL = -3648980 ∧ slHi 0 northL = 3648980 := by decide +kernel
theorem c_Speed (w : World) : Calls Tryz.prog 106 #[] w fun e w' => e = .returned (.int .i64 3648980) ∧ Below w.heap.size w w' := by
  have hS := fun b (w1 : World) (h : TmSlice w1 (some ⟨b, 0, none⟩) northL) => c_Slope_ok 0 0 20000 (some ⟨b, 0, none⟩) 3 northL w1 (by decide) h north_e
  rw [spd_vals.1, spd_vals.2] at hS
  have HS : Hid (∀ b (w1 : World), TmSlice w1 (some ⟨b, 0, none⟩) northL → Calls Tryz.prog 128 #[sumV 0 0 (some ⟨b, 0, none⟩) 3 3 20000] w1 fun e w' => e = .returned (.tuple #[.agg #[.int .i64 (-3648980), .int .i64 3648980], .int .i64 0]) ∧ Below w1.heap.size w1 w') := Lib.hid hS
  have hgen := sgen; have hgen2 := sgen2; have hgen3 := sgen3; go_enter Tryz.func106, Tryz.ntmps106
  go_wp2_with (first | (go_at_call 90; (with_reducible refine (c_moon_latitude _).mono ?_); rintro e w1 ⟨b, rfl, hb, htm⟩; have hz := hb.size; (try simp only [szA, szS, szD, szN] at hz); (try (refine bcB (n := w.heap.size) hb ?_; intro h_w_0 e_w_0 d_w_0 _ _))) | (go_at_call 128; (with_reducible refine (HS.out b _ htm).mono ?_); rintro e w2 ⟨rfl, hb⟩; have hz := hb.size; (try simp only [szA, szS, szD, szN] at hz); (try (refine bcB (n := w.heap.size) hb ?_; intro h_w_0 e_w_0 d_w_0 _ _)); (try (refine bcB (n := w1.heap.size) hb ?_; intro h_w1_0 e_w1_0 d_w1_0 _ _))))
  go_ret
  refine ⟨rfl, ?_⟩
  exact belz
set_option maxHeartbeats 1000000 in
theorem c_latitudes (x0 x1 : Int) (w : World) (hT : Tab w) (h0 : instB x0 = true) (h1 : instB x1 = true) (hw0 : x0 ≤ x1) (hw1 : x1 - x0 ≤ 600000) :
    Calls Tryz.prog 73 #[.agg #[.int .i64 x0, .int .i64 x1]] w fun e w' => e = .returned (.agg #[.int .i64 (eLo x0 x1), .int .i64 (eHi x0 x1)]) ∧ Below w.heap.size w w' := by
  have HL0 := Lib.hid (fun w1 h => c_Latitude x0 w1 h h0)
  have HL1 := Lib.hid (fun w1 h => c_Latitude x1 w1 h h1)
  obtain ⟨p, r, e1, e2, e3, e4, e5, -, m0, m1⟩ := more_run (h := x1 - x0) (by omega) hw1
  have r1 : ∀ t w, (binOp .mul t (.float .f64 (fofI spd)) (.float .f64 (fofI (x1 - x0)))).run Tryz.prog w = .ok (.float .f64 p) w := hmul e1
  have r2 : ∀ t w, (binOp .quo t (.float .f64 p) (.float .f64 4725570615333879808)).run Tryz.prog w = .ok (.float .f64 (mA (x1 - x0))) w := hdiv e2
  have r3 : ∀ t w, (binOp .mul t (.float .f64 (mA (x1 - x0))) (.float .f64 (fofI (x1 - x0)))).run Tryz.prog w = .ok (.float .f64 r) w := hmul e3
  have r4 : ∀ t w, (binOp .quo t (.float .f64 r) (.float .f64 4725570615333879808)).run Tryz.prog w = .ok (.float .f64 (mB (x1 - x0))) w := hdiv e4
  have r5 := hcut e5 (by omega) (by omega)
  obtain ⟨-, -, k0, k1, k2⟩ := north_facts x0
  obtain ⟨-, -, q0, q1, q2⟩ := north_facts x1
  obtain ⟨n1, n2, -⟩ := north_facts x0
  obtain ⟨n3, n4, -⟩ := north_facts x1
  obtain ⟨b1, b2⟩ := inst_bd h0
  obtain ⟨b3, b4⟩ := inst_bd h1
  obtain ⟨sF, hsF⟩ : ∃ z, fofI spd = z := ⟨_, rfl⟩
  have r6 : floatOfInt .f64 3648980 = sF := hsF
  obtain ⟨xF, hxF⟩ : ∃ z, fofI (x1 - x0) = z := ⟨_, rfl⟩
  have r7 : floatOfInt .f64 (x1 - x0) = xF := hxF
  rw [hsF, hxF] at r1
  rw [hxF] at r3
  have eL : eLo x0 x1 = min (northLo x0) (northLo x1) - (mF (x1 - x0) + 2) := rfl
  have eH : eHi x0 x1 = max (northHi x0) (northHi x1) + (mF (x1 - x0) + 2) := rfl
  rw [eL, eH]
  have ew : IntKind.i64.wrap (x1 - x0) = x1 - x0 := IntWalk.i64_in _ (by omega)
  clear e1 e2 e3 e4 e5 hsF hxF eL eH h0 h1
  generalize mF (x1 - x0) = mm at *
  generalize mA (x1 - x0) = ma at *
  generalize mB (x1 - x0) = mb at *
  generalize northLo x0 = l0 at *
  generalize northLo x1 = l1 at *
  generalize northHi x0 = u0 at *
  generalize northHi x1 = u1 at *
  have HT := Lib.hid hT
  clear hT
  have ew2 : IntKind.i64.wrap (mm + 2) = mm + 2 := IntWalk.i64_in _ (by omega)
  have ew3 : IntKind.i64.wrap (min l0 l1 - (mm + 2)) = min l0 l1 - (mm + 2) := IntWalk.i64_in _ (by omega)
  have ew4 : IntKind.i64.wrap (max u0 u1 + (mm + 2)) = max u0 u1 + (mm + 2) := IntWalk.i64_in _ (by omega)
  clear n1 n2 n3 n4 k0 k1 k2 q0 q1 q2
  have hgen := sgen; have hgen2 := sgen2; have hgen3 := sgen3; go_enter Tryz.func73, Tryz.ntmps73
  go_wp2_with (first | (go_at_call 49; (with_reducible refine (HL0.out _ (HT.out.below (by exact belz))).mono ?_); rintro e w1 ⟨rfl, hb⟩; have hz := hb.size; (try simp only [szA, szS, szD, szN] at hz); (try (refine bcB (n := w.heap.size) hb ?_; intro h_w_0 e_w_0 d_w_0 _ _)); (try (refine bcB (n := w.heap.size + 1) hb ?_; intro h_w_1 e_w_1 d_w_1 _ _))) | (go_at_call 49; (with_reducible refine (HL1.out _ (HT.out.below (by exact belz))).mono ?_); rintro e w2 ⟨rfl, hb⟩; have hz := hb.size; (try simp only [szA, szS, szD, szN] at hz); (try (refine bcB (n := w.heap.size) hb ?_; intro h_w_0 e_w_0 d_w_0 _ _)); (try (refine bcB (n := w.heap.size + 1) hb ?_; intro h_w_1 e_w_1 d_w_1 _ _)); (try (refine bcB (n := w1.heap.size) hb ?_; intro h_w1_0 e_w1_0 d_w1_0 _ _))) | (go_at_call 106; (with_reducible refine (c_Speed _).mono ?_); rintro e w3 ⟨rfl, hb⟩; have hz := hb.size; (try simp only [szA, szS, szD, szN] at hz); (try (refine bcB (n := w.heap.size) hb ?_; intro h_w_0 e_w_0 d_w_0 _ _)); (try (refine bcB (n := w.heap.size + 1) hb ?_; intro h_w_1 e_w_1 d_w_1 _ _)); (try (refine bcB (n := w1.heap.size) hb ?_; intro h_w1_0 e_w1_0 d_w1_0 _ _)); (try (refine bcB (n := w2.heap.size) hb ?_; intro h_w2_0 e_w2_0 d_w2_0 _ _))))
  refine bodyPost_ret (v := .agg #[.int .i64 (min l0 l1 - (mm + 2)), .int .i64 (max u0 u1 + (mm + 2))]) (by simp only [results, Tryz.results73]; go_simp) rfl ⟨rfl, ?_⟩
  exact belz
theorem run_max3 {P : Program} (w : World) (ts : Array TypeId) (t : TypeId) (k k' k'' : IntKind) (x y z : Int) : (Builtin.max_ ts t #[.int k x, .int k' y, .int k'' z]).run P w = .ok (.int k (if z > (if y > x then y else x) then z else (if y > x then y else x))) w := by
  simp [Builtin.max_, Builtin.max2, List.foldlM]
def eTot (q : Int) : Int := if q = 0 then 2500000 else 1300000
def ePar (q : Int) : Int := if q = 0 then 4100000 else 2700000
theorem c_bounds (q : Int) (w : World) : Calls Tryz.prog 74 #[.int .i64 q] w fun e w' => e = .returned (.tuple #[.int .i64 (eTot q), .int .i64 (ePar q)]) ∧ Below w.heap.size w w' := by
  unfold eTot ePar
  by_cases h : q = 0
  · subst h
    rw [if_pos rfl, if_pos rfl]
    have hgen := sgen; have hgen2 := sgen2; have hgen3 := sgen3; go_enter Tryz.func74, Tryz.ntmps74
    go_wp2
    refine bodyPost_ret (v := .tuple #[.int .i64 2500000, .int .i64 4100000]) (by simp only [results, Tryz.results74]; go_simp) rfl ⟨rfl, ?_⟩
    exact belz
  · rw [if_neg h, if_neg h]
    have f1 : (q == 0) = false := by simpa using h
    have hgen := sgen; have hgen2 := sgen2; have hgen3 := sgen3; go_enter Tryz.func74, Tryz.ntmps74
    go_wp2
    refine bodyPost_ret (v := .tuple #[.int .i64 1300000, .int .i64 2700000]) (by simp only [results, Tryz.results74]; go_simp) rfl ⟨rfl, ?_⟩
    exact belz
/-- A struct of facts in memory. -/
structure EAt (w : World) (b : Nat) (k a1 a2 a3 a4 a5 a6 : Int) : Prop where
  lt : b < w.heap.size
  c0 : w.cell? ⟨b, 0, none⟩ = some (.int .i64 k)
  c1 : w.cell? ⟨b, 1, none⟩ = some (.int .i64 a1)
  c2 : w.cell? ⟨b, 2, none⟩ = some (.int .i64 a2)
  c3 : w.cell? ⟨b, 3, none⟩ = some (.int .i64 a3)
  c4 : w.cell? ⟨b, 4, none⟩ = some (.int .i64 a4)
  c5 : w.cell? ⟨b, 5, none⟩ = some (.int .i64 a5)
  c6 : w.cell? ⟨b, 6, none⟩ = some (.int .i64 a6)
  fr : ∀ o, w.frozen? ⟨b, o, none⟩ = false
theorem EAt.below {w w' : World} {b : Nat} {k a1 a2 a3 a4 a5 a6 : Int} (h : EAt w b k a1 a2 a3 a4 a5 a6) (hb : Below w.heap.size w w') : EAt w' b k a1 a2 a3 a4 a5 a6 :=
  ⟨Nat.lt_of_lt_of_le h.lt hb.size, (hb.cell (p := ⟨b, 0, none⟩) h.lt).trans h.c0, (hb.cell (p := ⟨b, 1, none⟩) h.lt).trans h.c1, (hb.cell (p := ⟨b, 2, none⟩) h.lt).trans h.c2, (hb.cell (p := ⟨b, 3, none⟩) h.lt).trans h.c3, (hb.cell (p := ⟨b, 4, none⟩) h.lt).trans h.c4, (hb.cell (p := ⟨b, 5, none⟩) h.lt).trans h.c5, (hb.cell (p := ⟨b, 6, none⟩) h.lt).trans h.c6, fun o => (hb.frozen (p := ⟨b, o, none⟩) h.lt).trans (h.fr o)⟩
def eMost (l h : Int) : Int := max h (-l)
def eLeast (l h : Int) : Int := max (max l (-h)) 0
def eM0 (q l h : Int) : Int := (ePar q - eMost l h) * 1000 / ePar q
def eM1 (q l h : Int) : Int := -(-((ePar q - eLeast l h) * 1000) / ePar q)
/-- What eclipse.Find makes of an interval of time and one of latitudes. -/
def EOut (q lo hi l h k a1 a2 a3 a4 a5 a6 x : Int) : Prop :=
  (ePar q ≤ eLeast l h ∧ k = 0 ∧ a1 = lo ∧ a2 = hi ∧ a3 = l ∧ a4 = h ∧ a5 = 0 ∧ a6 = 0 ∧ x = 0) ∨
  (eLeast l h < ePar q ∧ eMost l h < eTot q ∧ k = 2 ∧ a1 = lo ∧ a2 = hi ∧ a3 = l ∧ a4 = h ∧ a5 = eM0 q l h ∧ a6 = eM1 q l h ∧ x = 0) ∨
  (eLeast l h < ePar q ∧ eTot q ≤ eMost l h ∧ eTot q ≤ eLeast l h ∧ eMost l h < ePar q ∧ k = 1 ∧ a1 = lo ∧ a2 = hi ∧ a3 = l ∧ a4 = h ∧ a5 = eM0 q l h ∧ a6 = eM1 q l h ∧ x = 0) ∨
  (eLeast l h < ePar q ∧ eTot q ≤ eMost l h ∧ (eLeast l h < eTot q ∨ ePar q ≤ eMost l h) ∧ k = 0 ∧ a1 = 0 ∧ a2 = 0 ∧ a3 = 0 ∧ a4 = 0 ∧ a5 = 0 ∧ a6 = 0 ∧ x = 11)
theorem eOut_ex (q lo hi l h : Int) : ∃ k a1 a2 a3 a4 a5 a6 x, EOut q lo hi l h k a1 a2 a3 a4 a5 a6 x := by
  by_cases c1 : ePar q ≤ eLeast l h
  · exact ⟨_, _, _, _, _, _, _, _, .inl ⟨c1, rfl, rfl, rfl, rfl, rfl, rfl, rfl, rfl⟩⟩
  · by_cases c2 : eMost l h < eTot q
    · exact ⟨_, _, _, _, _, _, _, _, .inr (.inl ⟨by omega, c2, rfl, rfl, rfl, rfl, rfl, rfl, rfl, rfl⟩)⟩
    · by_cases c3 : eTot q ≤ eLeast l h ∧ eMost l h < ePar q
      · exact ⟨_, _, _, _, _, _, _, _, .inr (.inr (.inl ⟨by omega, by omega, c3.1, c3.2, rfl, rfl, rfl, rfl, rfl, rfl, rfl, rfl⟩))⟩
      · exact ⟨_, _, _, _, _, _, _, _, .inr (.inr (.inr ⟨by omega, by omega, by omega, rfl, rfl, rfl, rfl, rfl, rfl, rfl, rfl⟩))⟩
theorem c_eFind_arg (n q : Int) (w : World) (h0 : q ≠ 0) (h2 : q ≠ 2) :
    Calls Tryz.prog 37 #[.int .i64 n, .int .i64 q] w fun e w' => e = .returned (.tuple #[.agg #[.int .i64 0, .int .i64 0, .int .i64 0, .int .i64 0, .int .i64 0, .int .i64 0, .int .i64 0], .int .i64 1]) ∧ Below w.heap.size w w' := by
  have f1 : (q != 0) = true := by simpa using h0
  have f2 : (q != 2) = true := by simpa using h2
  have hgen := sgen; have hgen2 := sgen2; have hgen3 := sgen3; go_enter Tryz.func37, Tryz.ntmps37
  go_wp2
  refine bodyPost_ret (v := .tuple #[.agg #[.int .i64 0, .int .i64 0, .int .i64 0, .int .i64 0, .int .i64 0, .int .i64 0, .int .i64 0], .int .i64 1]) (by simp only [results, Tryz.results37]; go_simp) rfl ⟨rfl, ?_⟩
  exact belz
theorem c_eFind_rng (n q : Int) (w : World) (hq : q = 0 ∨ q = 2) (h : n < -100000 ∨ 100000 < n) :
    Calls Tryz.prog 37 #[.int .i64 n, .int .i64 q] w fun e w' => e = .returned (.tuple #[.agg #[.int .i64 0, .int .i64 0, .int .i64 0, .int .i64 0, .int .i64 0, .int .i64 0, .int .i64 0], .int .i64 3]) ∧ Below w.heap.size w w' := by
  have HF := Lib.hid (fun w1 => c_pFind_rng n q w1 (by omega) (by omega) h)
  rcases hq with rfl | rfl
  all_goals
    have hgen := sgen; have hgen2 := sgen2; have hgen3 := sgen3; go_enter Tryz.func37, Tryz.ntmps37
    go_wp2_with (go_at_call 72; (with_reducible refine (HF.out _).mono ?_); rintro e w1 ⟨rfl, hb⟩; have hz := hb.size; (try simp only [szA, szS, szD, szN] at hz); (try (refine bcB (n := w.heap.size) hb ?_; intro h_w_0 e_w_0 d_w_0 _ _)))
    refine bodyPost_ret (v := .tuple #[.agg #[.int .i64 0, .int .i64 0, .int .i64 0, .int .i64 0, .int .i64 0, .int .i64 0, .int .i64 0], .int .i64 3]) (by simp only [results, Tryz.results37]; go_simp) rfl ⟨rfl, ?_⟩
    exact belz
set_option maxHeartbeats 2000000 in
theorem c_eFind_gen (n q lo hi l h k a1 a2 a3 a4 a5 a6 x : Int) (w : World) (hT : Tab w) (hq : q = 0 ∨ q = 2) (hl : -100000000 ≤ l) (hl2 : l ≤ 100000000) (hh : -100000000 ≤ h) (hh2 : h ≤ 100000000) (hO : EOut q lo hi l h k a1 a2 a3 a4 a5 a6 x)
    (HF : Hid (∀ w1, Tab w1 → Calls Tryz.prog 72 #[.int .i64 n, .int .i64 q] w1 fun e w' => e = .returned (.tuple #[.agg #[.int .i64 lo, .int .i64 hi], .int .i64 0]) ∧ Below w1.heap.size w1 w'))
    (HL : Hid (∀ w1, Tab w1 → Calls Tryz.prog 73 #[.agg #[.int .i64 lo, .int .i64 hi]] w1 fun e w' => e = .returned (.agg #[.int .i64 l, .int .i64 h]) ∧ Below w1.heap.size w1 w')) :
    Calls Tryz.prog 37 #[.int .i64 n, .int .i64 q] w fun e w' => e = .returned (.tuple #[.agg #[.int .i64 k, .int .i64 a1, .int .i64 a2, .int .i64 a3, .int .i64 a4, .int .i64 a5, .int .i64 a6], .int .i64 x]) ∧ Below w.heap.size w w' := by
  have g1 : ((q != 0) = true ∧ (q != 2) = false) ∨ (q != 0) = false := by rcases hq with rfl | rfl <;> simp
  have HT := Lib.hid hT
  have HB := Lib.hid (fun w1 => c_bounds q w1)
  have hpar : ePar q = 4100000 ∨ ePar q = 2700000 := by unfold ePar; split <;> omega
  have htot : eTot q = 2500000 ∨ eTot q = 1300000 := by unfold eTot; split <;> omega
  have HD := Lib.hid (fun a w1 (h1 : -9223372036854775808 ≤ a) (h2 : a ≤ 9223372036854775807) => c_down a (ePar q) w1 (by omega) h1 h2 (by omega))
  have HU := Lib.hid (fun a w1 (h1 : -1000000000000 ≤ a) (h2 : a ≤ 1000000000000) => c_upE a (ePar q) w1 (by omega) (by omega) (by omega) (by omega) (by rcases hpar with e | e <;> rw [e] <;> omega))
  have hmo : -100000000 ≤ eMost l h ∧ eMost l h ≤ 100000000 := by unfold eMost; omega
  have hle : 0 ≤ eLeast l h ∧ eLeast l h ≤ 100000000 := by unfold eLeast; omega
  have em : max h (-l) = eMost l h := rfl
  have el : max (max l (-h)) 0 = eLeast l h := rfl
  have e0 : eM0 q l h = (ePar q - eMost l h) * 1000 / ePar q := rfl
  have e1 : eM1 q l h = -(-((ePar q - eLeast l h) * 1000) / ePar q) := rfl
  have hm3 : ∀ ts t (w : World), (Builtin.max_ ts t #[.int .i64 l, .int .i64 (-h), .int .i64 0]).run Tryz.prog w = .ok (.int .i64 (eLeast l h)) w := fun ts t w => by
    rw [run_max3]
    unfold eLeast
    congr 2
    split <;> split <;> omega
  have wl : IntKind.i64.wrap (-l) = -l := IntWalk.i64_in _ (by omega)
  have wh : IntKind.i64.wrap (-h) = -h := IntWalk.i64_in _ (by omega)
  have HO := Lib.hid hO
  clear hT hO hq
  rcases g1 with ⟨g1, g2⟩ | g1
  all_goals
    have hgen := sgen; have hgen2 := sgen2; have hgen3 := sgen3; go_enter Tryz.func37, Tryz.ntmps37
    go_upto_region 6 with (go_at_call 72; (with_reducible refine (HF.out _ (HT.out.below (by exact belz))).mono ?_); rintro e w1 ⟨rfl, hb⟩; have hz := hb.size; (try simp only [szA, szS, szD, szN] at hz); (try (refine bcB (n := w.heap.size) hb ?_; intro h_w_0 e_w_0 d_w_0 _ _)))
    go_cut [8] (fun x8 wc => ∃ b, x8 = .pointer (some ⟨b, 0, none⟩) ∧ EAt wc b 0 lo hi l h 0 0 ∧ w.heap.size < b ∧ EAt wc w.heap.size 0 0 0 0 0 0 0 ∧ Below w.heap.size w wc)
    case first =>
      go_wp2_with fail
      go_region_held3 (fun w' => w'.cell? ⟨w1.heap.size, 0, none⟩ = some (.int .i64 lo) ∧ w'.cell? ⟨w1.heap.size, 1, none⟩ = some (.int .i64 hi)) (refine ⟨?_, ?_⟩ <;> (first | (go_simp; done) | go_keep)) (first | (go_at_call 73; (with_reducible refine (HL.out _ (HT.out.below (by exact belz))).mono ?_); rintro e w2 ⟨rfl, hb⟩; have hz := hb.size; (try simp only [szA, szS, szD, szN] at hz); (try (refine bcB (n := w.heap.size) hb ?_; intro h_w_0 e_w_0 d_w_0 _ _)); (try (refine bcB (n := w1.heap.size) hb ?_; intro h_w1_0 e_w1_0 d_w1_0 _ _)); (try (refine bcB (n := w1.heap.size + 1) hb ?_; intro h_w1_1 e_w1_1 d_w1_1 _ _))))
      all_goals go_wp2_with fail
      all_goals go_meet
      all_goals exact ⟨_, rfl, ⟨by (try simp); (try omega), by go_simp, by go_simp, by go_simp, by go_simp, by go_simp, by go_simp, by go_simp, fun o => by go_simp⟩, by omega, ⟨by (try simp); (try omega), by go_simp, by go_simp, by go_simp, by go_simp, by go_simp, by go_simp, by go_simp, fun o => by go_simp⟩, by exact belz⟩
    case rest =>
      obtain ⟨b, rfl, hE, hwb, hR, hbc⟩ := hcut
      obtain ⟨wd, rfl⟩ : ∃ wd : World, wd = wc := ⟨_, rfl⟩
      have hzc := hbc.size
      have hne : b ≠ w.heap.size := by omega
      have hne2 : w.heap.size ≠ b := by omega
      go_upto_region 8 with (go_at_call 74; (with_reducible refine (HB.out _).mono ?_); rintro e w2 ⟨rfl, hb⟩; have hz := hb.size; (try simp only [szA, szS, szD, szN] at hz); (try (refine bcB (n := wd.heap.size) hb ?_; intro h_wd_0 e_wd_0 d_wd_0 _ _)))
      have hb2 : Below w.heap.size w w2 := hbc.trans (hb.mono hzc)
      obtain ⟨p0, p1, p2, p3, p4, p5, p6, p7, p8⟩ := hE.below hb
      obtain ⟨r0, r1, r2, r3, r4, r5, r6, r7, r8⟩ := hR.below hb
      have pf := p8 0
      have pf5 := p8 5
      have pf6 := p8 6
      have rf0 := r8 0
      have rf1 := r8 1
      have rf2 := r8 2
      have rf3 := r8 3
      have rf4 := r8 4
      have rf5 := r8 5
      have rf6 := r8 6
      have hO := HO.out
      unfold EOut at hO
      clear hE hR hb p8 r8 hbc HL HF HB HO
      generalize ePar q = par at *
      generalize eTot q = tot at *
      generalize eMost l h = mo at *
      generalize eLeast l h = le at *
      generalize eM0 q l h = m0 at *
      generalize eM1 q l h = m1 at *
      have v1 : IntKind.i64.wrap (par - mo) = par - mo := IntWalk.i64_in _ (by omega)
      have v2 : IntKind.i64.wrap ((par - mo) * 1000) = (par - mo) * 1000 := IntWalk.i64_in _ (by omega)
      have v3 : IntKind.i64.wrap (par - le) = par - le := IntWalk.i64_in _ (by omega)
      have v4 : IntKind.i64.wrap ((par - le) * 1000) = (par - le) * 1000 := IntWalk.i64_in _ (by omega)
      have e0' := e0.symm
      have e1' := e1.symm
      clear e0 e1
      rcases hO with ⟨q1, rfl, rfl, rfl, rfl, rfl, rfl, rfl, rfl⟩ | ⟨q1, q2, rfl, rfl, rfl, rfl, rfl, rfl, rfl, rfl⟩ | ⟨q1, q2, q3, q4, rfl, rfl, rfl, rfl, rfl, rfl, rfl, rfl⟩ | ⟨q1, q2, q3, rfl, rfl, rfl, rfl, rfl, rfl, rfl, rfl⟩
      · have d1 : decide (par ≤ le) = true := decide_eq_true q1
        go_wp2
        refine bodyPost_ret (v := .tuple #[.agg #[.int .i64 0, .int .i64 a1, .int .i64 a2, .int .i64 a3, .int .i64 a4, .int .i64 0, .int .i64 0], .int .i64 0]) (by simp only [results, Tryz.results37]; go_simp) rfl ⟨rfl, ?_⟩
        exact belz
      · have d1 : decide (par ≤ le) = false := decide_eq_false (by omega)
        have d2 : decide (mo < tot) = true := decide_eq_true q2
        go_wp2_with (first | (go_at_call 75; (refine (Calls.belowOf (HD.out _ _ (by omega) (by omega))).mono ?_); rintro e w3 ⟨rfl, hb⟩; have hz := hb.size; (try simp only [szA, szS, szD, szN] at hz); (try (refine bcB (n := w.heap.size) hb ?_; intro h_w_0 e_w_0 d_w_0 _ _)); (try (refine bcB (n := w2.heap.size) hb ?_; intro h_w2_0 e_w2_0 d_w2_0 _ _)); (try (refine bcB (n := b) hb ?_; intro h_bb_0 e_bb_0 d_bb_0 _ _))) | (go_at_call 76; (refine (HU.out _ _ (by omega) (by omega)).mono ?_); rintro e w4 ⟨rfl, hb⟩; have hz := hb.size; (try simp only [szA, szS, szD, szN] at hz); (try (refine bcB (n := w.heap.size) hb ?_; intro h_w_0 e_w_0 d_w_0 _ _)); (try (refine bcB (n := w2.heap.size) hb ?_; intro h_w2_0 e_w2_0 d_w2_0 _ _)); (try (refine bcB (n := b) hb ?_; intro h_bb_0 e_bb_0 d_bb_0 _ _)); (try (refine bcB (n := w3.heap.size) hb ?_; intro h_w3_0 e_w3_0 d_w3_0 _ _))))
        refine bodyPost_ret (v := .tuple #[.agg #[.int .i64 2, .int .i64 a1, .int .i64 a2, .int .i64 a3, .int .i64 a4, .int .i64 a5, .int .i64 a6], .int .i64 0]) (by simp only [results, Tryz.results37]; go_simp) rfl ⟨rfl, ?_⟩
        exact belz
      · have d1 : decide (par ≤ le) = false := decide_eq_false (by omega)
        have d2 : decide (mo < tot) = false := decide_eq_false (by omega)
        have d3 : decide (tot ≤ le) = true := decide_eq_true q3
        have d4 : decide (mo < par) = true := decide_eq_true q4
        go_wp2_with (first | (go_at_call 75; (refine (Calls.belowOf (HD.out _ _ (by omega) (by omega))).mono ?_); rintro e w3 ⟨rfl, hb⟩; have hz := hb.size; (try simp only [szA, szS, szD, szN] at hz); (try (refine bcB (n := w.heap.size) hb ?_; intro h_w_0 e_w_0 d_w_0 _ _)); (try (refine bcB (n := w2.heap.size) hb ?_; intro h_w2_0 e_w2_0 d_w2_0 _ _)); (try (refine bcB (n := b) hb ?_; intro h_bb_0 e_bb_0 d_bb_0 _ _))) | (go_at_call 76; (refine (HU.out _ _ (by omega) (by omega)).mono ?_); rintro e w4 ⟨rfl, hb⟩; have hz := hb.size; (try simp only [szA, szS, szD, szN] at hz); (try (refine bcB (n := w.heap.size) hb ?_; intro h_w_0 e_w_0 d_w_0 _ _)); (try (refine bcB (n := w2.heap.size) hb ?_; intro h_w2_0 e_w2_0 d_w2_0 _ _)); (try (refine bcB (n := b) hb ?_; intro h_bb_0 e_bb_0 d_bb_0 _ _)); (try (refine bcB (n := w3.heap.size) hb ?_; intro h_w3_0 e_w3_0 d_w3_0 _ _))))
        refine bodyPost_ret (v := .tuple #[.agg #[.int .i64 1, .int .i64 a1, .int .i64 a2, .int .i64 a3, .int .i64 a4, .int .i64 a5, .int .i64 a6], .int .i64 0]) (by simp only [results, Tryz.results37]; go_simp) rfl ⟨rfl, ?_⟩
        exact belz
      · have d1 : decide (par ≤ le) = false := decide_eq_false (by omega)
        have d2 : decide (mo < tot) = false := decide_eq_false (by omega)
        rcases (show le < tot ∨ (tot ≤ le ∧ par ≤ mo) by omega) with q4 | ⟨q4, q5⟩
        · have d3 : decide (tot ≤ le) = false := decide_eq_false (by omega)
          go_wp2
          refine bodyPost_ret (v := .tuple #[.agg #[.int .i64 0, .int .i64 0, .int .i64 0, .int .i64 0, .int .i64 0, .int .i64 0, .int .i64 0], .int .i64 11]) (by simp only [results, Tryz.results37]; go_simp) rfl ⟨rfl, ?_⟩
          exact belz
        · have d3 : decide (tot ≤ le) = true := decide_eq_true q4
          have d4 : decide (mo < par) = false := decide_eq_false (by omega)
          go_wp2
          refine bodyPost_ret (v := .tuple #[.agg #[.int .i64 0, .int .i64 0, .int .i64 0, .int .i64 0, .int .i64 0, .int .i64 0, .int .i64 0], .int .i64 11]) (by simp only [results, Tryz.results37]; go_simp) rfl ⟨rfl, ?_⟩
          exact belz
end
section
open Ieee
theorem north_aS : aS northL northL.length * (1 + 1 / 100000000) ≤ 15900000 := by decide +kernel
theorem north_bd (t : Int) : -16000000 ≤ northLo t ∧ northHi t ≤ 16000000 := by
  have hs := sumOk_of north_e
  obtain ⟨l0, l1, g0, g1⟩ := val_at (i := t) hs
  have a := rabs_le.1 (xAt_amp northL t northL.length (Nat.le_refl _))
  have b := north_aS
  have nl : valLo 0 northL 20000 t = northLo t := rfl
  have nh : valHi 0 northL 20000 t = northHi t := rfl
  rw [nl] at l0 l1
  rw [nh] at g0 g1
  have c1 : ((20000 : Int) : Rat) = 20000 := rfl
  have c0 : ((0 : Int) : Rat) = 0 := rfl
  rw [c1, c0] at l0 l1 g0 g1
  have r1 : ((-16000000 : Int) : Rat) ≤ (northLo t : Rat) := by
    rw [show ((-16000000 : Int) : Rat) = -16000000 from rfl]; grind
  have r2 : (northHi t : Rat) ≤ ((16000000 : Int) : Rat) := by
    rw [show ((16000000 : Int) : Rat) = 16000000 from rfl]; grind
  exact ⟨Rat.intCast_le_intCast.1 r1, Rat.intCast_le_intCast.1 r2⟩
theorem ecl_bd {x0 x1 : Int} (h0 : x0 ≤ x1) (hw : x1 - x0 ≤ 600000) : -17000000 ≤ eLo x0 x1 ∧ eLo x0 x1 ≤ eHi x0 x1 ∧ eHi x0 x1 ≤ 17000000 := by
  obtain ⟨o, -⟩ := ecl_wide h0 hw
  obtain ⟨a0, a1⟩ := north_bd x0
  obtain ⟨b0, b1⟩ := north_bd x1
  obtain ⟨-, -, -, -, -, -, -, -, mz, m6⟩ := more_run (h := x1 - x0) (by omega) hw
  unfold eLo eHi at *
  omega
/-- The interval of latitudes of a phase. -/
def eL0 (n q : Int) : Int := eLo (phR n q).lo (phR n q).hi
def eH0 (n q : Int) : Int := eHi (phR n q).lo (phR n q).hi
theorem ecl_at {n q X : Int} (n0 : -100000 ≤ n) (n1 : n ≤ 100000) (q0 : 0 ≤ q) (q1 : q ≤ 3) (x1 : phT n q - 43980 ≤ eL X) (x2 : eL X ≤ phT n q - 20) :
    eL0 n q * 1048576 + 1000000 ≤ northV X - 20000 * 1048576 ∧ northV X + 20000 * 1048576 + 1000000 ≤ eH0 n q * 1048576 ∧ eH0 n q - eL0 n q ≤ 66000 := by
  have h := phR_ok n0 n1 q0 q1
  obtain ⟨a, b⟩ := ph_has h x1 x2
  obtain ⟨e1, e2⟩ := ecl_in a b h.w
  obtain ⟨-, e3⟩ := ecl_wide (Int.le_of_lt h.b) h.w
  exact ⟨e1, e2, e3⟩
theorem fix_nums : (phT 24714 0 - 43980 ≤ eL 63057379115561 ∧ eL 63057379115561 ≤ phT 24714 0 - 20 ∧ northV 63057379115561 ≤ -5000000 * 1048576) ∧
    (phT 24715 0 - 43980 ≤ eL 63059918845292 ∧ eL 63059918845292 ≤ phT 24715 0 - 20 ∧ northV 63059918845292 ≤ -5000000 * 1048576) ∧
    (phT 24716 0 - 43980 ≤ eL 63062452472876 ∧ eL 63062452472876 ≤ phT 24716 0 - 20 ∧ northV 63062452472876 ≤ -5000000 * 1048576) ∧
    (phT 24717 0 - 43980 ≤ eL 63064983711496 ∧ eL 63064983711496 ≤ phT 24717 0 - 20 ∧ northV 63064983711496 ≤ -5000000 * 1048576) ∧
    (phT 24718 0 - 43980 ≤ eL 63067516278794 ∧ eL 63067516278794 ≤ phT 24718 0 - 20 ∧ northV 63067516278794 ≤ -5000000 * 1048576) ∧
    (phT 24719 0 - 43980 ≤ eL 63070053598006 ∧ eL 63070053598006 ≤ phT 24719 0 - 20 ∧ 1695100 * 1048576 ≤ northV 63070053598006 ∧ northV 63070053598006 ≤ 1695200 * 1048576) := by decide +kernel
theorem fix_none {n X : Int} (n0 : -100000 ≤ n) (n1 : n ≤ 100000) (h : phT n 0 - 43980 ≤ eL X ∧ eL X ≤ phT n 0 - 20 ∧ northV X ≤ -5000000 * 1048576) : ePar 0 ≤ eLeast (eL0 n 0) (eH0 n 0) := by
  obtain ⟨a, b, c⟩ := ecl_at n0 n1 (by omega) (by omega) h.1 h.2.1
  have hv := h.2.2
  have hp : ePar 0 = 4100000 := rfl
  rw [hp]
  unfold eLeast
  generalize northV X = v at *
  omega
theorem fix_tot : eL0 24719 0 ≤ 1695151 ∧ 1695151 ≤ eH0 24719 0 ∧ eH0 24719 0 - eL0 24719 0 ≤ 66000 ∧ eLeast (eL0 24719 0) (eH0 24719 0) < ePar 0 ∧ eMost (eL0 24719 0) (eH0 24719 0) < eTot 0 := by
  obtain ⟨-, -, -, -, -, h⟩ := fix_nums
  obtain ⟨a, b, c⟩ := ecl_at (n := 24719) (by omega) (by omega) (by omega) (by omega) h.1 h.2.1
  have v1 := h.2.2.1
  have v2 := h.2.2.2
  have hp : ePar 0 = 4100000 := rfl
  have ht : eTot 0 = 2500000 := rfl
  rw [hp, ht]
  unfold eLeast eMost
  generalize northV 63070053598006 = v at *
  omega
end
section
set_option maxRecDepth 100000
open Go.RowKit
structure ER where
  k : Int
  a1 : Int
  a2 : Int
  a3 : Int
  a4 : Int
  a5 : Int
  a6 : Int
  x : Int
/-- What eclipse.Find answers. -/
def EFnd (n q : Int) (r : ER) : Prop := ∀ w, Tab w → Calls Tryz.prog 37 #[.int .i64 n, .int .i64 q] w fun e w' => e = .returned (.tuple #[.agg #[.int .i64 r.k, .int .i64 r.a1, .int .i64 r.a2, .int .i64 r.a3, .int .i64 r.a4, .int .i64 r.a5, .int .i64 r.a6], .int .i64 r.x]) ∧ Below w.heap.size w w'
theorem ph_inst {n q : Int} (n0 : -100000 ≤ n) (n1 : n ≤ 100000) (q0 : 0 ≤ q) (q1 : q ≤ 3) {x : Int} (h0 : phMid n q - 172800000 ≤ x) (h1 : x ≤ phMid n q + 172800000) : instB x = true := by
  unfold phMid at *
  exact inst_of (by omega) (by omega)
theorem eFnd_ok {n q : Int} (n0 : -100000 ≤ n) (n1 : n ≤ 100000) (hq : q = 0 ∨ q = 2) {r : ER} (hO : EOut q (phR n q).lo (phR n q).hi (eL0 n q) (eH0 n q) r.k r.a1 r.a2 r.a3 r.a4 r.a5 r.a6 r.x) : EFnd n q r := by
  intro w hT
  have ph := phR_ok (n := n) (q := q) n0 n1 (by omega) (by omega)
  have ha := ph.a
  have hb := ph.b
  have hc := ph.c
  have hw := ph.w
  obtain ⟨b1, b2, b3⟩ := ecl_bd (x0 := (phR n q).lo) (x1 := (phR n q).hi) (by omega) hw
  have B1 : -17000000 ≤ eL0 n q := b1
  have B2 : eL0 n q ≤ eH0 n q := b2
  have B3 : eH0 n q ≤ 17000000 := b3
  exact c_eFind_gen n q _ _ (eL0 n q) (eH0 n q) _ _ _ _ _ _ _ _ w hT hq (by omega) (by omega) (by omega) (by omega) hO
    (Lib.hid (fun w1 h => c_pFind_ok n q w1 h n0 n1 (by omega) (by omega))) (Lib.hid (fun w1 h => c_latitudes (phR n q).lo (phR n q).hi w1 h (ph_inst (n := n) (q := q) n0 n1 (by omega) (by omega) (x := (phR n q).lo) (by omega) (by omega)) (ph_inst (n := n) (q := q) n0 n1 (by omega) (by omega) (x := (phR n q).hi) (by omega) (by omega)) (by omega) hw))
theorem EFnd.use {n q k a1 a2 a3 a4 a5 a6 x : Int} (h : EFnd n q ⟨k, a1, a2, a3, a4, a5, a6, x⟩) : ∀ w, Tab w → Calls Tryz.prog 37 #[.int .i64 n, .int .i64 q] w fun e w' => e = .returned (.tuple #[.agg #[.int .i64 k, .int .i64 a1, .int .i64 a2, .int .i64 a3, .int .i64 a4, .int .i64 a5, .int .i64 a6], .int .i64 x]) ∧ Below w.heap.size w w' := h
theorem eFnd_ok' {n q : Int} (n0 : -100000 ≤ n) (n1 : n ≤ 100000) (hq : q = 0 ∨ q = 2) {k a1 a2 a3 a4 a5 a6 x : Int} (hO : EOut q (phR n q).lo (phR n q).hi (eL0 n q) (eH0 n q) k a1 a2 a3 a4 a5 a6 x) : EFnd n q ⟨k, a1, a2, a3, a4, a5, a6, x⟩ := eFnd_ok n0 n1 hq (r := ⟨k, a1, a2, a3, a4, a5, a6, x⟩) hO
theorem eOut_none {q lo hi l h : Int} (c : ePar q ≤ eLeast l h) : EOut q lo hi l h 0 lo hi l h 0 0 0 := .inl ⟨c, rfl, rfl, rfl, rfl, rfl, rfl, rfl, rfl⟩
theorem eOut_tot {q lo hi l h : Int} (c : eLeast l h < ePar q) (d : eMost l h < eTot q) : EOut q lo hi l h 2 lo hi l h (eM0 q l h) (eM1 q l h) 0 := .inr (.inl ⟨c, d, rfl, rfl, rfl, rfl, rfl, rfl, rfl, rfl⟩)
theorem eFnd_ex (n q : Int) : ∃ r, EFnd n q r := by
  by_cases hq : q = 0 ∨ q = 2
  · by_cases hn : -100000 ≤ n ∧ n ≤ 100000
    · obtain ⟨k, a1, a2, a3, a4, a5, a6, x, h⟩ := eOut_ex q (phR n q).lo (phR n q).hi (eL0 n q) (eH0 n q)
      exact ⟨_, eFnd_ok' hn.1 hn.2 hq h⟩
    · exact ⟨⟨0, 0, 0, 0, 0, 0, 0, 3⟩, fun w _ => c_eFind_rng n q w hq (by omega)⟩
  · exact ⟨⟨0, 0, 0, 0, 0, 0, 0, 1⟩, fun w _ => c_eFind_arg n q w (fun h => hq (.inl h)) (fun h => hq (.inr h))⟩
/-- The search, from number i on. -/
def nxS (f : Int → ER) (N : Nat → Int) : Nat → Nat → Int × Int
  | 0, _ => (0, 6)
  | g + 1, i => if (f (N i)).x ≠ 0 then (0, (f (N i)).x) else if (f (N i)).k ≠ 0 then (N i, 0) else nxS f N g (i + 1)
def nI (n : Int) (i : Nat) : Int := IntKind.i64.wrap (n + (i : Int))
/-- The lunations 24714 to 24719. -/
theorem fnd_none {n X : Int} (n0 : -100000 ≤ n) (n1 : n ≤ 100000) (h : phT n 0 - 43980 ≤ eL X ∧ eL X ≤ phT n 0 - 20 ∧ northV X ≤ -5000000 * 1048576) : EFnd n 0 ⟨0, (phR n 0).lo, (phR n 0).hi, eL0 n 0, eH0 n 0, 0, 0, 0⟩ :=
  eFnd_ok' n0 n1 (.inl rfl) (eOut_none (fix_none n0 n1 h))
theorem fnd_tot : EFnd 24719 0 ⟨2, (phR 24719 0).lo, (phR 24719 0).hi, eL0 24719 0, eH0 24719 0, eM0 0 (eL0 24719 0) (eH0 24719 0), eM1 0 (eL0 24719 0) (eH0 24719 0), 0⟩ := by
  obtain ⟨-, -, -, f1, f2⟩ := fix_tot
  exact eFnd_ok' (by omega) (by omega) (.inl rfl) (eOut_tot f1 f2)
end
end Go.Proofs.YtcgnhnmigmdalaaGreatDoor
