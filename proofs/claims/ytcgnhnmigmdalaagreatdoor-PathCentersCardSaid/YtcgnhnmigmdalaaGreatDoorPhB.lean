/- Contracts of path.square and path.root. Contracts of path.root and path.offsets. The contract of path.offsets. The walk of path.Center over any numbers. -/
import Derived.Test.YtcgnhnmigmdalaaGreatDoorPhA
import Derived.Test.YtcgnhnmigmdalaaGreatDoorAsA
import Derived.Test.YtcgnhnmigmdalaaGreatDoorArA
import Derived.Test.YtcgnhnmigmdalaaGreatDoorSmA
import Derived.Deep.DeepCutAuto
set_option linter.unusedVariables false
set_option linter.unusedSimpArgs false
namespace Go.Proofs.YtcgnhnmigmdalaaGreatDoor
section
set_option maxRecDepth 100000
open Go.RowKit
theorem rat_wide {a b : Int} (a1 : -4200000000 ≤ a) (a2 : a ≤ 4200000000) (b1 : -4200000000 ≤ b) (b2 : b ≤ 4200000000) : RatOk a b 1000000000 := by
  left
  have h1 := absI_bd a1 a2
  have h2 := absI_bd b1 b2
  have h := Int.mul_le_mul h1 h2 (absI_nn b) (by decide)
  omega
theorem c_TimesW (al ah bl bh : Int) (w : World) (a1 : -4200000000 ≤ al) (a2 : al ≤ 4200000000) (a3 : -4200000000 ≤ ah) (a4 : ah ≤ 4200000000) (b1 : -4200000000 ≤ bl) (b2 : bl ≤ 4200000000) (b3 : -4200000000 ≤ bh) (b4 : bh ≤ 4200000000) :
    Calls Tryz.prog 62 #[.agg #[.int .i64 al, .int .i64 ah], .agg #[.int .i64 bl, .int .i64 bh]] w fun e w' => e = .returned (.agg #[.int .i64 (pLo al ah bl bh 1000000000), .int .i64 (pHi al ah bl bh 1000000000)]) ∧ Below w.heap.size w w' := by
  have HP := Lib.hid (fun w1 => c_product al ah bl bh 1000000000 w1 (by omega) (by omega) (by omega) (by omega) (by omega) (by omega) (by omega) (by omega) (by omega) (by omega) (rat_wide a1 a2 b1 b2) (rat_wide a1 a2 b3 b4) (rat_wide a3 a4 b1 b2) (rat_wide a3 a4 b3 b4))
  generalize pLo al ah bl bh 1000000000 = p at *
  generalize pHi al ah bl bh 1000000000 = q at *
  have hgen := sgen; have hgen2 := sgen2; have hgen3 := sgen3; go_enter Tryz.func62, Tryz.ntmps62
  go_wp2_with (go_at_call 103; (refine (HP.out _).mono ?_); rintro e w1 ⟨rfl, hb⟩; have hz := hb.size; (try simp only [szA, szS, szD, szN] at hz); (try (refine bcB (n := w.heap.size) hb ?_; intro h_w_0 e_w_0 d_w_0 _ _)); (try (refine bcB (n := w.heap.size + 1) hb ?_; intro h_w_1 e_w_1 d_w_1 _ _)); (try (refine bcB (n := w.heap.size + 1 + 1) hb ?_; intro h_w_2 e_w_2 d_w_2 _ _)))
  refine bodyPost_ret (v := .agg #[.int .i64 p, .int .i64 q]) (by simp only [results, Tryz.results62]; go_simp) rfl ⟨rfl, ?_⟩
  exact belz
theorem c_square (a b : Int) (w : World) (a1 : -4200000000 ≤ a) (a2 : a ≤ 4200000000) (b1 : -4200000000 ≤ b) (b2 : b ≤ 4200000000) :
    Calls Tryz.prog 57 #[.agg #[.int .i64 a, .int .i64 b]] w fun e w' => e = .returned (.agg #[.int .i64 (sqLo a b), .int .i64 (sqHi a b)]) ∧ Below w.heap.size w w' := by
  have HT := Lib.hid (fun w1 => c_TimesW a b a b w1 a1 a2 b1 b2 a1 a2 b1 b2)
  unfold sqLo sqHi
  generalize pLo a b a b 1000000000 = p at *
  generalize pHi a b a b 1000000000 = q at *
  by_cases h1 : a ≤ 0
  · by_cases h2 : 0 ≤ b
    · rw [if_pos ⟨h1, h2⟩]
      have hgen := sgen; have hgen2 := sgen2; have hgen3 := sgen3; go_enter Tryz.func57, Tryz.ntmps57
      go_wp2_with (go_at_call 62; (with_reducible refine (HT.out _).mono ?_); rintro e w1 ⟨rfl, hb⟩; have hz := hb.size; (try simp only [szA, szS, szD, szN] at hz); (try (refine bcB (n := w.heap.size) hb ?_; intro h_w_0 e_w_0 d_w_0 _ _)); (try (refine bcB (n := w.heap.size + 1) hb ?_; intro h_w_1 e_w_1 d_w_1 _ _)); (try (refine bcB (n := w.heap.size + 1 + 1) hb ?_; intro h_w_2 e_w_2 d_w_2 _ _)))
      refine bodyPost_ret (v := .agg #[.int .i64 0, .int .i64 q]) (by simp only [results, Tryz.results57]; go_simp) rfl ⟨rfl, ?_⟩
      exact belz
    · rw [if_neg (by omega)]
      have d2 : decide (0 ≤ b) = false := decide_eq_false h2
      have hgen := sgen; have hgen2 := sgen2; have hgen3 := sgen3; go_enter Tryz.func57, Tryz.ntmps57
      go_wp2_with (go_at_call 62; (with_reducible refine (HT.out _).mono ?_); rintro e w1 ⟨rfl, hb⟩; have hz := hb.size; (try simp only [szA, szS, szD, szN] at hz); (try (refine bcB (n := w.heap.size) hb ?_; intro h_w_0 e_w_0 d_w_0 _ _)); (try (refine bcB (n := w.heap.size + 1) hb ?_; intro h_w_1 e_w_1 d_w_1 _ _)); (try (refine bcB (n := w.heap.size + 1 + 1) hb ?_; intro h_w_2 e_w_2 d_w_2 _ _)))
      refine bodyPost_ret (v := .agg #[.int .i64 p, .int .i64 q]) (by simp only [results, Tryz.results57]; go_simp) rfl ⟨rfl, ?_⟩
      exact belz
  · rw [if_neg (by omega)]
    have d1 : decide (a ≤ 0) = false := decide_eq_false h1
    have hgen := sgen; have hgen2 := sgen2; have hgen3 := sgen3; go_enter Tryz.func57, Tryz.ntmps57
    go_wp2_with (go_at_call 62; (with_reducible refine (HT.out _).mono ?_); rintro e w1 ⟨rfl, hb⟩; have hz := hb.size; (try simp only [szA, szS, szD, szN] at hz); (try (refine bcB (n := w.heap.size) hb ?_; intro h_w_0 e_w_0 d_w_0 _ _)); (try (refine bcB (n := w.heap.size + 1) hb ?_; intro h_w_1 e_w_1 d_w_1 _ _)); (try (refine bcB (n := w.heap.size + 1 + 1) hb ?_; intro h_w_2 e_w_2 d_w_2 _ _)))
    refine bodyPost_ret (v := .agg #[.int .i64 p, .int .i64 q]) (by simp only [results, Tryz.results57]; go_simp) rfl ⟨rfl, ?_⟩
    exact belz
end
section
set_option maxRecDepth 100000
open Go.RowKit
theorem c_proot (a b : Int) (w : World) (h0 : 0 ≤ a) (h1 : a ≤ b) (h2 : b ≤ 1000000000) :
    Calls Tryz.prog 58 #[.agg #[.int .i64 a, .int .i64 b]] w fun e w' => e = .returned (.agg #[.int .i64 (isq (a * 1000000000)), .int .i64 (isqU (b * 1000000000))]) ∧ Below w.heap.size w w' := by
  have he : spanErr (a * 1000000000) (b * 1000000000) = 0 := by unfold spanErr; (repeat (first | rw [if_neg (by omega)] | rw [if_pos (by omega)]))
  have HR : Hid (∀ w1, Calls Tryz.prog 99 #[.agg #[.int .i64 (a * 1000000000), .int .i64 (b * 1000000000)]] w1 fun e w' => e = .returned (.tuple #[.agg #[.int .i64 (isq (a * 1000000000)), .int .i64 (isqU (b * 1000000000))], .int .i64 0]) ∧ Below w1.heap.size w1 w') :=
    Lib.hid (fun w1 => (c_tRoot_ok (a * 1000000000) (b * 1000000000) w1 he (by omega) (by omega) (by omega)).mono (fun e w' h => by
      obtain ⟨p, q, rfl, hb, hr⟩ := h
      refine ⟨?_, hb⟩
      rw [← isq_eq (by omega) (by omega) hr.p0 hr.p1 hr.p2, ← isqU_eq (n := b * 1000000000) (by omega) (by omega) hr.q0 hr.q1 hr.q2]))
  generalize isq (a * 1000000000) = p at *
  generalize isqU (b * 1000000000) = q at *
  have hgen := sgen; have hgen2 := sgen2; have hgen3 := sgen3; go_enter Tryz.func58, Tryz.ntmps58
  go_wp2_with (go_at_call 99; (with_reducible refine (HR.out _).mono ?_); rintro e w1 ⟨rfl, hb⟩; have hz := hb.size; (try simp only [szA, szS, szD, szN] at hz); (try (refine bcB (n := w.heap.size) hb ?_; intro h_w_0 e_w_0 d_w_0 _ _)); (try (refine bcB (n := w.heap.size + 1) hb ?_; intro h_w_1 e_w_1 d_w_1 _ _)))
  refine bodyPost_ret (v := .agg #[.int .i64 p, .int .i64 q]) (by simp only [results, Tryz.results58]; go_simp) rfl ⟨rfl, ?_⟩
  exact belz
end
section
set_option maxRecDepth 100000
open Go.RowKit
set_option maxHeartbeats 2000000 in
theorem c_offsets (t : Int) (w : World) (hT : Tab w) (ht : instB t = true) :
    Calls Tryz.prog 55 #[.int .i64 t] w fun e w' => e = .returned (.tuple #[.agg #[.int .i64 (pxLo t), .int .i64 (pxHi t)], .agg #[.int .i64 (pyLo t), .int .i64 (pyHi t)]]) ∧ Below w.heap.size w w' := by
  obtain ⟨o, e0, e1, ew⟩ := el_le t
  obtain ⟨n1, n2⟩ := north_big t
  have n3 := north_le t
  have HE := Lib.hid (fun w1 (h : Tab w1) => c_Elongation t w1 h ht)
  have HL := Lib.hid (fun w1 (h : Tab w1) => c_Latitude t w1 h ht)
  have HT := Lib.hid hT
  unfold pxLo pxHi pyLo pyHi pxB at *
  generalize elLo t = a at *
  generalize elHi t = b at *
  generalize northLo t = c at *
  generalize northHi t = d at *
  clear hT
  have v3 : IntKind.i64.wrap (377 * c) = 377 * c := IntWalk.i64_in _ (by omega)
  have v4 : IntKind.i64.wrap (377 * d) = 377 * d := IntWalk.i64_in _ (by omega)
  by_cases h : 1000000000 < a + b
  · rw [if_pos h]
    have v1 : IntKind.i64.wrap (377 * (a - 1000000000)) = 377 * (a - 1000000000) := IntWalk.i64_in _ (by omega)
    have v2 : IntKind.i64.wrap (377 * (b - 1000000000)) = 377 * (b - 1000000000) := IntWalk.i64_in _ (by omega)
    have hgen := sgen; have hgen2 := sgen2; have hgen3 := sgen3; go_enter Tryz.func55, Tryz.ntmps55
    go_upto_region 5 with (first | (go_at_call 98; (with_reducible refine (HE.out _ (HT.out.below (by exact belz))).mono ?_); rintro e w1 ⟨rfl, hb⟩; have hz := hb.size; (try simp only [szA, szS, szD, szN] at hz); (try (refine bcB (n := w.heap.size) hb ?_; intro h_w_0 e_w_0 d_w_0 _ _)); (try (refine bcB (n := w.heap.size + 1) hb ?_; intro h_w_1 e_w_1 d_w_1 _ _)); (try (refine bcB (n := w.heap.size + 1 + 1) hb ?_; intro h_w_2 e_w_2 d_w_2 _ _))) | (go_at_call 49; (with_reducible refine (HL.out _ (HT.out.below (by exact belz))).mono ?_); rintro e w2 ⟨rfl, hb⟩; have hz := hb.size; (try simp only [szA, szS, szD, szN] at hz); (try (refine bcB (n := w.heap.size) hb ?_; intro h_w_0 e_w_0 d_w_0 _ _)); (try (refine bcB (n := w.heap.size + 1) hb ?_; intro h_w_1 e_w_1 d_w_1 _ _)); (try (refine bcB (n := w1.heap.size) hb ?_; intro h_w1_0 e_w1_0 d_w1_0 _ _))))
    go_region
    all_goals go_wp2
    all_goals refine bodyPost_ret (v := .tuple #[.agg #[.int .i64 (377 * (a - 1000000000)), .int .i64 (377 * (b - 1000000000))], .agg #[.int .i64 (377 * c), .int .i64 (377 * d)]]) (by simp only [results, Tryz.results55]; go_simp) rfl ⟨rfl, ?_⟩
    all_goals exact belz
  · rw [if_neg h]
    have v1 : IntKind.i64.wrap (377 * a) = 377 * (a - 0) := by rw [Int.sub_zero]; exact IntWalk.i64_in _ (by omega)
    have v2 : IntKind.i64.wrap (377 * b) = 377 * (b - 0) := by rw [Int.sub_zero]; exact IntWalk.i64_in _ (by omega)
    have hgen := sgen; have hgen2 := sgen2; have hgen3 := sgen3; go_enter Tryz.func55, Tryz.ntmps55
    go_upto_region 5 with (first | (go_at_call 98; (with_reducible refine (HE.out _ (HT.out.below (by exact belz))).mono ?_); rintro e w1 ⟨rfl, hb⟩; have hz := hb.size; (try simp only [szA, szS, szD, szN] at hz); (try (refine bcB (n := w.heap.size) hb ?_; intro h_w_0 e_w_0 d_w_0 _ _)); (try (refine bcB (n := w.heap.size + 1) hb ?_; intro h_w_1 e_w_1 d_w_1 _ _)); (try (refine bcB (n := w.heap.size + 1 + 1) hb ?_; intro h_w_2 e_w_2 d_w_2 _ _))) | (go_at_call 49; (with_reducible refine (HL.out _ (HT.out.below (by exact belz))).mono ?_); rintro e w2 ⟨rfl, hb⟩; have hz := hb.size; (try simp only [szA, szS, szD, szN] at hz); (try (refine bcB (n := w.heap.size) hb ?_; intro h_w_0 e_w_0 d_w_0 _ _)); (try (refine bcB (n := w.heap.size + 1) hb ?_; intro h_w_1 e_w_1 d_w_1 _ _)); (try (refine bcB (n := w1.heap.size) hb ?_; intro h_w1_0 e_w1_0 d_w1_0 _ _))))
    go_region
    all_goals go_wp2
    all_goals refine bodyPost_ret (v := .tuple #[.agg #[.int .i64 (377 * (a - 0)), .int .i64 (377 * (b - 0))], .agg #[.int .i64 (377 * c), .int .i64 (377 * d)]]) (by simp only [results, Tryz.results55]; go_simp) rfl ⟨rfl, ?_⟩
    all_goals exact belz
end
section
set_option maxRecDepth 100000
open Go.RowKit
theorem c_PlusW (al ah bl bh : Int) (w : World) (a1 : -2000000000000000000 ≤ al) (a2 : al ≤ 2000000000000000000) (a3 : -2000000000000000000 ≤ ah) (a4 : ah ≤ 2000000000000000000) (b1 : -2000000000000000000 ≤ bl) (b2 : bl ≤ 2000000000000000000) (b3 : -2000000000000000000 ≤ bh) (b4 : bh ≤ 2000000000000000000) :
    Calls Tryz.prog 56 #[.agg #[.int .i64 al, .int .i64 ah], .agg #[.int .i64 bl, .int .i64 bh]] w fun e w' => e = .returned (.agg #[.int .i64 (al + bl), .int .i64 (ah + bh)]) ∧ Below w.heap.size w w' := by
  have hgen := sgen; have hgen2 := sgen2; have hgen3 := sgen3; go_enter Tryz.func56, Tryz.ntmps56
  go_wp2
  refine bodyPost_ret (v := .agg #[.int .i64 (al + bl), .int .i64 (ah + bh)]) (by simp only [results, Tryz.results56]; go_simp) rfl ⟨rfl, ?_⟩
  exact belz
/-- A point of the path in memory. -/
structure PpAt (w : World) (b : Nat) (a0 a1 a2 a3 a4 : Int) : Prop where
  lt : b < w.heap.size
  c0 : w.cell? ⟨b, 0, none⟩ = some (.int .i64 a0)
  c1 : w.cell? ⟨b, 1, none⟩ = some (.int .i64 a1)
  c2 : w.cell? ⟨b, 2, none⟩ = some (.int .i64 a2)
  c3 : w.cell? ⟨b, 3, none⟩ = some (.int .i64 a3)
  c4 : w.cell? ⟨b, 4, none⟩ = some (.int .i64 a4)
  f0 : w.frozen? ⟨b, 0, none⟩ = false
  f1 : w.frozen? ⟨b, 1, none⟩ = false
  f2 : w.frozen? ⟨b, 2, none⟩ = false
  f3 : w.frozen? ⟨b, 3, none⟩ = false
  f4 : w.frozen? ⟨b, 4, none⟩ = false
theorem PpAt.below {w w' : World} {b : Nat} {a0 a1 a2 a3 a4 : Int} (h : PpAt w b a0 a1 a2 a3 a4) (hb : Below w.heap.size w w') : PpAt w' b a0 a1 a2 a3 a4 := by
  obtain ⟨l, c0, c1, c2, c3, c4, f0, f1, f2, f3, f4⟩ := h
  exact ⟨Nat.lt_of_lt_of_le l hb.size, (hb.cell l).trans c0, (hb.cell l).trans c1, (hb.cell l).trans c2, (hb.cell l).trans c3, (hb.cell l).trans c4, (hb.frozen l).trans f0, (hb.frozen l).trans f1, (hb.frozen l).trans f2, (hb.frozen l).trans f3, (hb.frozen l).trans f4⟩
structure PaA (t xl xh yl yh xa xb ya yb sma smb : Int) : Prop where
  it : ∀ w1, Calls Tryz.prog 54 #[.int .i64 t] w1 fun e w' => e = .returned (.bool true) ∧ Below w1.heap.size w1 w'
  off : ∀ w1, Tab w1 → Calls Tryz.prog 55 #[.int .i64 t] w1 fun e w' => e = .returned (.tuple #[.agg #[.int .i64 xl, .int .i64 xh], .agg #[.int .i64 yl, .int .i64 yh]]) ∧ Below w1.heap.size w1 w'
  sx : ∀ w1, Calls Tryz.prog 57 #[.agg #[.int .i64 xl, .int .i64 xh]] w1 fun e w' => e = .returned (.agg #[.int .i64 xa, .int .i64 xb]) ∧ Below w1.heap.size w1 w'
  sy : ∀ w1, Calls Tryz.prog 57 #[.agg #[.int .i64 yl, .int .i64 yh]] w1 fun e w' => e = .returned (.agg #[.int .i64 ya, .int .i64 yb]) ∧ Below w1.heap.size w1 w'
  pl : ∀ w1, Calls Tryz.prog 56 #[.agg #[.int .i64 xa, .int .i64 xb], .agg #[.int .i64 ya, .int .i64 yb]] w1 fun e w' => e = .returned (.agg #[.int .i64 sma, .int .i64 smb]) ∧ Below w1.heap.size w1 w'
theorem c_Ctr_range (t : Int) (w : World) (h : instB t = false) (t1 : -9223372036854775808 ≤ t) (t2 : t ≤ 9223372036854775807) :
    Calls Tryz.prog 24 #[.int .i64 t] w fun e w' => e = .returned (.tuple #[.agg #[.int .i64 0, .int .i64 0, .int .i64 0, .int .i64 0, .int .i64 0], .int .i64 3]) ∧ Below w.heap.size w w' := by
  have hi := fun w1 => c_isInst t w1 t1 t2
  rw [h] at hi
  have HI := Lib.hid hi
  clear hi h
  have hgen := sgen; have hgen2 := sgen2; have hgen3 := sgen3; go_enter Tryz.func24, Tryz.ntmps24
  go_wp2_with (go_at_call 54; (with_reducible refine (HI.out _).mono ?_); rintro e w1 ⟨rfl, hb⟩; have hz := hb.size; (try simp only [szA, szS, szD, szN] at hz); (try (refine bcB (n := w.heap.size) hb ?_; intro h_w_0 e_w_0 d_w_0 _ _)))
  refine bodyPost_ret (v := .tuple #[.agg #[.int .i64 0, .int .i64 0, .int .i64 0, .int .i64 0, .int .i64 0], .int .i64 3]) (by simp only [results, Tryz.results24]; go_simp) rfl ⟨rfl, ?_⟩
  exact belz
set_option maxHeartbeats 1000000 in
theorem c_Ctr_far {t xl xh yl yh : Int} (w : World) (hI : ∀ w1, Calls Tryz.prog 54 #[.int .i64 t] w1 fun e w' => e = .returned (.bool true) ∧ Below w1.heap.size w1 w') (hO : ∀ w1, Tab w1 → Calls Tryz.prog 55 #[.int .i64 t] w1 fun e w' => e = .returned (.tuple #[.agg #[.int .i64 xl, .int .i64 xh], .agg #[.int .i64 yl, .int .i64 yh]]) ∧ Below w1.heap.size w1 w') (hT : Tab w) (h : 2000000000 < xl ∨ xh < -2000000000 ∨ 2000000000 < yl ∨ yh < -2000000000) :
    Calls Tryz.prog 24 #[.int .i64 t] w fun e w' => e = .returned (.tuple #[.agg #[.int .i64 0, .int .i64 0, .int .i64 0, .int .i64 0, .int .i64 0], .int .i64 6]) ∧ Below w.heap.size w w' := by
  have HI := Lib.hid hI
  have HO := Lib.hid hO
  have HT := Lib.hid hT
  have hc : decide (xl > 2000000000) = true ∨ (decide (xl > 2000000000) = false ∧ decide (xh < -2000000000) = true) ∨ (decide (xl > 2000000000) = false ∧ decide (xh < -2000000000) = false ∧ decide (yl > 2000000000) = true) ∨ (decide (xl > 2000000000) = false ∧ decide (xh < -2000000000) = false ∧ decide (yl > 2000000000) = false ∧ decide (yh < -2000000000) = true) := by
    simp only [decide_eq_true_eq, decide_eq_false_iff_not]; omega
  clear hI hO hT h
  rcases hc with c1 | ⟨c1, c2⟩ | ⟨c1, c2, c3⟩ | ⟨c1, c2, c3, c4⟩
  all_goals
    have hgen := sgen; have hgen2 := sgen2; have hgen3 := sgen3; go_enter Tryz.func24, Tryz.ntmps24
    go_wp2_with (first | (go_at_call 54; (with_reducible refine (HI.out _).mono ?_); rintro e w1 ⟨rfl, hb⟩; have hz := hb.size; (try simp only [szA, szS, szD, szN] at hz); (try (refine bcB (n := w.heap.size) hb ?_; intro h_w_0 e_w_0 d_w_0 _ _))) | (go_at_call 55; (with_reducible refine (HO.out _ (HT.out.below (by exact belz))).mono ?_); rintro e w2 ⟨rfl, hb⟩; have hz := hb.size; (try simp only [szA, szS, szD, szN] at hz); (try (refine bcB (n := w.heap.size) hb ?_; intro h_w_0 e_w_0 d_w_0 _ _)); (try (refine bcB (n := w1.heap.size) hb ?_; intro h_w1_0 e_w1_0 d_w1_0 _ _))))
    refine bodyPost_ret (v := .tuple #[.agg #[.int .i64 0, .int .i64 0, .int .i64 0, .int .i64 0, .int .i64 0], .int .i64 6]) (by simp only [results, Tryz.results24]; go_simp) rfl ⟨rfl, ?_⟩
    exact belz
set_option maxHeartbeats 4000000 in
theorem c_Ctr_sum {t xl xh yl yh xa xb ya yb sma smb x : Int} (w : World) (hN : PaA t xl xh yl yh xa xb ya yb sma smb) (hT : Tab w) (n1 : xl ≤ 2000000000) (n2 : -2000000000 ≤ xh) (n3 : yl ≤ 2000000000) (n4 : -2000000000 ≤ yh) (h : (1000000000 < sma ∧ x = 6) ∨ (sma ≤ 1000000000 ∧ 1000000000 < smb ∧ x = 11)) :
    Calls Tryz.prog 24 #[.int .i64 t] w fun e w' => e = .returned (.tuple #[.agg #[.int .i64 0, .int .i64 0, .int .i64 0, .int .i64 0, .int .i64 0], .int .i64 x]) ∧ Below w.heap.size w w' := by
  have HN := Lib.hid hN
  have HT := Lib.hid hT
  have HH := Lib.hid h
  have d1 : decide (xl > 2000000000) = false := decide_eq_false (by omega)
  have d2 : decide (xh < -2000000000) = false := decide_eq_false (by omega)
  have d3 : decide (yl > 2000000000) = false := decide_eq_false (by omega)
  have d4 : decide (yh < -2000000000) = false := decide_eq_false (by omega)
  clear hN hT h n1 n2 n3 n4
  have hgen := sgen; have hgen2 := sgen2; have hgen3 := sgen3; go_enter Tryz.func24, Tryz.ntmps24
  go_upto_region 3 with (go_at_call 54; (with_reducible refine (HN.out.it _).mono ?_); rintro e w1 ⟨rfl, hb⟩; have hz := hb.size; (try simp only [szA, szS, szD, szN] at hz); (try (refine bcB (n := w.heap.size) hb ?_; intro h_w_0 e_w_0 d_w_0 _ _)))
  go_cut [4, 5] (fun s4 s5 wc => ∃ b4 b5 : Nat, s4 = .pointer (some ⟨b4, 0, none⟩) ∧ s5 = .pointer (some ⟨b5, 0, none⟩) ∧ SpAt wc b4 xl xh ∧ SpAt wc b5 yl yh ∧ PpAt wc w.heap.size 0 0 0 0 0 ∧ Below w.heap.size w wc)
  case first =>
    go_wp2_with (go_at_call 55; (with_reducible refine (HN.out.off _ (HT.out.below (by exact belz))).mono ?_); rintro e w2 ⟨rfl, hb⟩; have hz := hb.size; (try simp only [szA, szS, szD, szN] at hz); (try (refine bcB (n := w.heap.size) hb ?_; intro h_w_0 e_w_0 d_w_0 _ _)); (try (refine bcB (n := w1.heap.size) hb ?_; intro h_w1_0 e_w1_0 d_w1_0 _ _)))
    go_meet
    case rel =>
      refine ⟨w2.heap.size, w2.heap.size + 1, by go_simp, by go_simp, ?_, ?_, ?_, ?_⟩
      all_goals first | (constructor <;> go_simp; done) | exact belz
  case rest =>
    obtain ⟨b4, b5, rfl, rfl, m4, m5, mr, hbc⟩ := hcut
    have hsz := hbc.size
    have ⟨l4, c40, c41, f40, f41⟩ := m4
    have ⟨l5, c50, c51, f50, f51⟩ := m5
    obtain ⟨wd, rfl⟩ : ∃ wd : World, wd = wc := ⟨_, rfl⟩
    go_upto_region 6 with fail
    go_cut [6] (fun s wc => ∃ b6 : Nat, s = .pointer (some ⟨b6, 0, none⟩) ∧ SpAt wc b6 sma smb ∧ Below wd.heap.size wd wc)
    case first =>
      go_region_held3 (fun w' => w'.cell? ⟨b4, 0, none⟩ = some (.int .i64 xl) ∧ w'.cell? ⟨b4, 1, none⟩ = some (.int .i64 xh) ∧ w'.cell? ⟨b5, 0, none⟩ = some (.int .i64 yl) ∧ w'.cell? ⟨b5, 1, none⟩ = some (.int .i64 yh)) (refine ⟨?_, ?_, ?_, ?_⟩ <;> (first | (go_simp; done) | go_keep)) (first | (go_at_call 57; (with_reducible refine (HN.out.sx _).mono ?_); rintro e w3 ⟨rfl, hb⟩; have hz := hb.size; (try simp only [szA, szS, szD, szN] at hz); (try (refine bcB (n := b4) hb ?_; intro h_bb4_0 e_bb4_0 d_bb4_0 _ _)); (try (refine bcB (n := b5) hb ?_; intro h_bb5_0 e_bb5_0 d_bb5_0 _ _)); (try (refine bcB (n := wd.heap.size) hb ?_; intro h_wd_0 e_wd_0 d_wd_0 _ _))) | (go_at_call 57; (with_reducible refine (HN.out.sy _).mono ?_); rintro e w4 ⟨rfl, hb⟩; have hz := hb.size; (try simp only [szA, szS, szD, szN] at hz); (try (refine bcB (n := b4) hb ?_; intro h_bb4_0 e_bb4_0 d_bb4_0 _ _)); (try (refine bcB (n := b5) hb ?_; intro h_bb5_0 e_bb5_0 d_bb5_0 _ _)); (try (refine bcB (n := wd.heap.size) hb ?_; intro h_wd_0 e_wd_0 d_wd_0 _ _)); (try (refine bcB (n := w3.heap.size) hb ?_; intro h_w3_0 e_w3_0 d_w3_0 _ _))) | (go_at_call 56; (with_reducible refine (HN.out.pl _).mono ?_); rintro e w5 ⟨rfl, hb⟩; have hz := hb.size; (try simp only [szA, szS, szD, szN] at hz); (try (refine bcB (n := b4) hb ?_; intro h_bb4_0 e_bb4_0 d_bb4_0 _ _)); (try (refine bcB (n := b5) hb ?_; intro h_bb5_0 e_bb5_0 d_bb5_0 _ _)); (try (refine bcB (n := wd.heap.size) hb ?_; intro h_wd_0 e_wd_0 d_wd_0 _ _)); (try (refine bcB (n := w3.heap.size) hb ?_; intro h_w3_0 e_w3_0 d_w3_0 _ _)); (try (refine bcB (n := w4.heap.size) hb ?_; intro h_w4_0 e_w4_0 d_w4_0 _ _))))
      all_goals (go_step; apply_assumption; refine Met.intro ?_; apply_assumption; (repeat apply Exists.intro); refine ⟨?_, rfl⟩; (refine ⟨_, rfl, ?_, ?_⟩ <;> first | (constructor <;> go_simp; done) | exact belz))
    case rest =>
      obtain ⟨b6, rfl, m6, hbd⟩ := hcut
      obtain ⟨l0, z0, z1, z2, z3, z4, y0, y1, y2, y3, y4⟩ := mr.below hbd
      clear m4 m5 mr
      obtain ⟨l6, c60, c61, f60, f61⟩ := m6
      have hW : Below w.heap.size w wc := Below.call hbc (by omega) hbd
      clear hbd hbc
      rcases HH.out with ⟨g1, rfl⟩ | ⟨g1, g2, rfl⟩
      · go_wp2
        refine bodyPost_ret (v := .tuple #[.agg #[.int .i64 0, .int .i64 0, .int .i64 0, .int .i64 0, .int .i64 0], .int .i64 6]) (by simp only [results, Tryz.results24]; go_simp) rfl ⟨rfl, ?_⟩
        exact belz
      · go_wp2
        refine bodyPost_ret (v := .tuple #[.agg #[.int .i64 0, .int .i64 0, .int .i64 0, .int .i64 0, .int .i64 0], .int .i64 11]) (by simp only [results, Tryz.results24]; go_simp) rfl ⟨rfl, ?_⟩
        exact belz
end
end Go.Proofs.YtcgnhnmigmdalaaGreatDoor
