/- Contracts of dial.Line told by the angles it computes, and of dialWorks. -/
import Derived.Test.YtjkhoepohiafeaaDoorAsA
import Derived.Test.YtjkhoepohiafeaaDoorWkD
import Derived.Test.YtjkhoepohiafeaaDoorPlainLook
import Derived.Deep.RegionHeld3
set_option linter.unusedVariables false
set_option linter.unusedSimpArgs false
namespace Go.Proofs.YtjkhoepohiafeaaDoor
open Go.RowKit
/-- What Line calls, at a latitude and an hour. -/
structure LinC (lat h s0 s1 c0 c1 f0 f1 y0 y1 p q : Int) : Prop where
  s : ∀ w, Tab w → Calls Tryd.prog 41 #[.int .i64 h] w fun e w' => e = .returned (.tuple #[.agg #[.int .i64 s0, .int .i64 s1], .int .i64 0]) ∧ Below w.heap.size w w'
  c : ∀ w, Tab w → Calls Tryd.prog 42 #[.int .i64 h] w fun e w' => e = .returned (.tuple #[.agg #[.int .i64 c0, .int .i64 c1], .int .i64 0]) ∧ Below w.heap.size w w'
  f : ∀ w, Tab w → Calls Tryd.prog 41 #[.int .i64 lat] w fun e w' => e = .returned (.tuple #[.agg #[.int .i64 f0, .int .i64 f1], .int .i64 0]) ∧ Below w.heap.size w w'
  t : ∀ w, Calls Tryd.prog 44 #[.agg #[.int .i64 f0, .int .i64 f1], .agg #[.int .i64 s0, .int .i64 s1]] w fun e w' => e = .returned (.agg #[.int .i64 y0, .int .i64 y1]) ∧ Below w.heap.size w w'
  a : ∀ w, Calls Tryd.prog 43 #[.agg #[.int .i64 y0, .int .i64 y1], .agg #[.int .i64 c0, .int .i64 c1]] w fun e w' => e = .returned (.tuple #[.agg #[.int .i64 p, .int .i64 q], .int .i64 0]) ∧ Below w.heap.size w w'
def liP (p q : Int) : Int := if 500000000 < p then p - 1000000000 else p
def liQ (p q : Int) : Int := if 500000000 < p then q - 1000000000 else q
set_option maxHeartbeats 2000000 in
theorem c_LineV {lat hour h s0 s1 c0 c1 f0 f1 y0 y1 p q : Int} (hl : LinC lat h s0 s1 c0 c1 f0 f1 y0 y1 p q) (w : World) (hT : Tab w) (l0 : 10000000 ≤ lat) (l1 : lat ≤ 220000000) (h0 : 6 ≤ hour) (h1 : hour ≤ 18) (hh : ((hour - 12) * 1000000000).tdiv 24 = h) (p0 : -2000000000 ≤ p) (p1 : p ≤ 2000000000) (q0 : -2000000000 ≤ q) (q1 : q ≤ 2000000000) :
    Calls Tryd.prog 12 #[.int .i64 lat, .int .i64 hour] w fun e w' => e = .returned (.tuple #[.agg #[.int .i64 (liP p q), .int .i64 (liQ p q)], .int .i64 0]) ∧ Below w.heap.size w w' := by
  have HS := Lib.hid hl.s
  have HC := Lib.hid hl.c
  have HF := Lib.hid hl.f
  have HM := Lib.hid hl.t
  have HA := Lib.hid hl.a
  have HT := Lib.hid hT
  have D1 : decide (lat < 10000000) = false := decide_eq_false (by omega)
  have D2 : decide (220000000 < lat) = false := decide_eq_false (by omega)
  have D3 : decide (hour < 6) = false := decide_eq_false (by omega)
  have D4 : decide (18 < hour) = false := decide_eq_false (by omega)
  have V1 : IntKind.i64.wrap (hour - 12) = hour - 12 := IntWalk.i64_in _ (by omega)
  have V2 : IntKind.i64.wrap ((hour - 12) * 1000000000) = (hour - 12) * 1000000000 := IntWalk.i64_in _ (by omega)
  have hb : -1000000000 ≤ h ∧ h ≤ 1000000000 := by
    rw [← hh]
    by_cases c : 0 ≤ (hour - 12) * 1000000000
    · rw [Int.tdiv_eq_ediv_of_nonneg c]; omega
    · have := Int.neg_tdiv ((hour - 12) * 1000000000) 24
      rw [Int.tdiv_eq_ediv_of_nonneg (by omega)] at this
      omega
  have V3 : IntKind.i64.wrap (((hour - 12) * 1000000000).tdiv 24) = h := by rw [hh]; exact IntWalk.i64_in _ (by omega)
  have V6 : wrap64 h = h := (IntWalk.i64_left h).symm.trans (IntWalk.i64_in h (by omega))
  have V4 : IntKind.i64.wrap (p - 1000000000) = p - 1000000000 := IntWalk.i64_in _ (by omega)
  have V5 : IntKind.i64.wrap (q - 1000000000) = q - 1000000000 := IntWalk.i64_in _ (by omega)
  clear hl hT hb
  by_cases c : 500000000 < p
  · have C : decide (500000000 < p) = true := decide_eq_true c
    rw [show liP p q = p - 1000000000 by unfold liP; exact if_pos c, show liQ p q = q - 1000000000 by unfold liQ; exact if_pos c]
    clear c
    have hgen := sgen; have hgen2 := sgen2; have hgen3 := sgen3; go_enter Tryd.func12, Tryd.ntmps12
    go_upto_region 9 with (first | (go_at_call 41; (with_reducible refine (HS.out _ (HT.out.below (by exact belz))).mono ?_); rintro e w1 ⟨rfl, hb⟩; have hz := hb.size; (try simp only [szA, szS, szD, szN] at hz); (try (refine bcB (n := w.heap.size) hb ?_; intro h_w_0 e_w_0 d_w_0 _ _))) | (go_at_call 42; (with_reducible refine (HC.out _ (HT.out.below (by exact belz))).mono ?_); rintro e w2 ⟨rfl, hb⟩; have hz := hb.size; (try simp only [szA, szS, szD, szN] at hz); (try (refine bcB (n := w.heap.size) hb ?_; intro h_w_0 e_w_0 d_w_0 _ _)); (try (refine bcB (n := w1.heap.size) hb ?_; intro h_w1_0 e_w1_0 d_w1_0 _ _))) | (go_at_call 41; (with_reducible refine (HF.out _ (HT.out.below (by exact belz))).mono ?_); rintro e w3 ⟨rfl, hb⟩; have hz := hb.size; (try simp only [szA, szS, szD, szN] at hz); (try (refine bcB (n := w.heap.size) hb ?_; intro h_w_0 e_w_0 d_w_0 _ _)); (try (refine bcB (n := w1.heap.size) hb ?_; intro h_w1_0 e_w1_0 d_w1_0 _ _)); (try (refine bcB (n := w2.heap.size) hb ?_; intro h_w2_0 e_w2_0 d_w2_0 _ _))))
    go_region_held3 (fun w' => w'.cell? ⟨w.heap.size, 0, none⟩ = some (.int .i64 0) ∧ w'.cell? ⟨w.heap.size, 1, none⟩ = some (.int .i64 0) ∧ w'.cell? ⟨w1.heap.size, 0, none⟩ = some (.int .i64 s0) ∧ w'.cell? ⟨w1.heap.size, 1, none⟩ = some (.int .i64 s1) ∧ w'.cell? ⟨w2.heap.size, 0, none⟩ = some (.int .i64 c0) ∧ w'.cell? ⟨w2.heap.size, 1, none⟩ = some (.int .i64 c1) ∧ w'.cell? ⟨w3.heap.size, 0, none⟩ = some (.int .i64 f0) ∧ w'.cell? ⟨w3.heap.size, 1, none⟩ = some (.int .i64 f1)) (refine ⟨?_, ?_, ?_, ?_, ?_, ?_, ?_, ?_⟩ <;> (first | (go_simp; done) | go_keep)) (first | (go_at_call 44; (with_reducible refine (HM.out _).mono ?_); rintro e w4 ⟨rfl, hb⟩; have hz := hb.size; (try simp only [szA, szS, szD, szN] at hz); (try (refine bcB (n := w.heap.size) hb ?_; intro h_w_0 e_w_0 d_w_0 _ _)); (try (refine bcB (n := w1.heap.size) hb ?_; intro h_w1_0 e_w1_0 d_w1_0 _ _)); (try (refine bcB (n := w2.heap.size) hb ?_; intro h_w2_0 e_w2_0 d_w2_0 _ _)); (try (refine bcB (n := w3.heap.size) hb ?_; intro h_w3_0 e_w3_0 d_w3_0 _ _)); (try (refine bcB (n := w3.heap.size + 1) hb ?_; intro h_w3_1 e_w3_1 d_w3_1 _ _))) | (go_at_call 43; (with_reducible refine (HA.out _).mono ?_); rintro e w5 ⟨rfl, hb⟩; have hz := hb.size; (try simp only [szA, szS, szD, szN] at hz); (try (refine bcB (n := w.heap.size) hb ?_; intro h_w_0 e_w_0 d_w_0 _ _)); (try (refine bcB (n := w1.heap.size) hb ?_; intro h_w1_0 e_w1_0 d_w1_0 _ _)); (try (refine bcB (n := w2.heap.size) hb ?_; intro h_w2_0 e_w2_0 d_w2_0 _ _)); (try (refine bcB (n := w3.heap.size) hb ?_; intro h_w3_0 e_w3_0 d_w3_0 _ _)); (try (refine bcB (n := w3.heap.size + 1) hb ?_; intro h_w3_1 e_w3_1 d_w3_1 _ _)); (try (refine bcB (n := w4.heap.size) hb ?_; intro h_w4_0 e_w4_0 d_w4_0 _ _))))
    all_goals go_wp2
    all_goals refine bodyPost_ret (v := .tuple #[.agg #[.int .i64 (p - 1000000000), .int .i64 (q - 1000000000)], .int .i64 0]) (by simp only [results, Tryd.results12]; go_simp) rfl ⟨rfl, ?_⟩
    all_goals exact belz
  · have C : decide (500000000 < p) = false := decide_eq_false c
    rw [show liP p q = p by unfold liP; exact if_neg c, show liQ p q = q by unfold liQ; exact if_neg c]
    clear c
    have hgen := sgen; have hgen2 := sgen2; have hgen3 := sgen3; go_enter Tryd.func12, Tryd.ntmps12
    go_upto_region 9 with (first | (go_at_call 41; (with_reducible refine (HS.out _ (HT.out.below (by exact belz))).mono ?_); rintro e w1 ⟨rfl, hb⟩; have hz := hb.size; (try simp only [szA, szS, szD, szN] at hz); (try (refine bcB (n := w.heap.size) hb ?_; intro h_w_0 e_w_0 d_w_0 _ _))) | (go_at_call 42; (with_reducible refine (HC.out _ (HT.out.below (by exact belz))).mono ?_); rintro e w2 ⟨rfl, hb⟩; have hz := hb.size; (try simp only [szA, szS, szD, szN] at hz); (try (refine bcB (n := w.heap.size) hb ?_; intro h_w_0 e_w_0 d_w_0 _ _)); (try (refine bcB (n := w1.heap.size) hb ?_; intro h_w1_0 e_w1_0 d_w1_0 _ _))) | (go_at_call 41; (with_reducible refine (HF.out _ (HT.out.below (by exact belz))).mono ?_); rintro e w3 ⟨rfl, hb⟩; have hz := hb.size; (try simp only [szA, szS, szD, szN] at hz); (try (refine bcB (n := w.heap.size) hb ?_; intro h_w_0 e_w_0 d_w_0 _ _)); (try (refine bcB (n := w1.heap.size) hb ?_; intro h_w1_0 e_w1_0 d_w1_0 _ _)); (try (refine bcB (n := w2.heap.size) hb ?_; intro h_w2_0 e_w2_0 d_w2_0 _ _))))
    go_region_held3 (fun w' => w'.cell? ⟨w.heap.size, 0, none⟩ = some (.int .i64 0) ∧ w'.cell? ⟨w.heap.size, 1, none⟩ = some (.int .i64 0) ∧ w'.cell? ⟨w1.heap.size, 0, none⟩ = some (.int .i64 s0) ∧ w'.cell? ⟨w1.heap.size, 1, none⟩ = some (.int .i64 s1) ∧ w'.cell? ⟨w2.heap.size, 0, none⟩ = some (.int .i64 c0) ∧ w'.cell? ⟨w2.heap.size, 1, none⟩ = some (.int .i64 c1) ∧ w'.cell? ⟨w3.heap.size, 0, none⟩ = some (.int .i64 f0) ∧ w'.cell? ⟨w3.heap.size, 1, none⟩ = some (.int .i64 f1)) (refine ⟨?_, ?_, ?_, ?_, ?_, ?_, ?_, ?_⟩ <;> (first | (go_simp; done) | go_keep)) (first | (go_at_call 44; (with_reducible refine (HM.out _).mono ?_); rintro e w4 ⟨rfl, hb⟩; have hz := hb.size; (try simp only [szA, szS, szD, szN] at hz); (try (refine bcB (n := w.heap.size) hb ?_; intro h_w_0 e_w_0 d_w_0 _ _)); (try (refine bcB (n := w1.heap.size) hb ?_; intro h_w1_0 e_w1_0 d_w1_0 _ _)); (try (refine bcB (n := w2.heap.size) hb ?_; intro h_w2_0 e_w2_0 d_w2_0 _ _)); (try (refine bcB (n := w3.heap.size) hb ?_; intro h_w3_0 e_w3_0 d_w3_0 _ _)); (try (refine bcB (n := w3.heap.size + 1) hb ?_; intro h_w3_1 e_w3_1 d_w3_1 _ _))) | (go_at_call 43; (with_reducible refine (HA.out _).mono ?_); rintro e w5 ⟨rfl, hb⟩; have hz := hb.size; (try simp only [szA, szS, szD, szN] at hz); (try (refine bcB (n := w.heap.size) hb ?_; intro h_w_0 e_w_0 d_w_0 _ _)); (try (refine bcB (n := w1.heap.size) hb ?_; intro h_w1_0 e_w1_0 d_w1_0 _ _)); (try (refine bcB (n := w2.heap.size) hb ?_; intro h_w2_0 e_w2_0 d_w2_0 _ _)); (try (refine bcB (n := w3.heap.size) hb ?_; intro h_w3_0 e_w3_0 d_w3_0 _ _)); (try (refine bcB (n := w3.heap.size + 1) hb ?_; intro h_w3_1 e_w3_1 d_w3_1 _ _)); (try (refine bcB (n := w4.heap.size) hb ?_; intro h_w4_0 e_w4_0 d_w4_0 _ _))))
    all_goals go_wp2
    all_goals refine bodyPost_ret (v := .tuple #[.agg #[.int .i64 p, .int .i64 q], .int .i64 0]) (by simp only [results, Tryd.results12]; go_simp) rfl ⟨rfl, ?_⟩
    all_goals exact belz
theorem c_hasL (lo hi n wd : Int) (w : World) (h1 : lo ≤ n) (h2 : n ≤ hi) (h3 : hi - lo ≤ wd) (b1 : -4000000000000000000 ≤ lo) (b2 : hi ≤ 4000000000000000000) : Calls Tryd.prog 40 #[.agg #[.int .i64 lo, .int .i64 hi], .int .i64 n, .int .i64 wd] w fun e w' => e = .returned (.bool true) ∧ Below w.heap.size w w' := by
  have hgen := sgen; have hgen2 := sgen2; have hgen3 := sgen3; go_enter Tryd.func40, Tryd.ntmps40
  go_wp2
  go_ret
  refine ⟨rfl, ?_⟩
  exact belz
/-- The example of dialWorks. -/
def ldS0 : Int := sineLo 125000000
def ldS1 : Int := sineHi 125000000
def ldC0 : Int := sineLo (125000000 % 1000000000 + 250000000)
def ldC1 : Int := sineHi (125000000 % 1000000000 + 250000000)
def ldY0 : Int := pLo ldS0 ldS1 ldS0 ldS1 1000000000
def ldY1 : Int := pHi ldS0 ldS1 ldS0 ldS1 1000000000
theorem ld_fix : 0 < ldY0 ∧ ldY0 ≤ ldY1 ∧ ldY1 ≤ 1000000000 ∧ 0 < ldC0 ∧ ldC0 ≤ ldC1 ∧ ldC1 ≤ 1000000000 ∧ arcLo ldY0 ldY1 ldC0 ldC1 ≤ 97956638 ∧ 97956638 ≤ arcHi ldY0 ldY1 ldC0 ldC1 ∧ arcHi ldY0 ldY1 ldC0 ldC1 - arcLo ldY0 ldY1 ldC0 ldC1 ≤ 50 := by decide +kernel
theorem lin_fix : ∃ p q : Int, LinC 125000000 125000000 ldS0 ldS1 ldC0 ldC1 ldS0 ldS1 ldY0 ldY1 p q ∧ 0 ≤ p ∧ p ≤ 97956638 ∧ 97956638 ≤ q ∧ q - p ≤ 50 := by
  obtain ⟨a1, a2, a3, b1, b2, b3, c1, c2, c3⟩ := ld_fix
  have sp : Sp1 ldS0 ldS1 := sine_sp 125000000
  obtain ⟨-, ho, ha⟩ := c_Arc_all ldY0 ldY1 ldC0 ldC1 a2 b2 (by omega) (by omega) (by omega) (by omega) (by omega)
  have e1 : arcLo ldY0 ldY1 ldC0 ldC1 % 1000000000 = arcLo ldY0 ldY1 ldC0 ldC1 := Int.emod_eq_of_lt (by omega) (by omega)
  refine ⟨arcLo ldY0 ldY1 ldC0 ldC1, arcHi ldY0 ldY1 ldC0 ldC1, ⟨fun w h => c_Sin_ok 125000000 w h (by decide), fun w h => c_Cos_ok 125000000 w h (by decide), fun w h => c_Sin_ok 125000000 w h (by decide), fun w => c_Times _ _ _ _ w sp sp, fun w => (ha w).mono ?_⟩, by omega, c1, c2, c3⟩
  rintro e w' ⟨⟨h, -⟩ | ⟨-, h⟩, hb⟩
  · omega
  · refine ⟨?_, hb⟩
    rw [h, e1, show arcLo ldY0 ldY1 ldC0 ldC1 + arcHi ldY0 ldY1 ldC0 ldC1 - arcLo ldY0 ldY1 ldC0 ldC1 = arcHi ldY0 ldY1 ldC0 ldC1 by omega]
theorem c_dialWorks (w : World) (hT : Tab w) : Calls Tryd.prog 11 #[] w fun e w' => e = .returned (.bool true) ∧ Below w.heap.size w w' := by
  obtain ⟨p, q, hl, p0, p1, q0, q1⟩ := lin_fix
  have hL := fun w1 h1 => c_LineV (hour := 15) hl w1 h1 (by decide) (by decide) (by decide) (by decide) (by decide) (by omega) (by omega) (by omega) (by omega)
  rw [show liP p q = p by unfold liP; exact if_neg (by omega), show liQ p q = q by unfold liQ; exact if_neg (by omega)] at hL
  have HL := Lib.hid hL
  have HH := Lib.hid (fun w1 => c_hasL p q 97956638 50 w1 p1 q0 q1 (by omega) (by omega))
  have HT := Lib.hid hT
  clear hL hl hT p0 p1 q0 q1
  have hgen := sgen; have hgen2 := sgen2; have hgen3 := sgen3; go_enter Tryd.func11, Tryd.ntmps11
  go_wp2_with (first | (go_at_call 12; (with_reducible refine (HL.out _ (HT.out.below (by exact belz))).mono ?_); rintro e w1 ⟨rfl, hb⟩; have hz := hb.size; (try simp only [szA, szS, szD, szN] at hz); (try (refine bcB (n := w.heap.size) hb ?_; intro h_w_0 e_w_0 d_w_0 _ _))) | (go_at_call 40; (with_reducible refine (HH.out _).mono ?_); rintro e w2 ⟨rfl, hb⟩; have hz := hb.size; (try simp only [szA, szS, szD, szN] at hz); (try (refine bcB (n := w.heap.size) hb ?_; intro h_w_0 e_w_0 d_w_0 _ _)); (try (refine bcB (n := w1.heap.size) hb ?_; intro h_w1_0 e_w1_0 d_w1_0 _ _))))
  go_ret
  refine ⟨rfl, ?_⟩
  exact belz
end Go.Proofs.YtjkhoepohiafeaaDoor
