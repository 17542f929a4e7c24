/- The contract of place.look. -/
import Derived.Test.YtcgnhnmigmdalaaGreatDoorLkB
import Derived.Test.YtcgnhnmigmdalaaGreatDoorAsA
import Derived.Test.YtcgnhnmigmdalaaGreatDoorLkA
import Derived.Deep.DeepCutAuto
set_option linter.unusedVariables false
set_option linter.unusedSimpArgs false
namespace Go.Proofs.YtcgnhnmigmdalaaGreatDoor
open Go.RowKit
theorem c_pclip (l h : Int) (w : World) : Calls Tryz.prog 93 #[.agg #[.int .i64 l, .int .i64 h]] w fun e w' => e = .returned (.agg #[.int .i64 (clipL l), .int .i64 (clipH h)]) ∧ Below w.heap.size w w' := by
  rcases (show l < -1000000000 ∨ (-1000000000 ≤ l ∧ l ≤ 1000000000) ∨ 1000000000 < l by omega) with h1 | ⟨h1, h1'⟩ | h1 <;> rcases (show h < -1000000000 ∨ (-1000000000 ≤ h ∧ h ≤ 1000000000) ∨ 1000000000 < h by omega) with h2 | ⟨h2, h2'⟩ | h2
  all_goals
    have E1 := Lib.hid (show clipL l = if l < -1000000000 then -1000000000 else if 1000000000 < l then 1000000000 else l by unfold clipL; omega)
    have E2 := Lib.hid (show clipH h = if 1000000000 < h then 1000000000 else if h < -1000000000 then -1000000000 else h by unfold clipH; omega)
    have hgen := sgen; have hgen2 := sgen2; have hgen3 := sgen3; go_enter Tryz.func93, Tryz.ntmps93
    go_wp2
    refine bodyPost_ret (v := .agg #[.int .i64 (clipL l), .int .i64 (clipH h)]) (by simp only [results, Tryz.results93]; rw [E1.out, E2.out]; (repeat (first | rw [if_pos (by omega)] | rw [if_neg (by omega)])); go_simp; omega) rfl ⟨rfl, ?_⟩
    exact belz
theorem c_Minus9 (al ah bl bh : Int) (w : World) (a1 : -1000000000000000000 ≤ al) (a2 : al ≤ 1000000000000000000) (a3 : -1000000000000000000 ≤ ah) (a4 : ah ≤ 1000000000000000000) (b1 : -1000000000000000000 ≤ bl) (b2 : bl ≤ 1000000000000000000) (b3 : -1000000000000000000 ≤ bh) (b4 : bh ≤ 1000000000000000000) :
    Calls Tryz.prog 63 #[.agg #[.int .i64 al, .int .i64 ah], .agg #[.int .i64 bl, .int .i64 bh]] w fun e w' => e = .returned (.agg #[.int .i64 (al - bh), .int .i64 (ah - bl)]) ∧ Below w.heap.size w w' := by
  have hgen := sgen; have hgen2 := sgen2; have hgen3 := sgen3; go_enter Tryz.func63, Tryz.ntmps63
  go_wp2
  refine bodyPost_ret (v := .agg #[.int .i64 (al - bh), .int .i64 (ah - bl)]) (by simp only [results, Tryz.results63]; go_simp) rfl ⟨rfl, ?_⟩
  exact belz
/-- The result of look in a block of the call's own, not yet written. -/
structure PtAt (w : World) (b : Nat) : Prop where
  lt : b < w.heap.size
  c0 : w.cell? ⟨b, 0, none⟩ = some (.int .i64 0)
  c1 : w.cell? ⟨b, 1, none⟩ = some (.int .i64 0)
  c2 : w.cell? ⟨b, 2, none⟩ = some (.int .i64 0)
  c3 : w.cell? ⟨b, 3, none⟩ = some (.int .i64 0)
  c4 : w.cell? ⟨b, 4, none⟩ = some (.int .i64 0)
  c5 : w.cell? ⟨b, 5, none⟩ = some (.int .i64 0)
  f0 : w.frozen? ⟨b, 0, none⟩ = false
  f1 : w.frozen? ⟨b, 1, none⟩ = false
  f2 : w.frozen? ⟨b, 2, none⟩ = false
  f3 : w.frozen? ⟨b, 3, none⟩ = false
  f4 : w.frozen? ⟨b, 4, none⟩ = false
  f5 : w.frozen? ⟨b, 5, none⟩ = false
/-- What the walk of look asks: its parts' contracts, with numbers of any names. -/
structure LkN (lon lat t s0 s1 a0 a1 d0 d1 h0 h1 sH0 sH1 cH0 cH1 sD0 sD1 cD0 cD1 sF0 sF1 cF0 cF1 n0 n1 e0 e1 p0 p1 q0 q1 r0 r1 v0 v1 u0 u1 x0 x1 y0 y1 : Int) : Prop where
  sid : ∀ w1, Tab w1 → Calls Tryz.prog 44 #[.agg #[.int .i64 lon, .int .i64 lat], .int .i64 t] w1 fun e w' => e = .returned (.tuple #[.agg #[.int .i64 s0, .int .i64 s1], .int .i64 0]) ∧ Below w1.heap.size w1 w'
  ca : ∀ w1 : World, Calls Tryz.prog 87 #[.agg #[.int .i64 a0, .int .i64 a1]] w1 fun e w' => e = .returned (.int .i64 0) ∧ Below w1.heap.size w1 w'
  cd : ∀ w1 : World, Calls Tryz.prog 87 #[.agg #[.int .i64 d0, .int .i64 d1]] w1 fun e w' => e = .returned (.int .i64 0) ∧ Below w1.heap.size w1 w'
  mh : ∀ w1 : World, Calls Tryz.prog 63 #[.agg #[.int .i64 s0, .int .i64 s1], .agg #[.int .i64 a0, .int .i64 a1]] w1 fun e w' => e = .returned (.agg #[.int .i64 h0, .int .i64 h1]) ∧ Below w1.heap.size w1 w'
  sh : ∀ w1, Tab w1 → Calls Tryz.prog 59 #[.agg #[.int .i64 h0, .int .i64 h1]] w1 fun e w' => e = .returned (.tuple #[.agg #[.int .i64 sH0, .int .i64 sH1], .int .i64 0]) ∧ Below w1.heap.size w1 w'
  ch : ∀ w1, Tab w1 → Calls Tryz.prog 60 #[.agg #[.int .i64 h0, .int .i64 h1]] w1 fun e w' => e = .returned (.tuple #[.agg #[.int .i64 cH0, .int .i64 cH1], .int .i64 0]) ∧ Below w1.heap.size w1 w'
  sd : ∀ w1, Tab w1 → Calls Tryz.prog 59 #[.agg #[.int .i64 d0, .int .i64 d1]] w1 fun e w' => e = .returned (.tuple #[.agg #[.int .i64 sD0, .int .i64 sD1], .int .i64 0]) ∧ Below w1.heap.size w1 w'
  cD : ∀ w1, Tab w1 → Calls Tryz.prog 60 #[.agg #[.int .i64 d0, .int .i64 d1]] w1 fun e w' => e = .returned (.tuple #[.agg #[.int .i64 cD0, .int .i64 cD1], .int .i64 0]) ∧ Below w1.heap.size w1 w'
  sf : ∀ w1, Tab w1 → Calls Tryz.prog 91 #[.int .i64 lat] w1 fun e w' => e = .returned (.tuple #[.agg #[.int .i64 sF0, .int .i64 sF1], .int .i64 0]) ∧ Below w1.heap.size w1 w'
  cf : ∀ w1, Tab w1 → Calls Tryz.prog 92 #[.int .i64 lat] w1 fun e w' => e = .returned (.tuple #[.agg #[.int .i64 cF0, .int .i64 cF1], .int .i64 0]) ∧ Below w1.heap.size w1 w'
  tn : ∀ w1 : World, Calls Tryz.prog 62 #[.agg #[.int .i64 cD0, .int .i64 cD1], .agg #[.int .i64 cH0, .int .i64 cH1]] w1 fun e w' => e = .returned (.agg #[.int .i64 n0, .int .i64 n1]) ∧ Below w1.heap.size w1 w'
  te : ∀ w1 : World, Calls Tryz.prog 62 #[.agg #[.int .i64 cD0, .int .i64 cD1], .agg #[.int .i64 sH0, .int .i64 sH1]] w1 fun e w' => e = .returned (.agg #[.int .i64 e0, .int .i64 e1]) ∧ Below w1.heap.size w1 w'
  tp : ∀ w1 : World, Calls Tryz.prog 62 #[.agg #[.int .i64 sF0, .int .i64 sF1], .agg #[.int .i64 sD0, .int .i64 sD1]] w1 fun e w' => e = .returned (.agg #[.int .i64 p0, .int .i64 p1]) ∧ Below w1.heap.size w1 w'
  tq : ∀ w1 : World, Calls Tryz.prog 62 #[.agg #[.int .i64 cF0, .int .i64 cF1], .agg #[.int .i64 n0, .int .i64 n1]] w1 fun e w' => e = .returned (.agg #[.int .i64 q0, .int .i64 q1]) ∧ Below w1.heap.size w1 w'
  tr : ∀ w1 : World, Calls Tryz.prog 62 #[.agg #[.int .i64 cF0, .int .i64 cF1], .agg #[.int .i64 sD0, .int .i64 sD1]] w1 fun e w' => e = .returned (.agg #[.int .i64 r0, .int .i64 r1]) ∧ Below w1.heap.size w1 w'
  tv : ∀ w1 : World, Calls Tryz.prog 62 #[.agg #[.int .i64 sF0, .int .i64 sF1], .agg #[.int .i64 n0, .int .i64 n1]] w1 fun e w' => e = .returned (.agg #[.int .i64 v0, .int .i64 v1]) ∧ Below w1.heap.size w1 w'
  pl : ∀ w1 : World, Calls Tryz.prog 56 #[.agg #[.int .i64 p0, .int .i64 p1], .agg #[.int .i64 q0, .int .i64 q1]] w1 fun e w' => e = .returned (.agg #[.int .i64 (p0 + q0), .int .i64 (p1 + q1)]) ∧ Below w1.heap.size w1 w'
  mi : ∀ w1 : World, Calls Tryz.prog 63 #[.agg #[.int .i64 r0, .int .i64 r1], .agg #[.int .i64 v0, .int .i64 v1]] w1 fun e w' => e = .returned (.agg #[.int .i64 (r0 - v1), .int .i64 (r1 - v0)]) ∧ Below w1.heap.size w1 w'
  cu : ∀ w1 : World, Calls Tryz.prog 93 #[.agg #[.int .i64 (p0 + q0), .int .i64 (p1 + q1)]] w1 fun e w' => e = .returned (.agg #[.int .i64 u0, .int .i64 u1]) ∧ Below w1.heap.size w1 w'
  cx : ∀ w1 : World, Calls Tryz.prog 93 #[.agg #[.int .i64 (-e1), .int .i64 (-e0)]] w1 fun e w' => e = .returned (.agg #[.int .i64 x0, .int .i64 x1]) ∧ Below w1.heap.size w1 w'
  cy : ∀ w1 : World, Calls Tryz.prog 93 #[.agg #[.int .i64 (r0 - v1), .int .i64 (r1 - v0)]] w1 fun e w' => e = .returned (.agg #[.int .i64 y0, .int .i64 y1]) ∧ Below w1.heap.size w1 w'
  be : IntKind.i64.wrap (-e1) = -e1 ∧ IntKind.i64.wrap (-e0) = -e0
set_option maxRecDepth 100000 in
set_option maxHeartbeats 8000000 in
theorem c_lookN (lon lat t s0 s1 a0 a1 d0 d1 h0 h1 sH0 sH1 cH0 cH1 sD0 sD1 cD0 cD1 sF0 sF1 cF0 cF1 n0 n1 e0 e1 p0 p1 q0 q1 r0 r1 v0 v1 u0 u1 x0 x1 y0 y1 : Int) (w : World) (hN : LkN lon lat t s0 s1 a0 a1 d0 d1 h0 h1 sH0 sH1 cH0 cH1 sD0 sD1 cD0 cD1 sF0 sF1 cF0 cF1 n0 n1 e0 e1 p0 p1 q0 q1 r0 r1 v0 v1 u0 u1 x0 x1 y0 y1) (ht : Tab w)
    (g1 : -250000000 ≤ d0) (g2 : d1 ≤ 250000000) (g3 : -1000000000 ≤ a0) (g4 : a1 ≤ 3000000000) :
    Calls Tryz.prog 50 #[.agg #[.int .i64 lon, .int .i64 lat], .agg #[.int .i64 a0, .int .i64 a1], .agg #[.int .i64 d0, .int .i64 d1], .int .i64 t] w fun e w' => e = .returned (.tuple #[.agg #[.int .i64 u0, .int .i64 u1, .int .i64 x0, .int .i64 x1, .int .i64 y0, .int .i64 y1], .int .i64 0]) ∧ Below w.heap.size w w' := by
  have i0 : ∀ w, (Instr.index 94 (.agg #[.int .i64 a0, .int .i64 a1, .int .i64 d0, .int .i64 d1]) (.int .i64 0)).run Tryz.prog w = .ok (.agg #[.int .i64 a0, .int .i64 a1]) w := fun _ => by kernel_rfl
  have i1 : ∀ w, (Instr.index 94 (.agg #[.int .i64 a0, .int .i64 a1, .int .i64 d0, .int .i64 d1]) (.int .i64 1)).run Tryz.prog w = .ok (.agg #[.int .i64 d0, .int .i64 d1]) w := fun _ => by kernel_rfl
  have HN := Lib.hid hN
  have HT := Lib.hid ht
  have f1 : decide (d0 < -250000000) = false := decide_eq_false (by omega)
  have f2 : decide (250000000 < d1) = false := decide_eq_false (by omega)
  have f3 : decide (a0 < -1000000000) = false := decide_eq_false (by omega)
  have f4 : decide (3000000000 < a1) = false := decide_eq_false (by omega)
  have be := hN.be
  obtain ⟨be1, be0⟩ := be
  clear hN ht g1 g2 g3 g4
  have hgen := sgen; have hgen2 := sgen2; have hgen3 := sgen3; go_enter Tryz.func50, Tryz.ntmps50
  go_upto_region 4 with (go_at_call 44; (refine (HN.out.sid _ (HT.out.below (by exact belz))).mono ?_); rintro e w1 ⟨rfl, hb⟩; have hz := hb.size; (try simp only [szA, szS, szD, szN] at hz); (try (refine bcB (n := w.heap.size) hb ?_; intro h_w_0 e_w_0 d_w_0 _ _)); (try (refine bcB (n := w.heap.size + 1) hb ?_; intro h_w_1 e_w_1 d_w_1 _ _)); (try (refine bcB (n := w.heap.size + 1 + 1) hb ?_; intro h_w_2 e_w_2 d_w_2 _ _)); (try (refine bcB (n := w.heap.size + 1 + 1 + 1) hb ?_; intro h_w_3 e_w_3 d_w_3 _ _)))
  go_wp2
  refine wp_loop_rounds 3 ?_
  rw [rounds_succ]
  go_wp2_with (go_at_call 87; (refine (HN.out.ca _).mono ?_); rintro e w2 ⟨rfl, hb⟩; have hz := hb.size; (try simp only [szA, szS, szD, szN] at hz); (try (refine bcB (n := w.heap.size) hb ?_; intro h_w_0 e_w_0 d_w_0 _ _)); (try (refine bcB (n := w.heap.size + 1) hb ?_; intro h_w_1 e_w_1 d_w_1 _ _)); (try (refine bcB (n := w.heap.size + 1 + 1) hb ?_; intro h_w_2 e_w_2 d_w_2 _ _)); (try (refine bcB (n := w.heap.size + 1 + 1 + 1) hb ?_; intro h_w_3 e_w_3 d_w_3 _ _)); (try (refine bcB (n := w1.heap.size) hb ?_; intro h_w1_0 e_w1_0 d_w1_0 _ _)))
  rw [rounds_succ]
  go_wp2_with (go_at_call 87; (refine (HN.out.cd _).mono ?_); rintro e w3 ⟨rfl, hb⟩; have hz := hb.size; (try simp only [szA, szS, szD, szN] at hz); (try (refine bcB (n := w.heap.size) hb ?_; intro h_w_0 e_w_0 d_w_0 _ _)); (try (refine bcB (n := w.heap.size + 1) hb ?_; intro h_w_1 e_w_1 d_w_1 _ _)); (try (refine bcB (n := w.heap.size + 1 + 1) hb ?_; intro h_w_2 e_w_2 d_w_2 _ _)); (try (refine bcB (n := w.heap.size + 1 + 1 + 1) hb ?_; intro h_w_3 e_w_3 d_w_3 _ _)); (try (refine bcB (n := w1.heap.size) hb ?_; intro h_w1_0 e_w1_0 d_w1_0 _ _)); (try (refine bcB (n := w2.heap.size) hb ?_; intro h_w2_0 e_w2_0 d_w2_0 _ _)))
  rw [rounds_succ]
  go_upto_region 18 with (first | (go_at_call 63; (with_reducible refine (HN.out.mh _).mono ?_); rintro e w4 ⟨rfl, hb⟩; have hz := hb.size; (try simp only [szA, szS, szD, szN] at hz); (try (refine bcB (n := w.heap.size) hb ?_; intro h_w_0 e_w_0 d_w_0 _ _)); (try (refine bcB (n := w.heap.size + 1) hb ?_; intro h_w_1 e_w_1 d_w_1 _ _)); (try (refine bcB (n := w.heap.size + 1 + 1) hb ?_; intro h_w_2 e_w_2 d_w_2 _ _)); (try (refine bcB (n := w.heap.size + 1 + 1 + 1) hb ?_; intro h_w_3 e_w_3 d_w_3 _ _)); (try (refine bcB (n := w1.heap.size) hb ?_; intro h_w1_0 e_w1_0 d_w1_0 _ _))) | (go_at_call 59; (with_reducible refine (HN.out.sh _ (HT.out.below (by exact belz))).mono ?_); rintro e w5 ⟨rfl, hb⟩; have hz := hb.size; (try simp only [szA, szS, szD, szN] at hz); (try (refine bcB (n := w.heap.size) hb ?_; intro h_w_0 e_w_0 d_w_0 _ _)); (try (refine bcB (n := w.heap.size + 1) hb ?_; intro h_w_1 e_w_1 d_w_1 _ _)); (try (refine bcB (n := w.heap.size + 1 + 1) hb ?_; intro h_w_2 e_w_2 d_w_2 _ _)); (try (refine bcB (n := w.heap.size + 1 + 1 + 1) hb ?_; intro h_w_3 e_w_3 d_w_3 _ _)); (try (refine bcB (n := w4.heap.size) hb ?_; intro h_w4_0 e_w4_0 d_w4_0 _ _))) | (go_at_call 60; (with_reducible refine (HN.out.ch _ (HT.out.below (by exact belz))).mono ?_); rintro e w6 ⟨rfl, hb⟩; have hz := hb.size; (try simp only [szA, szS, szD, szN] at hz); (try (refine bcB (n := w.heap.size) hb ?_; intro h_w_0 e_w_0 d_w_0 _ _)); (try (refine bcB (n := w.heap.size + 1) hb ?_; intro h_w_1 e_w_1 d_w_1 _ _)); (try (refine bcB (n := w.heap.size + 1 + 1) hb ?_; intro h_w_2 e_w_2 d_w_2 _ _)); (try (refine bcB (n := w.heap.size + 1 + 1 + 1) hb ?_; intro h_w_3 e_w_3 d_w_3 _ _)); (try (refine bcB (n := w4.heap.size) hb ?_; intro h_w4_0 e_w4_0 d_w4_0 _ _)); (try (refine bcB (n := w5.heap.size) hb ?_; intro h_w5_0 e_w5_0 d_w5_0 _ _))) | (go_at_call 59; (with_reducible refine (HN.out.sd _ (HT.out.below (by exact belz))).mono ?_); rintro e w7 ⟨rfl, hb⟩; have hz := hb.size; (try simp only [szA, szS, szD, szN] at hz); (try (refine bcB (n := w.heap.size) hb ?_; intro h_w_0 e_w_0 d_w_0 _ _)); (try (refine bcB (n := w.heap.size + 1) hb ?_; intro h_w_1 e_w_1 d_w_1 _ _)); (try (refine bcB (n := w.heap.size + 1 + 1) hb ?_; intro h_w_2 e_w_2 d_w_2 _ _)); (try (refine bcB (n := w.heap.size + 1 + 1 + 1) hb ?_; intro h_w_3 e_w_3 d_w_3 _ _)); (try (refine bcB (n := w5.heap.size) hb ?_; intro h_w5_0 e_w5_0 d_w5_0 _ _)); (try (refine bcB (n := w6.heap.size) hb ?_; intro h_w6_0 e_w6_0 d_w6_0 _ _))) | (go_at_call 60; (with_reducible refine (HN.out.cD _ (HT.out.below (by exact belz))).mono ?_); rintro e w8 ⟨rfl, hb⟩; have hz := hb.size; (try simp only [szA, szS, szD, szN] at hz); (try (refine bcB (n := w.heap.size) hb ?_; intro h_w_0 e_w_0 d_w_0 _ _)); (try (refine bcB (n := w.heap.size + 1) hb ?_; intro h_w_1 e_w_1 d_w_1 _ _)); (try (refine bcB (n := w.heap.size + 1 + 1) hb ?_; intro h_w_2 e_w_2 d_w_2 _ _)); (try (refine bcB (n := w.heap.size + 1 + 1 + 1) hb ?_; intro h_w_3 e_w_3 d_w_3 _ _)); (try (refine bcB (n := w5.heap.size) hb ?_; intro h_w5_0 e_w5_0 d_w5_0 _ _)); (try (refine bcB (n := w6.heap.size) hb ?_; intro h_w6_0 e_w6_0 d_w6_0 _ _)); (try (refine bcB (n := w7.heap.size) hb ?_; intro h_w7_0 e_w7_0 d_w7_0 _ _))))
  go_cut [16, 18, 20, 22, 24] (fun s16 s18 s20 s22 s24 wc => ∃ b16 b18 b20 b22 b24 : Nat, s16 = .pointer (some ⟨b16, 0, none⟩) ∧ s18 = .pointer (some ⟨b18, 0, none⟩) ∧ s20 = .pointer (some ⟨b20, 0, none⟩) ∧ s22 = .pointer (some ⟨b22, 0, none⟩) ∧ s24 = .pointer (some ⟨b24, 0, none⟩) ∧ SpAt wc b16 sH0 sH1 ∧ SpAt wc b18 cH0 cH1 ∧ SpAt wc b20 sD0 sD1 ∧ SpAt wc b22 cD0 cD1 ∧ SpAt wc b24 sF0 sF1 ∧ SpAt wc w.heap.size lon lat ∧ PtAt wc (w.heap.size + 1 + 1 + 1) ∧ Below w.heap.size w wc ∧ (w.heap.size + 1 + 1 + 1 ≠ b20 ∧ w.heap.size + 1 + 1 + 1 ≠ b24))
  case first =>
    go_wp2_with (go_at_call 91; (with_reducible refine (HN.out.sf _ (HT.out.below (by exact belz))).mono ?_); rintro e w9 ⟨rfl, hb⟩; have hz := hb.size; (try simp only [szA, szS, szD, szN] at hz); (try (refine bcB (n := w.heap.size) hb ?_; intro h_w_0 e_w_0 d_w_0 _ _)); (try (refine bcB (n := w.heap.size + 1) hb ?_; intro h_w_1 e_w_1 d_w_1 _ _)); (try (refine bcB (n := w.heap.size + 1 + 1) hb ?_; intro h_w_2 e_w_2 d_w_2 _ _)); (try (refine bcB (n := w.heap.size + 1 + 1 + 1) hb ?_; intro h_w_3 e_w_3 d_w_3 _ _)); (try (refine bcB (n := w5.heap.size) hb ?_; intro h_w5_0 e_w5_0 d_w5_0 _ _)); (try (refine bcB (n := w6.heap.size) hb ?_; intro h_w6_0 e_w6_0 d_w6_0 _ _)); (try (refine bcB (n := w7.heap.size) hb ?_; intro h_w7_0 e_w7_0 d_w7_0 _ _)); (try (refine bcB (n := w8.heap.size) hb ?_; intro h_w8_0 e_w8_0 d_w8_0 _ _)))
    go_meet
    case rel =>
      refine ⟨w5.heap.size, w6.heap.size, w7.heap.size, w8.heap.size, w9.heap.size, by go_simp, by go_simp, by go_simp, by go_simp, by go_simp, ?_, ?_, ?_, ?_, ?_, ?_, ?_, ?_, ?_⟩
      all_goals first | (constructor <;> go_simp; done) | (constructor <;> omega) | exact belz
  case rest =>
    obtain ⟨b16, b18, b20, b22, b24, rfl, rfl, rfl, rfl, rfl, m16, m18, m20, m22, m24, m4, m8, hbc, hne⟩ := hcut
    have hsz := hbc.size
    have HTC := Lib.hid (HT.out.below hbc)
    obtain ⟨l4, c40, c41, f40, f41⟩ := m4
    obtain ⟨l8, c80, c81, c82, c83, c84, c85, f80, f81, f82, f83, f84, f85⟩ := m8
    obtain ⟨l16, c160, c161, f160, f161⟩ := m16
    obtain ⟨l18, c180, c181, f180, f181⟩ := m18
    obtain ⟨l20, c200, c201, f200, f201⟩ := m20
    obtain ⟨l22, c220, c221, f220, f221⟩ := m22
    obtain ⟨l24, c240, c241, f240, f241⟩ := m24
    obtain ⟨wd, rfl⟩ : ∃ wd : World, wd = wc := ⟨_, rfl⟩
    have HBC := Lib.hid hbc
    clear HT
    go_upto_region 21 with (first | (go_at_call 92; (with_reducible refine (HN.out.cf _ (HTC.out.below (by exact belz))).mono ?_); rintro e w10 ⟨rfl, hb⟩; have hz := hb.size; (try simp only [szA, szS, szD, szN] at hz); (try (refine bcB (n := w.heap.size) hb ?_; intro h_w_0 e_w_0 d_w_0 _ _)); (try (refine bcB (n := w.heap.size + 1 + 1 + 1) hb ?_; intro h_w_3 e_w_3 d_w_3 _ _)); (try (refine bcB (n := b16) hb ?_; intro h_bb16_0 e_bb16_0 d_bb16_0 _ _)); (try (refine bcB (n := b18) hb ?_; intro h_bb18_0 e_bb18_0 d_bb18_0 _ _)); (try (refine bcB (n := b20) hb ?_; intro h_bb20_0 e_bb20_0 d_bb20_0 _ _)); (try (refine bcB (n := b22) hb ?_; intro h_bb22_0 e_bb22_0 d_bb22_0 _ _)); (try (refine bcB (n := b24) hb ?_; intro h_bb24_0 e_bb24_0 d_bb24_0 _ _))) | (go_at_call 62; (with_reducible refine (HN.out.tn _).mono ?_); rintro e w11 ⟨rfl, hb⟩; have hz := hb.size; (try simp only [szA, szS, szD, szN] at hz); (try (refine bcB (n := w.heap.size) hb ?_; intro h_w_0 e_w_0 d_w_0 _ _)); (try (refine bcB (n := w.heap.size + 1 + 1 + 1) hb ?_; intro h_w_3 e_w_3 d_w_3 _ _)); (try (refine bcB (n := b16) hb ?_; intro h_bb16_0 e_bb16_0 d_bb16_0 _ _)); (try (refine bcB (n := b18) hb ?_; intro h_bb18_0 e_bb18_0 d_bb18_0 _ _)); (try (refine bcB (n := b20) hb ?_; intro h_bb20_0 e_bb20_0 d_bb20_0 _ _)); (try (refine bcB (n := b22) hb ?_; intro h_bb22_0 e_bb22_0 d_bb22_0 _ _)); (try (refine bcB (n := b24) hb ?_; intro h_bb24_0 e_bb24_0 d_bb24_0 _ _)); (try (refine bcB (n := w10.heap.size) hb ?_; intro h_w10_0 e_w10_0 d_w10_0 _ _))))
    go_cut [26, 28, 29] (fun s26 s28 s29 wc => ∃ b26 b28 b29 : Nat, s26 = .pointer (some ⟨b26, 0, none⟩) ∧ s28 = .pointer (some ⟨b28, 0, none⟩) ∧ s29 = .pointer (some ⟨b29, 0, none⟩) ∧ SpAt wc b26 cF0 cF1 ∧ SpAt wc b28 n0 n1 ∧ SpAt wc b29 e0 e1 ∧ SpAt wc b20 sD0 sD1 ∧ SpAt wc b24 sF0 sF1 ∧ PtAt wc (w.heap.size + 1 + 1 + 1) ∧ Below w.heap.size w wc ∧ (w.heap.size + 1 + 1 + 1 ≠ b20 ∧ w.heap.size + 1 + 1 + 1 ≠ b24 ∧ w.heap.size + 1 + 1 + 1 ≠ b26 ∧ w.heap.size + 1 + 1 + 1 ≠ b28 ∧ w.heap.size + 1 + 1 + 1 ≠ b29))
    case first =>
      have hne20 := hne.1
      have hne24 := hne.2
      go_wp2_with (go_at_call 62; (with_reducible refine (HN.out.te _).mono ?_); rintro e w12 ⟨rfl, hb⟩; have hz := hb.size; (try simp only [szA, szS, szD, szN] at hz); (try (refine bcB (n := w.heap.size) hb ?_; intro h_w_0 e_w_0 d_w_0 _ _)); (try (refine bcB (n := w.heap.size + 1 + 1 + 1) hb ?_; intro h_w_3 e_w_3 d_w_3 _ _)); (try (refine bcB (n := b16) hb ?_; intro h_bb16_0 e_bb16_0 d_bb16_0 _ _)); (try (refine bcB (n := b18) hb ?_; intro h_bb18_0 e_bb18_0 d_bb18_0 _ _)); (try (refine bcB (n := b20) hb ?_; intro h_bb20_0 e_bb20_0 d_bb20_0 _ _)); (try (refine bcB (n := b22) hb ?_; intro h_bb22_0 e_bb22_0 d_bb22_0 _ _)); (try (refine bcB (n := b24) hb ?_; intro h_bb24_0 e_bb24_0 d_bb24_0 _ _)); (try (refine bcB (n := w10.heap.size) hb ?_; intro h_w10_0 e_w10_0 d_w10_0 _ _)); (try (refine bcB (n := w11.heap.size) hb ?_; intro h_w11_0 e_w11_0 d_w11_0 _ _)))
      go_meet
      case rel =>
        have hbc := HBC.out
        refine ⟨w10.heap.size, w11.heap.size, w12.heap.size, by go_simp, by go_simp, by go_simp, ?_, ?_, ?_, ?_, ?_, ?_, ?_, ?_⟩
        all_goals first | (constructor <;> go_simp; done) | (refine ⟨hne20, hne24, ?_, ?_, ?_⟩ <;> omega) | exact belz
    case rest =>
      clear c40 c41 f40 f41 c80 c81 c82 c83 c84 c85 f80 f81 f82 f83 f84 f85 c160 c161 f160 f161 c180 c181 f180 f181 c200 c201 f200 f201 c220 c221 f220 f221 c240 c241 f240 f241 l4 l8 l16 l18 l20 l22 l24
      obtain ⟨b26, b28, b29, rfl, rfl, rfl, m26, m28, m29, m20, m24, m8, hbe, n20, n24, n26, n28, n29⟩ := hcut
      have hse := hbe.size
      obtain ⟨l8, c80, c81, c82, c83, c84, c85, f80, f81, f82, f83, f84, f85⟩ := m8
      obtain ⟨l20, c200, c201, f200, f201⟩ := m20
      obtain ⟨l24, c240, c241, f240, f241⟩ := m24
      obtain ⟨l26, c260, c261, f260, f261⟩ := m26
      obtain ⟨l28, c280, c281, f280, f281⟩ := m28
      obtain ⟨l29, c290, c291, f290, f291⟩ := m29
      clear f200 f201 f240 f241 f260 f261 f280 f281 f290 f291
      obtain ⟨we, rfl⟩ : ∃ we : World, we = wc := ⟨_, rfl⟩
      go_wp2_with fail
      go_region_held3 (fun w' => w'.cell? ⟨b20, 0, none⟩ = some (.int .i64 sD0) ∧ w'.cell? ⟨b20, 1, none⟩ = some (.int .i64 sD1) ∧ w'.cell? ⟨b24, 0, none⟩ = some (.int .i64 sF0) ∧ w'.cell? ⟨b24, 1, none⟩ = some (.int .i64 sF1) ∧ w'.cell? ⟨b26, 0, none⟩ = some (.int .i64 cF0) ∧ w'.cell? ⟨b26, 1, none⟩ = some (.int .i64 cF1) ∧ w'.cell? ⟨b28, 0, none⟩ = some (.int .i64 n0) ∧ w'.cell? ⟨b28, 1, none⟩ = some (.int .i64 n1) ∧ w'.cell? ⟨b29, 0, none⟩ = some (.int .i64 e0) ∧ w'.cell? ⟨b29, 1, none⟩ = some (.int .i64 e1)) (refine ⟨?_, ?_, ?_, ?_, ?_, ?_, ?_, ?_, ?_, ?_⟩ <;> (first | (with_reducible assumption) | ((repeat (with_reducible refine (World.cell?_setCell_other _ _ _ _ (by intro h; simp only [Addr.mk.injEq] at h; omega)).trans ?_)); with_reducible assumption) | (go_simp; done) | go_keep)) (first | (go_at_call 62; (with_reducible refine (HN.out.tp _).mono ?_); rintro e w21 ⟨rfl, hb⟩; have hz := hb.size; (try simp only [szA, szS, szD, szN] at hz); (try (refine bcB (n := w.heap.size + 1 + 1 + 1) hb ?_; intro h_w_3 e_w_3 d_w_3 _ _)); (try (refine bcB (n := b20) hb ?_; intro h_bb20_0 e_bb20_0 d_bb20_0 _ _)); (try (refine bcB (n := b24) hb ?_; intro h_bb24_0 e_bb24_0 d_bb24_0 _ _)); (try (refine bcB (n := b26) hb ?_; intro h_bb26_0 e_bb26_0 d_bb26_0 _ _)); (try (refine bcB (n := b28) hb ?_; intro h_bb28_0 e_bb28_0 d_bb28_0 _ _)); (try (refine bcB (n := b29) hb ?_; intro h_bb29_0 e_bb29_0 d_bb29_0 _ _))) | (go_at_call 62; (with_reducible refine (HN.out.tq _).mono ?_); rintro e w22 ⟨rfl, hb⟩; have hz := hb.size; (try simp only [szA, szS, szD, szN] at hz); (try (refine bcB (n := w.heap.size + 1 + 1 + 1) hb ?_; intro h_w_3 e_w_3 d_w_3 _ _)); (try (refine bcB (n := b20) hb ?_; intro h_bb20_0 e_bb20_0 d_bb20_0 _ _)); (try (refine bcB (n := b24) hb ?_; intro h_bb24_0 e_bb24_0 d_bb24_0 _ _)); (try (refine bcB (n := b26) hb ?_; intro h_bb26_0 e_bb26_0 d_bb26_0 _ _)); (try (refine bcB (n := b28) hb ?_; intro h_bb28_0 e_bb28_0 d_bb28_0 _ _)); (try (refine bcB (n := b29) hb ?_; intro h_bb29_0 e_bb29_0 d_bb29_0 _ _))) | (go_at_call 56; (with_reducible refine (HN.out.pl _).mono ?_); rintro e w23 ⟨rfl, hb⟩; have hz := hb.size; (try simp only [szA, szS, szD, szN] at hz); (try (refine bcB (n := w.heap.size + 1 + 1 + 1) hb ?_; intro h_w_3 e_w_3 d_w_3 _ _)); (try (refine bcB (n := b20) hb ?_; intro h_bb20_0 e_bb20_0 d_bb20_0 _ _)); (try (refine bcB (n := b24) hb ?_; intro h_bb24_0 e_bb24_0 d_bb24_0 _ _)); (try (refine bcB (n := b26) hb ?_; intro h_bb26_0 e_bb26_0 d_bb26_0 _ _)); (try (refine bcB (n := b28) hb ?_; intro h_bb28_0 e_bb28_0 d_bb28_0 _ _)); (try (refine bcB (n := b29) hb ?_; intro h_bb29_0 e_bb29_0 d_bb29_0 _ _))) | (go_at_call 93; (with_reducible refine (HN.out.cu _).mono ?_); rintro e w24 ⟨rfl, hb⟩; have hz := hb.size; (try simp only [szA, szS, szD, szN] at hz); (try (refine bcB (n := w.heap.size + 1 + 1 + 1) hb ?_; intro h_w_3 e_w_3 d_w_3 _ _)); (try (refine bcB (n := b20) hb ?_; intro h_bb20_0 e_bb20_0 d_bb20_0 _ _)); (try (refine bcB (n := b24) hb ?_; intro h_bb24_0 e_bb24_0 d_bb24_0 _ _)); (try (refine bcB (n := b26) hb ?_; intro h_bb26_0 e_bb26_0 d_bb26_0 _ _)); (try (refine bcB (n := b28) hb ?_; intro h_bb28_0 e_bb28_0 d_bb28_0 _ _)); (try (refine bcB (n := b29) hb ?_; intro h_bb29_0 e_bb29_0 d_bb29_0 _ _))) | (go_at_call 93; (with_reducible refine (HN.out.cx _).mono ?_); rintro e w25 ⟨rfl, hb⟩; have hz := hb.size; (try simp only [szA, szS, szD, szN] at hz); (try (refine bcB (n := w.heap.size + 1 + 1 + 1) hb ?_; intro h_w_3 e_w_3 d_w_3 _ _)); (try (refine bcB (n := b20) hb ?_; intro h_bb20_0 e_bb20_0 d_bb20_0 _ _)); (try (refine bcB (n := b24) hb ?_; intro h_bb24_0 e_bb24_0 d_bb24_0 _ _)); (try (refine bcB (n := b26) hb ?_; intro h_bb26_0 e_bb26_0 d_bb26_0 _ _)); (try (refine bcB (n := b28) hb ?_; intro h_bb28_0 e_bb28_0 d_bb28_0 _ _)); (try (refine bcB (n := b29) hb ?_; intro h_bb29_0 e_bb29_0 d_bb29_0 _ _))) | (go_at_call 62; (with_reducible refine (HN.out.tr _).mono ?_); rintro e w26 ⟨rfl, hb⟩; have hz := hb.size; (try simp only [szA, szS, szD, szN] at hz); (try (refine bcB (n := w.heap.size + 1 + 1 + 1) hb ?_; intro h_w_3 e_w_3 d_w_3 _ _)); (try (refine bcB (n := b20) hb ?_; intro h_bb20_0 e_bb20_0 d_bb20_0 _ _)); (try (refine bcB (n := b24) hb ?_; intro h_bb24_0 e_bb24_0 d_bb24_0 _ _)); (try (refine bcB (n := b26) hb ?_; intro h_bb26_0 e_bb26_0 d_bb26_0 _ _)); (try (refine bcB (n := b28) hb ?_; intro h_bb28_0 e_bb28_0 d_bb28_0 _ _)); (try (refine bcB (n := b29) hb ?_; intro h_bb29_0 e_bb29_0 d_bb29_0 _ _))) | (go_at_call 62; (with_reducible refine (HN.out.tv _).mono ?_); rintro e w27 ⟨rfl, hb⟩; have hz := hb.size; (try simp only [szA, szS, szD, szN] at hz); (try (refine bcB (n := w.heap.size + 1 + 1 + 1) hb ?_; intro h_w_3 e_w_3 d_w_3 _ _)); (try (refine bcB (n := b20) hb ?_; intro h_bb20_0 e_bb20_0 d_bb20_0 _ _)); (try (refine bcB (n := b24) hb ?_; intro h_bb24_0 e_bb24_0 d_bb24_0 _ _)); (try (refine bcB (n := b26) hb ?_; intro h_bb26_0 e_bb26_0 d_bb26_0 _ _)); (try (refine bcB (n := b28) hb ?_; intro h_bb28_0 e_bb28_0 d_bb28_0 _ _)); (try (refine bcB (n := b29) hb ?_; intro h_bb29_0 e_bb29_0 d_bb29_0 _ _))) | (go_at_call 63; (with_reducible refine (HN.out.mi _).mono ?_); rintro e w28 ⟨rfl, hb⟩; have hz := hb.size; (try simp only [szA, szS, szD, szN] at hz); (try (refine bcB (n := w.heap.size + 1 + 1 + 1) hb ?_; intro h_w_3 e_w_3 d_w_3 _ _)); (try (refine bcB (n := b20) hb ?_; intro h_bb20_0 e_bb20_0 d_bb20_0 _ _)); (try (refine bcB (n := b24) hb ?_; intro h_bb24_0 e_bb24_0 d_bb24_0 _ _)); (try (refine bcB (n := b26) hb ?_; intro h_bb26_0 e_bb26_0 d_bb26_0 _ _)); (try (refine bcB (n := b28) hb ?_; intro h_bb28_0 e_bb28_0 d_bb28_0 _ _)); (try (refine bcB (n := b29) hb ?_; intro h_bb29_0 e_bb29_0 d_bb29_0 _ _))) | (go_at_call 93; (with_reducible refine (HN.out.cy _).mono ?_); rintro e w29 ⟨rfl, hb⟩; have hz := hb.size; (try simp only [szA, szS, szD, szN] at hz); (try (refine bcB (n := w.heap.size + 1 + 1 + 1) hb ?_; intro h_w_3 e_w_3 d_w_3 _ _)); (try (refine bcB (n := b20) hb ?_; intro h_bb20_0 e_bb20_0 d_bb20_0 _ _)); (try (refine bcB (n := b24) hb ?_; intro h_bb24_0 e_bb24_0 d_bb24_0 _ _)); (try (refine bcB (n := b26) hb ?_; intro h_bb26_0 e_bb26_0 d_bb26_0 _ _)); (try (refine bcB (n := b28) hb ?_; intro h_bb28_0 e_bb28_0 d_bb28_0 _ _)); (try (refine bcB (n := b29) hb ?_; intro h_bb29_0 e_bb29_0 d_bb29_0 _ _))))
      all_goals go_wp2
      all_goals refine bodyPost_ret (v := .tuple #[.agg #[.int .i64 u0, .int .i64 u1, .int .i64 x0, .int .i64 x1, .int .i64 y0, .int .i64 y1], .int .i64 0]) (by simp only [results, Tryz.results50]; go_simp) rfl ⟨rfl, ?_⟩
      all_goals exact belz
end Go.Proofs.YtcgnhnmigmdalaaGreatDoor
