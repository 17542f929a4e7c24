/- Contracts of sun.Equator. -/
import Derived.Test.YtcgnhnmigmdalaaGreatDoorAsA
import Derived.Test.YtcgnhnmigmdalaaGreatDoorSmA
import Derived.Deep.DeepCutAuto
set_option linter.unusedVariables false
set_option linter.unusedSimpArgs false
namespace Go.Proofs.YtcgnhnmigmdalaaGreatDoor
open Go.RowKit
/-- What the walk of Equator asks: its parts' contracts, with numbers of any names. -/
structure EqN (l0 l1 b0 b1 sl0 sl1 cl0 cl1 sb0 sb1 cb0 cb1 a0 a1 x0 x1 p0 p1 q0 q1 r0 r1 s0 s1 : Int) : Prop where
  cl : ∀ w1 : World, Calls Tryz.prog 87 #[.agg #[.int .i64 l0, .int .i64 l1]] w1 fun e w' => e = .returned (.int .i64 0) ∧ Below w1.heap.size w1 w'
  cb : ∀ w1 : World, Calls Tryz.prog 87 #[.agg #[.int .i64 b0, .int .i64 b1]] w1 fun e w' => e = .returned (.int .i64 0) ∧ Below w1.heap.size w1 w'
  sl : ∀ w1, Tab w1 → Calls Tryz.prog 59 #[.agg #[.int .i64 l0, .int .i64 l1]] w1 fun e w' => e = .returned (.tuple #[.agg #[.int .i64 sl0, .int .i64 sl1], .int .i64 0]) ∧ Below w1.heap.size w1 w'
  cL : ∀ w1, Tab w1 → Calls Tryz.prog 60 #[.agg #[.int .i64 l0, .int .i64 l1]] w1 fun e w' => e = .returned (.tuple #[.agg #[.int .i64 cl0, .int .i64 cl1], .int .i64 0]) ∧ Below w1.heap.size w1 w'
  sb : ∀ w1, Tab w1 → Calls Tryz.prog 59 #[.agg #[.int .i64 b0, .int .i64 b1]] w1 fun e w' => e = .returned (.tuple #[.agg #[.int .i64 sb0, .int .i64 sb1], .int .i64 0]) ∧ Below w1.heap.size w1 w'
  cB : ∀ w1, Tab w1 → Calls Tryz.prog 60 #[.agg #[.int .i64 b0, .int .i64 b1]] w1 fun e w' => e = .returned (.tuple #[.agg #[.int .i64 cb0, .int .i64 cb1], .int .i64 0]) ∧ Below w1.heap.size w1 w'
  ta : ∀ w1 : World, Calls Tryz.prog 62 #[.agg #[.int .i64 cb0, .int .i64 cb1], .agg #[.int .i64 sl0, .int .i64 sl1]] w1 fun e w' => e = .returned (.agg #[.int .i64 a0, .int .i64 a1]) ∧ Below w1.heap.size w1 w'
  tx : ∀ w1 : World, Calls Tryz.prog 62 #[.agg #[.int .i64 cb0, .int .i64 cb1], .agg #[.int .i64 cl0, .int .i64 cl1]] w1 fun e w' => e = .returned (.agg #[.int .i64 x0, .int .i64 x1]) ∧ Below w1.heap.size w1 w'
  tp : ∀ w1 : World, Calls Tryz.prog 62 #[.agg #[.int .i64 a0, .int .i64 a1], .agg #[.int .i64 917482416, .int .i64 917482417]] w1 fun e w' => e = .returned (.agg #[.int .i64 p0, .int .i64 p1]) ∧ Below w1.heap.size w1 w'
  tq : ∀ w1 : World, Calls Tryz.prog 62 #[.agg #[.int .i64 sb0, .int .i64 sb1], .agg #[.int .i64 397776337, .int .i64 397776338]] w1 fun e w' => e = .returned (.agg #[.int .i64 q0, .int .i64 q1]) ∧ Below w1.heap.size w1 w'
  tr : ∀ w1 : World, Calls Tryz.prog 62 #[.agg #[.int .i64 a0, .int .i64 a1], .agg #[.int .i64 397776337, .int .i64 397776338]] w1 fun e w' => e = .returned (.agg #[.int .i64 r0, .int .i64 r1]) ∧ Below w1.heap.size w1 w'
  ts : ∀ w1 : World, Calls Tryz.prog 62 #[.agg #[.int .i64 sb0, .int .i64 sb1], .agg #[.int .i64 917482416, .int .i64 917482417]] w1 fun e w' => e = .returned (.agg #[.int .i64 s0, .int .i64 s1]) ∧ Below w1.heap.size w1 w'
  mi : ∀ w1 : World, Calls Tryz.prog 63 #[.agg #[.int .i64 p0, .int .i64 p1], .agg #[.int .i64 q0, .int .i64 q1]] w1 fun e w' => e = .returned (.agg #[.int .i64 (p0 - q1), .int .i64 (p1 - q0)]) ∧ Below w1.heap.size w1 w'
  pl : ∀ w1 : World, Calls Tryz.prog 56 #[.agg #[.int .i64 r0, .int .i64 r1], .agg #[.int .i64 s0, .int .i64 s1]] w1 fun e w' => e = .returned (.agg #[.int .i64 (r0 + s0), .int .i64 (r1 + s1)]) ∧ Below w1.heap.size w1 w'
theorem eqN {l0 l1 b0 b1 : Int} (hl : l0 ≤ l1) (h1 : -1000000000000000000 ≤ l0) (h2 : l1 ≤ 1000000000000000000) (hb : b0 ≤ b1) (h3 : -125000000 ≤ b0) (h4 : b1 ≤ 125000000) :
    EqN l0 l1 b0 b1 (sovLo l0 l1) (sovHi l0 l1) (sovLo (covB l0) (covE l0 l1)) (sovHi (covB l0) (covE l0 l1)) (sovLo b0 b1) (sovHi b0 b1) (sovLo (covB b0) (covE b0 b1)) (sovHi (covB b0) (covE b0 b1)) (eqA0 l0 l1 b0 b1) (eqA1 l0 l1 b0 b1) (eqX0 l0 l1 b0 b1) (eqX1 l0 l1 b0 b1) (eqP0 l0 l1 b0 b1) (eqP1 l0 l1 b0 b1) (eqQ0 b0 b1) (eqQ1 b0 b1) (eqR0 l0 l1 b0 b1) (eqR1 l0 l1 b0 b1) (eqS0 b0 b1) (eqS1 b0 b1) := by
  have el : spanErr l0 l1 = 0 := by unfold spanErr; (repeat (first | rw [if_neg (by omega)] | rw [if_pos (by omega)]))
  have eb : spanErr b0 b1 = 0 := by unfold spanErr; (repeat (first | rw [if_neg (by omega)] | rw [if_pos (by omega)]))
  obtain ⟨-, -, tes, tcs⟩ := tilt_in
  have sB := sov_sp _ _ hb
  have sL := sov_sp _ _ hl
  have cB := cov_sp hb
  have cL := cov_sp hl
  have A := eqA_sp hl hb
  have P : Sp1 (eqP0 l0 l1 b0 b1) (eqP1 l0 l1 b0 b1) := prod_sp A tcs
  have Q : Sp1 (eqQ0 b0 b1) (eqQ1 b0 b1) := prod_sp sB tes
  have R : Sp1 (eqR0 l0 l1 b0 b1) (eqR1 l0 l1 b0 b1) := prod_sp A tes
  have U : Sp1 (eqS0 b0 b1) (eqS1 b0 b1) := prod_sp sB tcs
  obtain ⟨P1, P2, P3⟩ := P
  obtain ⟨Q1, Q2, Q3⟩ := Q
  obtain ⟨R1, R2, R3⟩ := R
  obtain ⟨U1, U2, U3⟩ := U
  refine ⟨fun w1 => ?_, fun w1 => ?_, fun w1 h => c_SinOver_ok l0 l1 w1 h el (by omega) (by omega) (by omega) (by omega), fun w1 h => c_CosOver_ok l0 l1 w1 h el h1 hl h2, fun w1 h => c_SinOver_ok b0 b1 w1 h eb (by omega) (by omega) (by omega) (by omega), fun w1 h => c_CosOver_ok b0 b1 w1 h eb (by omega) hb (by omega), fun w1 => c_Times _ _ _ _ w1 cB sL, fun w1 => c_Times _ _ _ _ w1 cB cL, fun w1 => c_Times _ _ _ _ w1 A tcs, fun w1 => c_Times _ _ _ _ w1 sB tes, fun w1 => c_Times _ _ _ _ w1 A tes, fun w1 => c_Times _ _ _ _ w1 sB tcs,
    fun w1 => c_Minus _ _ _ _ w1 (by omega) (by omega) (by omega) (by omega) (by omega) (by omega) (by omega) (by omega), fun w1 => c_Plus _ _ _ _ w1 (by omega) (by omega) (by omega) (by omega) (by omega) (by omega) (by omega) (by omega)⟩
  · have h := c_intervalCheck l0 l1 w1
    rw [el] at h; exact h
  · have h := c_intervalCheck b0 b1 w1
    rw [eb] at h; exact h
set_option maxRecDepth 100000 in
set_option maxHeartbeats 8000000 in
theorem c_Equ (l0 l1 b0 b1 sl0 sl1 cl0 cl1 sb0 sb1 cb0 cb1 a0 a1 x0 x1 p0 p1 q0 q1 r0 r1 s0 s1 ra0 ra1 de0 de1 er fa0 fa1 fd0 fd1 : Int) (w : World) (hN : EqN l0 l1 b0 b1 sl0 sl1 cl0 cl1 sb0 sb1 cb0 cb1 a0 a1 x0 x1 p0 p1 q0 q1 r0 r1 s0 s1) (ht : Tab w) (h3 : -125000000 ≤ b0) (h4 : b1 ≤ 125000000)
    (hA : ∀ w1 : World, Calls Tryz.prog 52 #[.agg #[.int .i64 (p0 - q1), .int .i64 (p1 - q0)], .agg #[.int .i64 x0, .int .i64 x1]] w1 fun e w' => e = .returned (.tuple #[.agg #[.int .i64 ra0, .int .i64 ra1], .int .i64 er]) ∧ Below w1.heap.size w1 w')
    (hD : ∀ w1 : World, Calls Tryz.prog 51 #[.agg #[.int .i64 (r0 + s0), .int .i64 (r1 + s1)]] w1 fun e w' => e = .returned (.tuple #[.agg #[.int .i64 de0, .int .i64 de1], .int .i64 0]) ∧ Below w1.heap.size w1 w')
    (hr : (er = 0 ∧ fa0 = ra0 ∧ fa1 = ra1 ∧ fd0 = de0 ∧ fd1 = de1) ∨ (er = 11 ∧ fa0 = 0 ∧ fa1 = 0 ∧ fd0 = 0 ∧ fd1 = 0)) :
    Calls Tryz.prog 47 #[.agg #[.int .i64 l0, .int .i64 l1], .agg #[.int .i64 b0, .int .i64 b1]] w fun e w' => e = .returned (.tuple #[.agg #[.int .i64 fa0, .int .i64 fa1], .agg #[.int .i64 fd0, .int .i64 fd1], .int .i64 er]) ∧ Below w.heap.size w w' := by
  have i0 : ∀ w, (Instr.index 94 (.agg #[.int .i64 l0, .int .i64 l1, .int .i64 b0, .int .i64 b1]) (.int .i64 0)).run Tryz.prog w = .ok (.agg #[.int .i64 l0, .int .i64 l1]) w := fun _ => by kernel_rfl
  have i1 : ∀ w, (Instr.index 94 (.agg #[.int .i64 l0, .int .i64 l1, .int .i64 b0, .int .i64 b1]) (.int .i64 1)).run Tryz.prog w = .ok (.agg #[.int .i64 b0, .int .i64 b1]) w := fun _ => by kernel_rfl
  have HN := Lib.hid hN
  have HT := Lib.hid ht
  have HA := Lib.hid hA
  have HD := Lib.hid hD
  have HR := Lib.hid hr
  have g1 : decide (b0 < -125000000) = false := decide_eq_false (by omega)
  have g2 : decide (125000000 < b1) = false := decide_eq_false (by omega)
  clear hN ht hA hD h3 h4 hr
  have hgen := sgen; have hgen2 := sgen2; have hgen3 := sgen3; go_enter Tryz.func47, Tryz.ntmps47
  go_wp2
  refine wp_loop_rounds 3 ?_
  rw [rounds_succ]
  go_wp2_with (go_at_call 87; (refine (HN.out.cl _).mono ?_); rintro e w1 ⟨rfl, hb⟩; have hz := hb.size; (try simp only [szA, szS, szD, szN] at hz); (try (refine bcB (n := w.heap.size) hb ?_; intro h_w_0 e_w_0 d_w_0 _ _)); (try (refine bcB (n := w.heap.size + 1) hb ?_; intro h_w_1 e_w_1 d_w_1 _ _)); (try (refine bcB (n := w.heap.size + 1 + 1) hb ?_; intro h_w_2 e_w_2 d_w_2 _ _)); (try (refine bcB (n := w.heap.size + 1 + 1 + 1) hb ?_; intro h_w_3 e_w_3 d_w_3 _ _)))
  rw [rounds_succ]
  go_wp2_with (go_at_call 87; (refine (HN.out.cb _).mono ?_); rintro e w2 ⟨rfl, hb⟩; have hz := hb.size; (try simp only [szA, szS, szD, szN] at hz); (try (refine bcB (n := w.heap.size) hb ?_; intro h_w_0 e_w_0 d_w_0 _ _)); (try (refine bcB (n := w.heap.size + 1) hb ?_; intro h_w_1 e_w_1 d_w_1 _ _)); (try (refine bcB (n := w.heap.size + 1 + 1) hb ?_; intro h_w_2 e_w_2 d_w_2 _ _)); (try (refine bcB (n := w.heap.size + 1 + 1 + 1) hb ?_; intro h_w_3 e_w_3 d_w_3 _ _)); (try (refine bcB (n := w1.heap.size) hb ?_; intro h_w1_0 e_w1_0 d_w1_0 _ _)))
  rw [rounds_succ]
  go_upto_region 16 with (first | (go_at_call 59; (with_reducible refine (HN.out.sl _ (HT.out.below (by exact belz))).mono ?_); rintro e w3 ⟨rfl, hb⟩; have hz := hb.size; (try simp only [szA, szS, szD, szN] at hz); (try (refine bcB (n := w.heap.size) hb ?_; intro h_w_0 e_w_0 d_w_0 _ _)); (try (refine bcB (n := w.heap.size + 1) hb ?_; intro h_w_1 e_w_1 d_w_1 _ _)); (try (refine bcB (n := w.heap.size + 1 + 1) hb ?_; intro h_w_2 e_w_2 d_w_2 _ _)); (try (refine bcB (n := w.heap.size + 1 + 1 + 1) hb ?_; intro h_w_3 e_w_3 d_w_3 _ _))) | (go_at_call 60; (with_reducible refine (HN.out.cL _ (HT.out.below (by exact belz))).mono ?_); rintro e w4 ⟨rfl, hb⟩; have hz := hb.size; (try simp only [szA, szS, szD, szN] at hz); (try (refine bcB (n := w.heap.size) hb ?_; intro h_w_0 e_w_0 d_w_0 _ _)); (try (refine bcB (n := w.heap.size + 1) hb ?_; intro h_w_1 e_w_1 d_w_1 _ _)); (try (refine bcB (n := w.heap.size + 1 + 1) hb ?_; intro h_w_2 e_w_2 d_w_2 _ _)); (try (refine bcB (n := w.heap.size + 1 + 1 + 1) hb ?_; intro h_w_3 e_w_3 d_w_3 _ _)); (try (refine bcB (n := w3.heap.size) hb ?_; intro h_w3_0 e_w3_0 d_w3_0 _ _))) | (go_at_call 59; (with_reducible refine (HN.out.sb _ (HT.out.below (by exact belz))).mono ?_); rintro e w5 ⟨rfl, hb⟩; have hz := hb.size; (try simp only [szA, szS, szD, szN] at hz); (try (refine bcB (n := w.heap.size) hb ?_; intro h_w_0 e_w_0 d_w_0 _ _)); (try (refine bcB (n := w.heap.size + 1) hb ?_; intro h_w_1 e_w_1 d_w_1 _ _)); (try (refine bcB (n := w.heap.size + 1 + 1) hb ?_; intro h_w_2 e_w_2 d_w_2 _ _)); (try (refine bcB (n := w.heap.size + 1 + 1 + 1) hb ?_; intro h_w_3 e_w_3 d_w_3 _ _)); (try (refine bcB (n := w3.heap.size) hb ?_; intro h_w3_0 e_w3_0 d_w3_0 _ _)); (try (refine bcB (n := w4.heap.size) hb ?_; intro h_w4_0 e_w4_0 d_w4_0 _ _))) | (go_at_call 60; (with_reducible refine (HN.out.cB _ (HT.out.below (by exact belz))).mono ?_); rintro e w6 ⟨rfl, hb⟩; have hz := hb.size; (try simp only [szA, szS, szD, szN] at hz); (try (refine bcB (n := w.heap.size) hb ?_; intro h_w_0 e_w_0 d_w_0 _ _)); (try (refine bcB (n := w.heap.size + 1) hb ?_; intro h_w_1 e_w_1 d_w_1 _ _)); (try (refine bcB (n := w.heap.size + 1 + 1) hb ?_; intro h_w_2 e_w_2 d_w_2 _ _)); (try (refine bcB (n := w.heap.size + 1 + 1 + 1) hb ?_; intro h_w_3 e_w_3 d_w_3 _ _)); (try (refine bcB (n := w3.heap.size) hb ?_; intro h_w3_0 e_w3_0 d_w3_0 _ _)); (try (refine bcB (n := w4.heap.size) hb ?_; intro h_w4_0 e_w4_0 d_w4_0 _ _)); (try (refine bcB (n := w5.heap.size) hb ?_; intro h_w5_0 e_w5_0 d_w5_0 _ _))) | (go_at_call 61; (refine (c_Tilt _ (HT.out.below (by exact belz))).mono ?_); rintro e w7 ⟨rfl, hb⟩; have hz := hb.size; (try simp only [szA, szS, szD, szN] at hz); (try (refine bcB (n := w.heap.size) hb ?_; intro h_w_0 e_w_0 d_w_0 _ _)); (try (refine bcB (n := w.heap.size + 1) hb ?_; intro h_w_1 e_w_1 d_w_1 _ _)); (try (refine bcB (n := w.heap.size + 1 + 1) hb ?_; intro h_w_2 e_w_2 d_w_2 _ _)); (try (refine bcB (n := w.heap.size + 1 + 1 + 1) hb ?_; intro h_w_3 e_w_3 d_w_3 _ _)); (try (refine bcB (n := w3.heap.size) hb ?_; intro h_w3_0 e_w3_0 d_w3_0 _ _)); (try (refine bcB (n := w4.heap.size) hb ?_; intro h_w4_0 e_w4_0 d_w4_0 _ _)); (try (refine bcB (n := w5.heap.size) hb ?_; intro h_w5_0 e_w5_0 d_w5_0 _ _)); (try (refine bcB (n := w6.heap.size) hb ?_; intro h_w6_0 e_w6_0 d_w6_0 _ _))) | (go_at_call 62; (with_reducible refine (HN.out.ta _).mono ?_); rintro e w8 ⟨rfl, hb⟩; have hz := hb.size; (try simp only [szA, szS, szD, szN] at hz); (try (refine bcB (n := w.heap.size) hb ?_; intro h_w_0 e_w_0 d_w_0 _ _)); (try (refine bcB (n := w.heap.size + 1) hb ?_; intro h_w_1 e_w_1 d_w_1 _ _)); (try (refine bcB (n := w.heap.size + 1 + 1) hb ?_; intro h_w_2 e_w_2 d_w_2 _ _)); (try (refine bcB (n := w.heap.size + 1 + 1 + 1) hb ?_; intro h_w_3 e_w_3 d_w_3 _ _)); (try (refine bcB (n := w3.heap.size) hb ?_; intro h_w3_0 e_w3_0 d_w3_0 _ _)); (try (refine bcB (n := w4.heap.size) hb ?_; intro h_w4_0 e_w4_0 d_w4_0 _ _)); (try (refine bcB (n := w5.heap.size) hb ?_; intro h_w5_0 e_w5_0 d_w5_0 _ _)); (try (refine bcB (n := w6.heap.size) hb ?_; intro h_w6_0 e_w6_0 d_w6_0 _ _)); (try (refine bcB (n := w7.heap.size) hb ?_; intro h_w7_0 e_w7_0 d_w7_0 _ _)); (try (refine bcB (n := w7.heap.size + 1) hb ?_; intro h_w7_1 e_w7_1 d_w7_1 _ _))))
  go_cut [14, 18, 19, 20, 21] (fun s14 s18 s19 s20 s21 wc => ∃ b14 b18 b19 b20 b21 : Nat, s14 = .pointer (some ⟨b14, 0, none⟩) ∧ s18 = .pointer (some ⟨b18, 0, none⟩) ∧ s19 = .pointer (some ⟨b19, 0, none⟩) ∧ s20 = .pointer (some ⟨b20, 0, none⟩) ∧ s21 = .pointer (some ⟨b21, 0, none⟩) ∧ SpAt wc b14 sb0 sb1 ∧ SpAt wc b18 397776337 397776338 ∧ SpAt wc b19 917482416 917482417 ∧ SpAt wc b20 a0 a1 ∧ SpAt wc b21 x0 x1 ∧ SpAt wc (w.heap.size + 1 + 1) 0 0 ∧ SpAt wc (w.heap.size + 1 + 1 + 1) 0 0 ∧ Below w.heap.size w wc)
  case first =>
    go_wp2_with (go_at_call 62; (with_reducible refine (HN.out.tx _).mono ?_); rintro e w9 ⟨rfl, hb⟩; have hz := hb.size; (try simp only [szA, szS, szD, szN] at hz); (try (refine bcB (n := w.heap.size) hb ?_; intro h_w_0 e_w_0 d_w_0 _ _)); (try (refine bcB (n := w.heap.size + 1) hb ?_; intro h_w_1 e_w_1 d_w_1 _ _)); (try (refine bcB (n := w.heap.size + 1 + 1) hb ?_; intro h_w_2 e_w_2 d_w_2 _ _)); (try (refine bcB (n := w.heap.size + 1 + 1 + 1) hb ?_; intro h_w_3 e_w_3 d_w_3 _ _)); (try (refine bcB (n := w3.heap.size) hb ?_; intro h_w3_0 e_w3_0 d_w3_0 _ _)); (try (refine bcB (n := w4.heap.size) hb ?_; intro h_w4_0 e_w4_0 d_w4_0 _ _)); (try (refine bcB (n := w5.heap.size) hb ?_; intro h_w5_0 e_w5_0 d_w5_0 _ _)); (try (refine bcB (n := w6.heap.size) hb ?_; intro h_w6_0 e_w6_0 d_w6_0 _ _)); (try (refine bcB (n := w7.heap.size) hb ?_; intro h_w7_0 e_w7_0 d_w7_0 _ _)); (try (refine bcB (n := w7.heap.size + 1) hb ?_; intro h_w7_1 e_w7_1 d_w7_1 _ _)); (try (refine bcB (n := w8.heap.size) hb ?_; intro h_w8_0 e_w8_0 d_w8_0 _ _)))
    go_meet
    case rel =>
      refine ⟨w5.heap.size, w7.heap.size, w7.heap.size + 1, w8.heap.size, w9.heap.size, by go_simp, by go_simp, by go_simp, by go_simp, by go_simp, ?_, ?_, ?_, ?_, ?_, ?_, ?_, ?_⟩
      all_goals first | (constructor <;> go_simp; done) | exact belz
  case rest =>
    obtain ⟨b14, b18, b19, b20, b21, rfl, rfl, rfl, rfl, rfl, m14, m18, m19, m20, m21, m4, m5, hbc⟩ := hcut
    have hsz := hbc.size
    obtain ⟨l4, c40, c41, f40, f41⟩ := m4
    obtain ⟨l5, c50, c51, f50, f51⟩ := m5
    obtain ⟨l14, c140, c141, f140, f141⟩ := m14
    obtain ⟨l18, c180, c181, f180, f181⟩ := m18
    obtain ⟨l19, c190, c191, f190, f191⟩ := m19
    obtain ⟨l20, c200, c201, f200, f201⟩ := m20
    obtain ⟨l21, c210, c211, f210, f211⟩ := m21
    obtain ⟨wd, rfl⟩ : ∃ wd : World, wd = wc := ⟨_, rfl⟩
    go_upto_region 17 with fail
    go_cut [22] (fun s wc => ∃ b22 : Nat, s = .pointer (some ⟨b22, 0, none⟩) ∧ SpAt wc b22 (p0 - q1) (p1 - q0) ∧ Below wd.heap.size wd wc)
    case first =>
      go_region_held3 (fun w' => w'.cell? ⟨b14, 0, none⟩ = some (.int .i64 sb0) ∧ w'.cell? ⟨b14, 1, none⟩ = some (.int .i64 sb1) ∧ w'.cell? ⟨b18, 0, none⟩ = some (.int .i64 397776337) ∧ w'.cell? ⟨b18, 1, none⟩ = some (.int .i64 397776338) ∧ w'.cell? ⟨b19, 0, none⟩ = some (.int .i64 917482416) ∧ w'.cell? ⟨b19, 1, none⟩ = some (.int .i64 917482417) ∧ w'.cell? ⟨b20, 0, none⟩ = some (.int .i64 a0) ∧ w'.cell? ⟨b20, 1, none⟩ = some (.int .i64 a1)) (refine ⟨?_, ?_, ?_, ?_, ?_, ?_, ?_, ?_⟩ <;> (first | (go_simp; done) | go_keep)) (first | (go_at_call 62; (with_reducible refine (HN.out.tp _).mono ?_); rintro e w3 ⟨rfl, hb⟩; have hz := hb.size; (try simp only [szA, szS, szD, szN] at hz); (try (refine bcB (n := b14) hb ?_; intro h_bb14_0 e_bb14_0 d_bb14_0 _ _)); (try (refine bcB (n := b18) hb ?_; intro h_bb18_0 e_bb18_0 d_bb18_0 _ _)); (try (refine bcB (n := b19) hb ?_; intro h_bb19_0 e_bb19_0 d_bb19_0 _ _)); (try (refine bcB (n := b20) hb ?_; intro h_bb20_0 e_bb20_0 d_bb20_0 _ _)); (try (refine bcB (n := wd.heap.size) hb ?_; intro h_wd_0 e_wd_0 d_wd_0 _ _))) | (go_at_call 62; (with_reducible refine (HN.out.tq _).mono ?_); rintro e w4 ⟨rfl, hb⟩; have hz := hb.size; (try simp only [szA, szS, szD, szN] at hz); (try (refine bcB (n := b14) hb ?_; intro h_bb14_0 e_bb14_0 d_bb14_0 _ _)); (try (refine bcB (n := b18) hb ?_; intro h_bb18_0 e_bb18_0 d_bb18_0 _ _)); (try (refine bcB (n := b19) hb ?_; intro h_bb19_0 e_bb19_0 d_bb19_0 _ _)); (try (refine bcB (n := b20) hb ?_; intro h_bb20_0 e_bb20_0 d_bb20_0 _ _)); (try (refine bcB (n := wd.heap.size) hb ?_; intro h_wd_0 e_wd_0 d_wd_0 _ _)); (try (refine bcB (n := w3.heap.size) hb ?_; intro h_w3_0 e_w3_0 d_w3_0 _ _))) | (go_at_call 63; (with_reducible refine (HN.out.mi _).mono ?_); rintro e w5 ⟨rfl, hb⟩; have hz := hb.size; (try simp only [szA, szS, szD, szN] at hz); (try (refine bcB (n := b14) hb ?_; intro h_bb14_0 e_bb14_0 d_bb14_0 _ _)); (try (refine bcB (n := b18) hb ?_; intro h_bb18_0 e_bb18_0 d_bb18_0 _ _)); (try (refine bcB (n := b19) hb ?_; intro h_bb19_0 e_bb19_0 d_bb19_0 _ _)); (try (refine bcB (n := b20) hb ?_; intro h_bb20_0 e_bb20_0 d_bb20_0 _ _)); (try (refine bcB (n := wd.heap.size) hb ?_; intro h_wd_0 e_wd_0 d_wd_0 _ _)); (try (refine bcB (n := w3.heap.size) hb ?_; intro h_w3_0 e_w3_0 d_w3_0 _ _)); (try (refine bcB (n := w4.heap.size) hb ?_; intro h_w4_0 e_w4_0 d_w4_0 _ _))))
      all_goals (go_step; apply_assumption; refine Met.intro ?_; apply_assumption; (repeat apply Exists.intro); refine ⟨?_, rfl⟩; (refine ⟨_, rfl, ?_, ?_⟩ <;> first | (constructor <;> go_simp; done) | exact belz))
    case rest =>
      obtain ⟨b22, rfl, m22, hbd⟩ := hcut
      have hsd := hbd.size
      obtain ⟨l22, c220, c221, f220, f221⟩ := m22
      refine bcUse (n := w.heap.size + 1 + 1) hbd (by omega) ?_; intro _ _
      refine bcUse (n := w.heap.size + 1 + 1 + 1) hbd (by omega) ?_; intro _ _
      refine bcUse (n := b14) hbd (by omega) ?_; intro _ _
      refine bcUse (n := b18) hbd (by omega) ?_; intro _ _
      refine bcUse (n := b19) hbd (by omega) ?_; intro _ _
      refine bcUse (n := b20) hbd (by omega) ?_; intro _ _
      refine bcUse (n := b21) hbd (by omega) ?_; intro _ _
      have d14 : b14 < wc.heap.size := by omega
      have d18 : b18 < wc.heap.size := by omega
      have d19 : b19 < wc.heap.size := by omega
      have d20 : b20 < wc.heap.size := by omega
      have d21 : b21 < wc.heap.size := by omega
      have d4 : w.heap.size + 1 + 1 < wc.heap.size := by omega
      have d5 : w.heap.size + 1 + 1 + 1 < wc.heap.size := by omega
      obtain ⟨we, rfl⟩ : ∃ we : World, we = wc := ⟨_, rfl⟩
      go_upto_region 18 with fail
      go_cut [23] (fun s wc => ∃ b23 : Nat, s = .pointer (some ⟨b23, 0, none⟩) ∧ SpAt wc b23 (r0 + s0) (r1 + s1) ∧ Below we.heap.size we wc)
      case first =>
        go_region_held3 (fun w' => w'.cell? ⟨b14, 0, none⟩ = some (.int .i64 sb0) ∧ w'.cell? ⟨b14, 1, none⟩ = some (.int .i64 sb1) ∧ w'.cell? ⟨b18, 0, none⟩ = some (.int .i64 397776337) ∧ w'.cell? ⟨b18, 1, none⟩ = some (.int .i64 397776338) ∧ w'.cell? ⟨b19, 0, none⟩ = some (.int .i64 917482416) ∧ w'.cell? ⟨b19, 1, none⟩ = some (.int .i64 917482417) ∧ w'.cell? ⟨b20, 0, none⟩ = some (.int .i64 a0) ∧ w'.cell? ⟨b20, 1, none⟩ = some (.int .i64 a1)) (refine ⟨?_, ?_, ?_, ?_, ?_, ?_, ?_, ?_⟩ <;> (first | (go_simp; done) | go_keep)) (first | (go_at_call 62; (with_reducible refine (HN.out.tr _).mono ?_); rintro e w3 ⟨rfl, hb⟩; have hz := hb.size; (try simp only [szA, szS, szD, szN] at hz); (try (refine bcB (n := b14) hb ?_; intro h_bb14_0 e_bb14_0 d_bb14_0 _ _)); (try (refine bcB (n := b18) hb ?_; intro h_bb18_0 e_bb18_0 d_bb18_0 _ _)); (try (refine bcB (n := b19) hb ?_; intro h_bb19_0 e_bb19_0 d_bb19_0 _ _)); (try (refine bcB (n := b20) hb ?_; intro h_bb20_0 e_bb20_0 d_bb20_0 _ _)); (try (refine bcB (n := we.heap.size) hb ?_; intro h_we_0 e_we_0 d_we_0 _ _))) | (go_at_call 62; (with_reducible refine (HN.out.ts _).mono ?_); rintro e w4 ⟨rfl, hb⟩; have hz := hb.size; (try simp only [szA, szS, szD, szN] at hz); (try (refine bcB (n := b14) hb ?_; intro h_bb14_0 e_bb14_0 d_bb14_0 _ _)); (try (refine bcB (n := b18) hb ?_; intro h_bb18_0 e_bb18_0 d_bb18_0 _ _)); (try (refine bcB (n := b19) hb ?_; intro h_bb19_0 e_bb19_0 d_bb19_0 _ _)); (try (refine bcB (n := b20) hb ?_; intro h_bb20_0 e_bb20_0 d_bb20_0 _ _)); (try (refine bcB (n := we.heap.size) hb ?_; intro h_we_0 e_we_0 d_we_0 _ _)); (try (refine bcB (n := w3.heap.size) hb ?_; intro h_w3_0 e_w3_0 d_w3_0 _ _))) | (go_at_call 56; (with_reducible refine (HN.out.pl _).mono ?_); rintro e w5 ⟨rfl, hb⟩; have hz := hb.size; (try simp only [szA, szS, szD, szN] at hz); (try (refine bcB (n := b14) hb ?_; intro h_bb14_0 e_bb14_0 d_bb14_0 _ _)); (try (refine bcB (n := b18) hb ?_; intro h_bb18_0 e_bb18_0 d_bb18_0 _ _)); (try (refine bcB (n := b19) hb ?_; intro h_bb19_0 e_bb19_0 d_bb19_0 _ _)); (try (refine bcB (n := b20) hb ?_; intro h_bb20_0 e_bb20_0 d_bb20_0 _ _)); (try (refine bcB (n := we.heap.size) hb ?_; intro h_we_0 e_we_0 d_we_0 _ _)); (try (refine bcB (n := w3.heap.size) hb ?_; intro h_w3_0 e_w3_0 d_w3_0 _ _)); (try (refine bcB (n := w4.heap.size) hb ?_; intro h_w4_0 e_w4_0 d_w4_0 _ _))))
        all_goals (go_step; apply_assumption; refine Met.intro ?_; apply_assumption; (repeat apply Exists.intro); refine ⟨?_, rfl⟩; (refine ⟨_, rfl, ?_, ?_⟩ <;> first | (constructor <;> go_simp; done) | exact belz))
      case rest =>
        obtain ⟨b23, rfl, m23, hbe⟩ := hcut
        have hse := hbe.size
        obtain ⟨l23, c230, c231, f230, f231⟩ := m23
        refine bcUse (n := w.heap.size + 1 + 1) hbe (by omega) ?_; intro _ _
        refine bcUse (n := w.heap.size + 1 + 1 + 1) hbe (by omega) ?_; intro _ _
        refine bcUse (n := b21) hbe (by omega) ?_; intro _ _
        refine bcUse (n := b22) hbe (by omega) ?_; intro _ _
        have d21' : b21 < wc.heap.size := by omega
        have d22' : b22 < wc.heap.size := by omega
        have d4' : w.heap.size + 1 + 1 < wc.heap.size := by omega
        have d5' : w.heap.size + 1 + 1 + 1 < wc.heap.size := by omega
        obtain ⟨wf, rfl⟩ : ∃ wf : World, wf = wc := ⟨_, rfl⟩
        have hW : Below w.heap.size w wf := Below.call (Below.call hbc (by omega) hbd) (by omega) hbe
        rcases HR.out with ⟨rfl, rfl, rfl, rfl, rfl⟩ | ⟨rfl, rfl, rfl, rfl, rfl⟩
        · go_wp2_with (first | (go_at_call 52; (with_reducible refine (HA.out _).mono ?_); rintro e w6 ⟨rfl, hb⟩; have hz := hb.size; (try simp only [szA, szS, szD, szN] at hz); (try (refine bcB (n := w.heap.size + 1 + 1) hb ?_; intro h_w_2 e_w_2 d_w_2 _ _)); (try (refine bcB (n := w.heap.size + 1 + 1 + 1) hb ?_; intro h_w_3 e_w_3 d_w_3 _ _)); (try (refine bcB (n := b23) hb ?_; intro h_bb23_0 e_bb23_0 d_bb23_0 _ _))) | (go_at_call 51; (with_reducible refine (HD.out _).mono ?_); rintro e w7 ⟨rfl, hb⟩; have hz := hb.size; (try simp only [szA, szS, szD, szN] at hz); (try (refine bcB (n := w.heap.size + 1 + 1) hb ?_; intro h_w_2 e_w_2 d_w_2 _ _)); (try (refine bcB (n := w.heap.size + 1 + 1 + 1) hb ?_; intro h_w_3 e_w_3 d_w_3 _ _)); (try (refine bcB (n := b23) hb ?_; intro h_bb23_0 e_bb23_0 d_bb23_0 _ _)); (try (refine bcB (n := w6.heap.size) hb ?_; intro h_w6_0 e_w6_0 d_w6_0 _ _))))
          go_region
          all_goals go_wp2
          all_goals refine bodyPost_ret (v := .tuple #[.agg #[.int .i64 fa0, .int .i64 fa1], .agg #[.int .i64 fd0, .int .i64 fd1], .int .i64 0]) (by simp only [results, Tryz.results47]; go_simp) rfl ⟨rfl, ?_⟩
          all_goals exact belz
        · go_wp2_with (go_at_call 52; (with_reducible refine (HA.out _).mono ?_); rintro e w6 ⟨rfl, hb⟩; have hz := hb.size; (try simp only [szA, szS, szD, szN] at hz); (try (refine bcB (n := w.heap.size + 1 + 1) hb ?_; intro h_w_2 e_w_2 d_w_2 _ _)); (try (refine bcB (n := w.heap.size + 1 + 1 + 1) hb ?_; intro h_w_3 e_w_3 d_w_3 _ _)); (try (refine bcB (n := b23) hb ?_; intro h_bb23_0 e_bb23_0 d_bb23_0 _ _)))
          refine bodyPost_ret (v := .tuple #[.agg #[.int .i64 0, .int .i64 0], .agg #[.int .i64 0, .int .i64 0], .int .i64 11]) (by simp only [results, Tryz.results47]; go_simp) rfl ⟨rfl, ?_⟩
          exact belz
end Go.Proofs.YtcgnhnmigmdalaaGreatDoor
