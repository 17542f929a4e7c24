/- The contract of notice.Read at any text; the walk through the law NoticeReads. -/
import Derived.Test.YtbcehnhiedbbbaaDoorWalkNoD
import Derived.WideShapes
set_option linter.unusedVariables false
set_option linter.unusedSimpArgs false
namespace Go.Proofs.YtbcehnhiedbbbaaDoor
open Go.RowKit
set_option maxRecDepth 100000 in
set_option maxHeartbeats 8000000 in
theorem c_ReadB0 {S0 : ByteArray} (hbad : WdB S0) (w : World) (hT : NTab w) (hM : NMx w) (hE : NEr w) :
    Calls Tryd.prog 18 #[.string S0] w fun e w' => e = .returned (.tuple #[.agg #[.int .i64 0, .int .i64 0, .string ⟨#[]⟩, .int .i64 0], .int .i64 4]) ∧ Below w.heap.size w w' := by
  have HT := Lib.hid hT
  have HM := Lib.hid hM
  have HE := Lib.hid hE
  clear hT hM hE
  cases hbad with
  | no W R c a =>
    have HB1 := Lib.hid c
    have HB2 := Lib.hid a
    clear c a
    have hgen := sgen; have hgen2 := sgen2; have hgen3 := sgen3; go_enter Tryd.func18, Tryd.ntmps18
    go_wp2
    refine wp_loop_rounds 4 ?_
    rw [rounds_succ]
    go_upto_region 8 with (first | (go_at_call 41; (with_reducible refine (HB1.out _).mono ?_); rintro e wx ⟨rfl, hb⟩; have hz := hb.size; (try simp only [szA, szS, szD, szN] at hz); (try (refine bcB (n := w.heap.size) hb ?_; intro h_w_0 e_w_0 d_w_0 _ _)); (try (refine bcB (n := w.heap.size + 1) hb ?_; intro h_w_1 e_w_1 d_w_1 _ _)); (try (refine bcB (n := w.heap.size + 1 + 1) hb ?_; intro h_w_2 e_w_2 d_w_2 _ _))) | (go_at_call 42; (refine (HB2.out _ (HE.out.below (by exact belz))).mono ?_); rintro e wy ⟨v, ev, rfl, hb⟩; have hz := hb.size; (try simp only [szA, szS, szD, szN] at hz); (try (refine bcB (n := w.heap.size + 1) hb ?_; intro h_w_1 e_w_1 d_w_1 _ _)); (try (refine bcB (n := w.heap.size + 1 + 1) hb ?_; intro h_w_2 e_w_2 d_w_2 _ _))))
    have rl0 : wy.cell? ⟨w.heap.size, 0, none⟩ = some (.int .i64 0) := by
      rw [hb.cell (p := ⟨w.heap.size, 0, none⟩) (by (try simp only [szA, szS, szD, szN]); omega)]
      go_simp
    have fl0 : wy.frozen? ⟨w.heap.size, 0, none⟩ = false := by
      rw [hb.frozen (p := ⟨w.heap.size, 0, none⟩) (by (try simp only [szA, szS, szD, szN]); omega)]
      go_simp
    have rl1 : wy.cell? ⟨w.heap.size, 1, none⟩ = some (.int .i64 0) := by
      rw [hb.cell (p := ⟨w.heap.size, 1, none⟩) (by (try simp only [szA, szS, szD, szN]); omega)]
      go_simp
    have fl1 : wy.frozen? ⟨w.heap.size, 1, none⟩ = false := by
      rw [hb.frozen (p := ⟨w.heap.size, 1, none⟩) (by (try simp only [szA, szS, szD, szN]); omega)]
      go_simp
    have rl2 : wy.cell? ⟨w.heap.size, 2, none⟩ = some (.string ⟨#[]⟩) := by
      rw [hb.cell (p := ⟨w.heap.size, 2, none⟩) (by (try simp only [szA, szS, szD, szN]); omega)]
      go_simp
    have fl2 : wy.frozen? ⟨w.heap.size, 2, none⟩ = false := by
      rw [hb.frozen (p := ⟨w.heap.size, 2, none⟩) (by (try simp only [szA, szS, szD, szN]); omega)]
      go_simp
    have rl3 : wy.cell? ⟨w.heap.size, 3, none⟩ = some (.int .i64 0) := by
      rw [hb.cell (p := ⟨w.heap.size, 3, none⟩) (by (try simp only [szA, szS, szD, szN]); omega)]
      go_simp
    have fl3 : wy.frozen? ⟨w.heap.size, 3, none⟩ = false := by
      rw [hb.frozen (p := ⟨w.heap.size, 3, none⟩) (by (try simp only [szA, szS, szD, szN]); omega)]
      go_simp
    go_wp2
    refine bodyPost_ret (v := .tuple #[.agg #[.int .i64 0, .int .i64 0, .string ⟨#[]⟩, .int .i64 0], .int .i64 4]) (by simp only [results, Tryd.results18]; go_simp) rfl ⟨rfl, ?_⟩
    exact belz
  | er W R c a =>
    have HB1 := Lib.hid c
    have HB2 := Lib.hid a
    clear c a
    have hgen := sgen; have hgen2 := sgen2; have hgen3 := sgen3; go_enter Tryd.func18, Tryd.ntmps18
    go_wp2
    refine wp_loop_rounds 4 ?_
    rw [rounds_succ]
    go_upto_region 8 with (first | (go_at_call 41; (with_reducible refine (HB1.out _).mono ?_); rintro e wx ⟨rfl, hb⟩; have hz := hb.size; (try simp only [szA, szS, szD, szN] at hz); (try (refine bcB (n := w.heap.size) hb ?_; intro h_w_0 e_w_0 d_w_0 _ _)); (try (refine bcB (n := w.heap.size + 1) hb ?_; intro h_w_1 e_w_1 d_w_1 _ _)); (try (refine bcB (n := w.heap.size + 1 + 1) hb ?_; intro h_w_2 e_w_2 d_w_2 _ _))) | (go_at_call 42; (refine (HB2.out _ (HE.out.below (by exact belz))).mono ?_); rintro e wy ⟨v, tp, p, rfl, hb⟩; have hz := hb.size; (try simp only [szA, szS, szD, szN] at hz); (try (refine bcB (n := w.heap.size + 1) hb ?_; intro h_w_1 e_w_1 d_w_1 _ _)); (try (refine bcB (n := w.heap.size + 1 + 1) hb ?_; intro h_w_2 e_w_2 d_w_2 _ _))))
    have rl0 : wy.cell? ⟨w.heap.size, 0, none⟩ = some (.int .i64 0) := by
      rw [hb.cell (p := ⟨w.heap.size, 0, none⟩) (by (try simp only [szA, szS, szD, szN]); omega)]
      go_simp
    have fl0 : wy.frozen? ⟨w.heap.size, 0, none⟩ = false := by
      rw [hb.frozen (p := ⟨w.heap.size, 0, none⟩) (by (try simp only [szA, szS, szD, szN]); omega)]
      go_simp
    have rl1 : wy.cell? ⟨w.heap.size, 1, none⟩ = some (.int .i64 0) := by
      rw [hb.cell (p := ⟨w.heap.size, 1, none⟩) (by (try simp only [szA, szS, szD, szN]); omega)]
      go_simp
    have fl1 : wy.frozen? ⟨w.heap.size, 1, none⟩ = false := by
      rw [hb.frozen (p := ⟨w.heap.size, 1, none⟩) (by (try simp only [szA, szS, szD, szN]); omega)]
      go_simp
    have rl2 : wy.cell? ⟨w.heap.size, 2, none⟩ = some (.string ⟨#[]⟩) := by
      rw [hb.cell (p := ⟨w.heap.size, 2, none⟩) (by (try simp only [szA, szS, szD, szN]); omega)]
      go_simp
    have fl2 : wy.frozen? ⟨w.heap.size, 2, none⟩ = false := by
      rw [hb.frozen (p := ⟨w.heap.size, 2, none⟩) (by (try simp only [szA, szS, szD, szN]); omega)]
      go_simp
    have rl3 : wy.cell? ⟨w.heap.size, 3, none⟩ = some (.int .i64 0) := by
      rw [hb.cell (p := ⟨w.heap.size, 3, none⟩) (by (try simp only [szA, szS, szD, szN]); omega)]
      go_simp
    have fl3 : wy.frozen? ⟨w.heap.size, 3, none⟩ = false := by
      rw [hb.frozen (p := ⟨w.heap.size, 3, none⟩) (by (try simp only [szA, szS, szD, szN]); omega)]
      go_simp
    go_wp2
    refine bodyPost_ret (v := .tuple #[.agg #[.int .i64 0, .int .i64 0, .string ⟨#[]⟩, .int .i64 0], .int .i64 4]) (by simp only [results, Tryd.results18]; go_simp) rfl ⟨rfl, ?_⟩
    exact belz
  | ne W R V k c a i h =>
    have HB1 := Lib.hid c
    have HB2 := Lib.hid a
    have HB3 := Lib.hid i
    have g2 : (V.toList == W.toList) = false := by rw [ByteArray.toList_eq, ByteArray.toList_eq]; exact beq_eq_false_iff_ne.2 (fun q => h (Go.WideShapes.bytes_inj q))
    clear c a i h
    have hgen := sgen; have hgen2 := sgen2; have hgen3 := sgen3; go_enter Tryd.func18, Tryd.ntmps18
    go_wp2
    refine wp_loop_rounds 4 ?_
    rw [rounds_succ]
    go_upto_region 8 with (first | (go_at_call 41; (with_reducible refine (HB1.out _).mono ?_); rintro e wx ⟨rfl, hb⟩; have hz := hb.size; (try simp only [szA, szS, szD, szN] at hz); (try (refine bcB (n := w.heap.size) hb ?_; intro h_w_0 e_w_0 d_w_0 _ _)); (try (refine bcB (n := w.heap.size + 1) hb ?_; intro h_w_1 e_w_1 d_w_1 _ _)); (try (refine bcB (n := w.heap.size + 1 + 1) hb ?_; intro h_w_2 e_w_2 d_w_2 _ _))) | (go_at_call 42; (with_reducible refine (HB2.out _).mono ?_); rintro e wy ⟨rfl, hb⟩; have hz := hb.size; (try simp only [szA, szS, szD, szN] at hz); (try (refine bcB (n := w.heap.size) hb ?_; intro h_w_0 e_w_0 d_w_0 _ _)); (try (refine bcB (n := w.heap.size + 1) hb ?_; intro h_w_1 e_w_1 d_w_1 _ _)); (try (refine bcB (n := w.heap.size + 1 + 1) hb ?_; intro h_w_2 e_w_2 d_w_2 _ _))) | (go_at_call 40; (with_reducible refine (HB3.out _ (HT.out.below (by exact belz))).mono ?_); rintro e wz ⟨rfl, hb⟩; have hz := hb.size; (try simp only [szA, szS, szD, szN] at hz); (try (refine bcB (n := w.heap.size + 1) hb ?_; intro h_w_1 e_w_1 d_w_1 _ _)); (try (refine bcB (n := w.heap.size + 1 + 1) hb ?_; intro h_w_2 e_w_2 d_w_2 _ _))))
    have rl0 : wz.cell? ⟨w.heap.size, 0, none⟩ = some (.int .i64 0) := by
      rw [hb.cell (p := ⟨w.heap.size, 0, none⟩) (by (try simp only [szA, szS, szD, szN]); omega)]
      go_simp
    have fl0 : wz.frozen? ⟨w.heap.size, 0, none⟩ = false := by
      rw [hb.frozen (p := ⟨w.heap.size, 0, none⟩) (by (try simp only [szA, szS, szD, szN]); omega)]
      go_simp
    have rl1 : wz.cell? ⟨w.heap.size, 1, none⟩ = some (.int .i64 0) := by
      rw [hb.cell (p := ⟨w.heap.size, 1, none⟩) (by (try simp only [szA, szS, szD, szN]); omega)]
      go_simp
    have fl1 : wz.frozen? ⟨w.heap.size, 1, none⟩ = false := by
      rw [hb.frozen (p := ⟨w.heap.size, 1, none⟩) (by (try simp only [szA, szS, szD, szN]); omega)]
      go_simp
    have rl2 : wz.cell? ⟨w.heap.size, 2, none⟩ = some (.string ⟨#[]⟩) := by
      rw [hb.cell (p := ⟨w.heap.size, 2, none⟩) (by (try simp only [szA, szS, szD, szN]); omega)]
      go_simp
    have fl2 : wz.frozen? ⟨w.heap.size, 2, none⟩ = false := by
      rw [hb.frozen (p := ⟨w.heap.size, 2, none⟩) (by (try simp only [szA, szS, szD, szN]); omega)]
      go_simp
    have rl3 : wz.cell? ⟨w.heap.size, 3, none⟩ = some (.int .i64 0) := by
      rw [hb.cell (p := ⟨w.heap.size, 3, none⟩) (by (try simp only [szA, szS, szD, szN]); omega)]
      go_simp
    have fl3 : wz.frozen? ⟨w.heap.size, 3, none⟩ = false := by
      rw [hb.frozen (p := ⟨w.heap.size, 3, none⟩) (by (try simp only [szA, szS, szD, szN]); omega)]
      go_simp
    go_wp2
    refine bodyPost_ret (v := .tuple #[.agg #[.int .i64 0, .int .i64 0, .string ⟨#[]⟩, .int .i64 0], .int .i64 4]) (by simp only [results, Tryd.results18]; go_simp) rfl ⟨rfl, ?_⟩
    exact belz
set_option maxRecDepth 100000 in
set_option maxHeartbeats 8000000 in
theorem c_ReadB1 {S0 S1 : ByteArray} {W0 : ByteArray} {k0 : Int} (h0 : WdC S0 W0 S1 k0) (hbad : WdB S1) (w : World) (hT : NTab w) (hM : NMx w) (hE : NEr w) :
    Calls Tryd.prog 18 #[.string S0] w fun e w' => e = .returned (.tuple #[.agg #[.int .i64 0, .int .i64 0, .string ⟨#[]⟩, .int .i64 0], .int .i64 4]) ∧ Below w.heap.size w w' := by
  have H0 := Lib.hid h0
  have HT := Lib.hid hT
  have HM := Lib.hid hM
  have HE := Lib.hid hE
  clear hT hM hE h0
  cases hbad with
  | no W R c a =>
    have HB1 := Lib.hid c
    have HB2 := Lib.hid a
    clear c a
    have hgen := sgen; have hgen2 := sgen2; have hgen3 := sgen3; go_enter Tryd.func18, Tryd.ntmps18
    go_wp2
    refine wp_loop_rounds 4 ?_
    rw [rounds_succ]
    go_wp2_with (first | (go_at_call 41; (with_reducible refine (H0.out.c _ (HM.out.below (by exact belz))).mono ?_); rintro e w1 ⟨rfl, hb⟩; have hz := hb.size; (try simp only [szA, szS, szD, szN] at hz); (try (refine bcB (n := w.heap.size) hb ?_; intro h_w_0 e_w_0 d_w_0 _ _)); (try (refine bcB (n := w.heap.size + 1) hb ?_; intro h_w_1 e_w_1 d_w_1 _ _)); (try (refine bcB (n := w.heap.size + 1 + 1) hb ?_; intro h_w_2 e_w_2 d_w_2 _ _))) | (go_at_call 42; (with_reducible refine (H0.out.a _).mono ?_); rintro e w2 ⟨rfl, hb⟩; have hz := hb.size; (try simp only [szA, szS, szD, szN] at hz); (try (refine bcB (n := w.heap.size) hb ?_; intro h_w_0 e_w_0 d_w_0 _ _)); (try (refine bcB (n := w.heap.size + 1) hb ?_; intro h_w_1 e_w_1 d_w_1 _ _)); (try (refine bcB (n := w.heap.size + 1 + 1) hb ?_; intro h_w_2 e_w_2 d_w_2 _ _))) | (go_at_call 40; (with_reducible refine (H0.out.i _ (HT.out.below (by exact belz))).mono ?_); rintro e w3 ⟨rfl, hb⟩; have hz := hb.size; (try simp only [szA, szS, szD, szN] at hz); (try (refine bcB (n := w.heap.size) hb ?_; intro h_w_0 e_w_0 d_w_0 _ _)); (try (refine bcB (n := w.heap.size + 1) hb ?_; intro h_w_1 e_w_1 d_w_1 _ _)); (try (refine bcB (n := w.heap.size + 1 + 1) hb ?_; intro h_w_2 e_w_2 d_w_2 _ _))))
    have r30 : w3.cell? ⟨w.heap.size, 0, none⟩ = some (.int .i64 0) := by go_simp
    have r31 : w3.cell? ⟨w.heap.size, 1, none⟩ = some (.int .i64 0) := by go_simp
    have r32 : w3.cell? ⟨w.heap.size, 2, none⟩ = some (.string ⟨#[]⟩) := by go_simp
    have r33 : w3.cell? ⟨w.heap.size, 3, none⟩ = some (.int .i64 0) := by go_simp
    rw [rounds_succ]
    go_upto_region 8 with (first | (go_at_call 41; (with_reducible refine (HB1.out _).mono ?_); rintro e wx ⟨rfl, hb⟩; have hz := hb.size; (try simp only [szA, szS, szD, szN] at hz); (try (refine bcB (n := w.heap.size) hb ?_; intro h_w_0 e_w_0 d_w_0 _ _)); (try (refine bcB (n := w.heap.size + 1) hb ?_; intro h_w_1 e_w_1 d_w_1 _ _)); (try (refine bcB (n := w.heap.size + 1 + 1) hb ?_; intro h_w_2 e_w_2 d_w_2 _ _))) | (go_at_call 42; (refine (HB2.out _ (HE.out.below (by exact belz))).mono ?_); rintro e wy ⟨v, ev, rfl, hb⟩; have hz := hb.size; (try simp only [szA, szS, szD, szN] at hz); (try (refine bcB (n := w.heap.size + 1) hb ?_; intro h_w_1 e_w_1 d_w_1 _ _)); (try (refine bcB (n := w.heap.size + 1 + 1) hb ?_; intro h_w_2 e_w_2 d_w_2 _ _))))
    have rl0 : wy.cell? ⟨w.heap.size, 0, none⟩ = some (.int .i64 0) := by
      rw [hb.cell (p := ⟨w.heap.size, 0, none⟩) (by (try simp only [szA, szS, szD, szN]); omega)]
      go_simp
    have fl0 : wy.frozen? ⟨w.heap.size, 0, none⟩ = false := by
      rw [hb.frozen (p := ⟨w.heap.size, 0, none⟩) (by (try simp only [szA, szS, szD, szN]); omega)]
      go_simp
    have rl1 : wy.cell? ⟨w.heap.size, 1, none⟩ = some (.int .i64 0) := by
      rw [hb.cell (p := ⟨w.heap.size, 1, none⟩) (by (try simp only [szA, szS, szD, szN]); omega)]
      go_simp
    have fl1 : wy.frozen? ⟨w.heap.size, 1, none⟩ = false := by
      rw [hb.frozen (p := ⟨w.heap.size, 1, none⟩) (by (try simp only [szA, szS, szD, szN]); omega)]
      go_simp
    have rl2 : wy.cell? ⟨w.heap.size, 2, none⟩ = some (.string ⟨#[]⟩) := by
      rw [hb.cell (p := ⟨w.heap.size, 2, none⟩) (by (try simp only [szA, szS, szD, szN]); omega)]
      go_simp
    have fl2 : wy.frozen? ⟨w.heap.size, 2, none⟩ = false := by
      rw [hb.frozen (p := ⟨w.heap.size, 2, none⟩) (by (try simp only [szA, szS, szD, szN]); omega)]
      go_simp
    have rl3 : wy.cell? ⟨w.heap.size, 3, none⟩ = some (.int .i64 0) := by
      rw [hb.cell (p := ⟨w.heap.size, 3, none⟩) (by (try simp only [szA, szS, szD, szN]); omega)]
      go_simp
    have fl3 : wy.frozen? ⟨w.heap.size, 3, none⟩ = false := by
      rw [hb.frozen (p := ⟨w.heap.size, 3, none⟩) (by (try simp only [szA, szS, szD, szN]); omega)]
      go_simp
    go_wp2
    refine bodyPost_ret (v := .tuple #[.agg #[.int .i64 0, .int .i64 0, .string ⟨#[]⟩, .int .i64 0], .int .i64 4]) (by simp only [results, Tryd.results18]; go_simp) rfl ⟨rfl, ?_⟩
    exact belz
  | er W R c a =>
    have HB1 := Lib.hid c
    have HB2 := Lib.hid a
    clear c a
    have hgen := sgen; have hgen2 := sgen2; have hgen3 := sgen3; go_enter Tryd.func18, Tryd.ntmps18
    go_wp2
    refine wp_loop_rounds 4 ?_
    rw [rounds_succ]
    go_wp2_with (first | (go_at_call 41; (with_reducible refine (H0.out.c _ (HM.out.below (by exact belz))).mono ?_); rintro e w1 ⟨rfl, hb⟩; have hz := hb.size; (try simp only [szA, szS, szD, szN] at hz); (try (refine bcB (n := w.heap.size) hb ?_; intro h_w_0 e_w_0 d_w_0 _ _)); (try (refine bcB (n := w.heap.size + 1) hb ?_; intro h_w_1 e_w_1 d_w_1 _ _)); (try (refine bcB (n := w.heap.size + 1 + 1) hb ?_; intro h_w_2 e_w_2 d_w_2 _ _))) | (go_at_call 42; (with_reducible refine (H0.out.a _).mono ?_); rintro e w2 ⟨rfl, hb⟩; have hz := hb.size; (try simp only [szA, szS, szD, szN] at hz); (try (refine bcB (n := w.heap.size) hb ?_; intro h_w_0 e_w_0 d_w_0 _ _)); (try (refine bcB (n := w.heap.size + 1) hb ?_; intro h_w_1 e_w_1 d_w_1 _ _)); (try (refine bcB (n := w.heap.size + 1 + 1) hb ?_; intro h_w_2 e_w_2 d_w_2 _ _))) | (go_at_call 40; (with_reducible refine (H0.out.i _ (HT.out.below (by exact belz))).mono ?_); rintro e w3 ⟨rfl, hb⟩; have hz := hb.size; (try simp only [szA, szS, szD, szN] at hz); (try (refine bcB (n := w.heap.size) hb ?_; intro h_w_0 e_w_0 d_w_0 _ _)); (try (refine bcB (n := w.heap.size + 1) hb ?_; intro h_w_1 e_w_1 d_w_1 _ _)); (try (refine bcB (n := w.heap.size + 1 + 1) hb ?_; intro h_w_2 e_w_2 d_w_2 _ _))))
    have r30 : w3.cell? ⟨w.heap.size, 0, none⟩ = some (.int .i64 0) := by go_simp
    have r31 : w3.cell? ⟨w.heap.size, 1, none⟩ = some (.int .i64 0) := by go_simp
    have r32 : w3.cell? ⟨w.heap.size, 2, none⟩ = some (.string ⟨#[]⟩) := by go_simp
    have r33 : w3.cell? ⟨w.heap.size, 3, none⟩ = some (.int .i64 0) := by go_simp
    rw [rounds_succ]
    go_upto_region 8 with (first | (go_at_call 41; (with_reducible refine (HB1.out _).mono ?_); rintro e wx ⟨rfl, hb⟩; have hz := hb.size; (try simp only [szA, szS, szD, szN] at hz); (try (refine bcB (n := w.heap.size) hb ?_; intro h_w_0 e_w_0 d_w_0 _ _)); (try (refine bcB (n := w.heap.size + 1) hb ?_; intro h_w_1 e_w_1 d_w_1 _ _)); (try (refine bcB (n := w.heap.size + 1 + 1) hb ?_; intro h_w_2 e_w_2 d_w_2 _ _))) | (go_at_call 42; (refine (HB2.out _ (HE.out.below (by exact belz))).mono ?_); rintro e wy ⟨v, tp, p, rfl, hb⟩; have hz := hb.size; (try simp only [szA, szS, szD, szN] at hz); (try (refine bcB (n := w.heap.size + 1) hb ?_; intro h_w_1 e_w_1 d_w_1 _ _)); (try (refine bcB (n := w.heap.size + 1 + 1) hb ?_; intro h_w_2 e_w_2 d_w_2 _ _))))
    have rl0 : wy.cell? ⟨w.heap.size, 0, none⟩ = some (.int .i64 0) := by
      rw [hb.cell (p := ⟨w.heap.size, 0, none⟩) (by (try simp only [szA, szS, szD, szN]); omega)]
      go_simp
    have fl0 : wy.frozen? ⟨w.heap.size, 0, none⟩ = false := by
      rw [hb.frozen (p := ⟨w.heap.size, 0, none⟩) (by (try simp only [szA, szS, szD, szN]); omega)]
      go_simp
    have rl1 : wy.cell? ⟨w.heap.size, 1, none⟩ = some (.int .i64 0) := by
      rw [hb.cell (p := ⟨w.heap.size, 1, none⟩) (by (try simp only [szA, szS, szD, szN]); omega)]
      go_simp
    have fl1 : wy.frozen? ⟨w.heap.size, 1, none⟩ = false := by
      rw [hb.frozen (p := ⟨w.heap.size, 1, none⟩) (by (try simp only [szA, szS, szD, szN]); omega)]
      go_simp
    have rl2 : wy.cell? ⟨w.heap.size, 2, none⟩ = some (.string ⟨#[]⟩) := by
      rw [hb.cell (p := ⟨w.heap.size, 2, none⟩) (by (try simp only [szA, szS, szD, szN]); omega)]
      go_simp
    have fl2 : wy.frozen? ⟨w.heap.size, 2, none⟩ = false := by
      rw [hb.frozen (p := ⟨w.heap.size, 2, none⟩) (by (try simp only [szA, szS, szD, szN]); omega)]
      go_simp
    have rl3 : wy.cell? ⟨w.heap.size, 3, none⟩ = some (.int .i64 0) := by
      rw [hb.cell (p := ⟨w.heap.size, 3, none⟩) (by (try simp only [szA, szS, szD, szN]); omega)]
      go_simp
    have fl3 : wy.frozen? ⟨w.heap.size, 3, none⟩ = false := by
      rw [hb.frozen (p := ⟨w.heap.size, 3, none⟩) (by (try simp only [szA, szS, szD, szN]); omega)]
      go_simp
    go_wp2
    refine bodyPost_ret (v := .tuple #[.agg #[.int .i64 0, .int .i64 0, .string ⟨#[]⟩, .int .i64 0], .int .i64 4]) (by simp only [results, Tryd.results18]; go_simp) rfl ⟨rfl, ?_⟩
    exact belz
  | ne W R V k c a i h =>
    have HB1 := Lib.hid c
    have HB2 := Lib.hid a
    have HB3 := Lib.hid i
    have g2 : (V.toList == W.toList) = false := by rw [ByteArray.toList_eq, ByteArray.toList_eq]; exact beq_eq_false_iff_ne.2 (fun q => h (Go.WideShapes.bytes_inj q))
    clear c a i h
    have hgen := sgen; have hgen2 := sgen2; have hgen3 := sgen3; go_enter Tryd.func18, Tryd.ntmps18
    go_wp2
    refine wp_loop_rounds 4 ?_
    rw [rounds_succ]
    go_wp2_with (first | (go_at_call 41; (with_reducible refine (H0.out.c _ (HM.out.below (by exact belz))).mono ?_); rintro e w1 ⟨rfl, hb⟩; have hz := hb.size; (try simp only [szA, szS, szD, szN] at hz); (try (refine bcB (n := w.heap.size) hb ?_; intro h_w_0 e_w_0 d_w_0 _ _)); (try (refine bcB (n := w.heap.size + 1) hb ?_; intro h_w_1 e_w_1 d_w_1 _ _)); (try (refine bcB (n := w.heap.size + 1 + 1) hb ?_; intro h_w_2 e_w_2 d_w_2 _ _))) | (go_at_call 42; (with_reducible refine (H0.out.a _).mono ?_); rintro e w2 ⟨rfl, hb⟩; have hz := hb.size; (try simp only [szA, szS, szD, szN] at hz); (try (refine bcB (n := w.heap.size) hb ?_; intro h_w_0 e_w_0 d_w_0 _ _)); (try (refine bcB (n := w.heap.size + 1) hb ?_; intro h_w_1 e_w_1 d_w_1 _ _)); (try (refine bcB (n := w.heap.size + 1 + 1) hb ?_; intro h_w_2 e_w_2 d_w_2 _ _))) | (go_at_call 40; (with_reducible refine (H0.out.i _ (HT.out.below (by exact belz))).mono ?_); rintro e w3 ⟨rfl, hb⟩; have hz := hb.size; (try simp only [szA, szS, szD, szN] at hz); (try (refine bcB (n := w.heap.size) hb ?_; intro h_w_0 e_w_0 d_w_0 _ _)); (try (refine bcB (n := w.heap.size + 1) hb ?_; intro h_w_1 e_w_1 d_w_1 _ _)); (try (refine bcB (n := w.heap.size + 1 + 1) hb ?_; intro h_w_2 e_w_2 d_w_2 _ _))))
    have r30 : w3.cell? ⟨w.heap.size, 0, none⟩ = some (.int .i64 0) := by go_simp
    have r31 : w3.cell? ⟨w.heap.size, 1, none⟩ = some (.int .i64 0) := by go_simp
    have r32 : w3.cell? ⟨w.heap.size, 2, none⟩ = some (.string ⟨#[]⟩) := by go_simp
    have r33 : w3.cell? ⟨w.heap.size, 3, none⟩ = some (.int .i64 0) := by go_simp
    rw [rounds_succ]
    go_upto_region 8 with (first | (go_at_call 41; (with_reducible refine (HB1.out _).mono ?_); rintro e wx ⟨rfl, hb⟩; have hz := hb.size; (try simp only [szA, szS, szD, szN] at hz); (try (refine bcB (n := w.heap.size) hb ?_; intro h_w_0 e_w_0 d_w_0 _ _)); (try (refine bcB (n := w.heap.size + 1) hb ?_; intro h_w_1 e_w_1 d_w_1 _ _)); (try (refine bcB (n := w.heap.size + 1 + 1) hb ?_; intro h_w_2 e_w_2 d_w_2 _ _))) | (go_at_call 42; (with_reducible refine (HB2.out _).mono ?_); rintro e wy ⟨rfl, hb⟩; have hz := hb.size; (try simp only [szA, szS, szD, szN] at hz); (try (refine bcB (n := w.heap.size) hb ?_; intro h_w_0 e_w_0 d_w_0 _ _)); (try (refine bcB (n := w.heap.size + 1) hb ?_; intro h_w_1 e_w_1 d_w_1 _ _)); (try (refine bcB (n := w.heap.size + 1 + 1) hb ?_; intro h_w_2 e_w_2 d_w_2 _ _))) | (go_at_call 40; (with_reducible refine (HB3.out _ (HT.out.below (by exact belz))).mono ?_); rintro e wz ⟨rfl, hb⟩; have hz := hb.size; (try simp only [szA, szS, szD, szN] at hz); (try (refine bcB (n := w.heap.size + 1) hb ?_; intro h_w_1 e_w_1 d_w_1 _ _)); (try (refine bcB (n := w.heap.size + 1 + 1) hb ?_; intro h_w_2 e_w_2 d_w_2 _ _))))
    have rl0 : wz.cell? ⟨w.heap.size, 0, none⟩ = some (.int .i64 0) := by
      rw [hb.cell (p := ⟨w.heap.size, 0, none⟩) (by (try simp only [szA, szS, szD, szN]); omega)]
      go_simp
    have fl0 : wz.frozen? ⟨w.heap.size, 0, none⟩ = false := by
      rw [hb.frozen (p := ⟨w.heap.size, 0, none⟩) (by (try simp only [szA, szS, szD, szN]); omega)]
      go_simp
    have rl1 : wz.cell? ⟨w.heap.size, 1, none⟩ = some (.int .i64 0) := by
      rw [hb.cell (p := ⟨w.heap.size, 1, none⟩) (by (try simp only [szA, szS, szD, szN]); omega)]
      go_simp
    have fl1 : wz.frozen? ⟨w.heap.size, 1, none⟩ = false := by
      rw [hb.frozen (p := ⟨w.heap.size, 1, none⟩) (by (try simp only [szA, szS, szD, szN]); omega)]
      go_simp
    have rl2 : wz.cell? ⟨w.heap.size, 2, none⟩ = some (.string ⟨#[]⟩) := by
      rw [hb.cell (p := ⟨w.heap.size, 2, none⟩) (by (try simp only [szA, szS, szD, szN]); omega)]
      go_simp
    have fl2 : wz.frozen? ⟨w.heap.size, 2, none⟩ = false := by
      rw [hb.frozen (p := ⟨w.heap.size, 2, none⟩) (by (try simp only [szA, szS, szD, szN]); omega)]
      go_simp
    have rl3 : wz.cell? ⟨w.heap.size, 3, none⟩ = some (.int .i64 0) := by
      rw [hb.cell (p := ⟨w.heap.size, 3, none⟩) (by (try simp only [szA, szS, szD, szN]); omega)]
      go_simp
    have fl3 : wz.frozen? ⟨w.heap.size, 3, none⟩ = false := by
      rw [hb.frozen (p := ⟨w.heap.size, 3, none⟩) (by (try simp only [szA, szS, szD, szN]); omega)]
      go_simp
    go_wp2
    refine bodyPost_ret (v := .tuple #[.agg #[.int .i64 0, .int .i64 0, .string ⟨#[]⟩, .int .i64 0], .int .i64 4]) (by simp only [results, Tryd.results18]; go_simp) rfl ⟨rfl, ?_⟩
    exact belz
set_option maxRecDepth 100000 in
set_option maxHeartbeats 8000000 in
theorem c_ReadB2 {S0 S1 S2 : ByteArray} {W0 : ByteArray} {k0 : Int} (h0 : WdC S0 W0 S1 k0) {W1 : ByteArray} {k1 : Int} (h1 : WdC S1 W1 S2 k1) (hbad : WdB S2) (w : World) (hT : NTab w) (hM : NMx w) (hE : NEr w) :
    Calls Tryd.prog 18 #[.string S0] w fun e w' => e = .returned (.tuple #[.agg #[.int .i64 0, .int .i64 0, .string ⟨#[]⟩, .int .i64 0], .int .i64 4]) ∧ Below w.heap.size w w' := by
  have H0 := Lib.hid h0
  have H1 := Lib.hid h1
  have HT := Lib.hid hT
  have HM := Lib.hid hM
  have HE := Lib.hid hE
  clear hT hM hE h0 h1
  cases hbad with
  | no W R c a =>
    have HB1 := Lib.hid c
    have HB2 := Lib.hid a
    clear c a
    have hgen := sgen; have hgen2 := sgen2; have hgen3 := sgen3; go_enter Tryd.func18, Tryd.ntmps18
    go_wp2
    refine wp_loop_rounds 4 ?_
    rw [rounds_succ]
    go_wp2_with (first | (go_at_call 41; (with_reducible refine (H0.out.c _ (HM.out.below (by exact belz))).mono ?_); rintro e w1 ⟨rfl, hb⟩; have hz := hb.size; (try simp only [szA, szS, szD, szN] at hz); (try (refine bcB (n := w.heap.size) hb ?_; intro h_w_0 e_w_0 d_w_0 _ _)); (try (refine bcB (n := w.heap.size + 1) hb ?_; intro h_w_1 e_w_1 d_w_1 _ _)); (try (refine bcB (n := w.heap.size + 1 + 1) hb ?_; intro h_w_2 e_w_2 d_w_2 _ _))) | (go_at_call 42; (with_reducible refine (H0.out.a _).mono ?_); rintro e w2 ⟨rfl, hb⟩; have hz := hb.size; (try simp only [szA, szS, szD, szN] at hz); (try (refine bcB (n := w.heap.size) hb ?_; intro h_w_0 e_w_0 d_w_0 _ _)); (try (refine bcB (n := w.heap.size + 1) hb ?_; intro h_w_1 e_w_1 d_w_1 _ _)); (try (refine bcB (n := w.heap.size + 1 + 1) hb ?_; intro h_w_2 e_w_2 d_w_2 _ _))) | (go_at_call 40; (with_reducible refine (H0.out.i _ (HT.out.below (by exact belz))).mono ?_); rintro e w3 ⟨rfl, hb⟩; have hz := hb.size; (try simp only [szA, szS, szD, szN] at hz); (try (refine bcB (n := w.heap.size) hb ?_; intro h_w_0 e_w_0 d_w_0 _ _)); (try (refine bcB (n := w.heap.size + 1) hb ?_; intro h_w_1 e_w_1 d_w_1 _ _)); (try (refine bcB (n := w.heap.size + 1 + 1) hb ?_; intro h_w_2 e_w_2 d_w_2 _ _))))
    have r30 : w3.cell? ⟨w.heap.size, 0, none⟩ = some (.int .i64 0) := by go_simp
    have r31 : w3.cell? ⟨w.heap.size, 1, none⟩ = some (.int .i64 0) := by go_simp
    have r32 : w3.cell? ⟨w.heap.size, 2, none⟩ = some (.string ⟨#[]⟩) := by go_simp
    have r33 : w3.cell? ⟨w.heap.size, 3, none⟩ = some (.int .i64 0) := by go_simp
    rw [rounds_succ]
    go_wp2_with (first | (go_at_call 41; (with_reducible refine (H1.out.c _ (HM.out.below (by exact belz))).mono ?_); rintro e w4 ⟨rfl, hb⟩; have hz := hb.size; (try simp only [szA, szS, szD, szN] at hz); (try (refine bcB (n := w.heap.size) hb ?_; intro h_w_0 e_w_0 d_w_0 _ _)); (try (refine bcB (n := w.heap.size + 1) hb ?_; intro h_w_1 e_w_1 d_w_1 _ _)); (try (refine bcB (n := w.heap.size + 1 + 1) hb ?_; intro h_w_2 e_w_2 d_w_2 _ _))) | (go_at_call 42; (with_reducible refine (H1.out.a _).mono ?_); rintro e w5 ⟨rfl, hb⟩; have hz := hb.size; (try simp only [szA, szS, szD, szN] at hz); (try (refine bcB (n := w.heap.size) hb ?_; intro h_w_0 e_w_0 d_w_0 _ _)); (try (refine bcB (n := w.heap.size + 1) hb ?_; intro h_w_1 e_w_1 d_w_1 _ _)); (try (refine bcB (n := w.heap.size + 1 + 1) hb ?_; intro h_w_2 e_w_2 d_w_2 _ _))) | (go_at_call 40; (with_reducible refine (H1.out.i _ (HT.out.below (by exact belz))).mono ?_); rintro e w6 ⟨rfl, hb⟩; have hz := hb.size; (try simp only [szA, szS, szD, szN] at hz); (try (refine bcB (n := w.heap.size) hb ?_; intro h_w_0 e_w_0 d_w_0 _ _)); (try (refine bcB (n := w.heap.size + 1) hb ?_; intro h_w_1 e_w_1 d_w_1 _ _)); (try (refine bcB (n := w.heap.size + 1 + 1) hb ?_; intro h_w_2 e_w_2 d_w_2 _ _))))
    have r60 : w6.cell? ⟨w.heap.size, 0, none⟩ = some (.int .i64 0) := by go_simp
    have r61 : w6.cell? ⟨w.heap.size, 1, none⟩ = some (.int .i64 0) := by go_simp
    have r62 : w6.cell? ⟨w.heap.size, 2, none⟩ = some (.string ⟨#[]⟩) := by go_simp
    have r63 : w6.cell? ⟨w.heap.size, 3, none⟩ = some (.int .i64 0) := by go_simp
    rw [rounds_succ]
    go_upto_region 8 with (first | (go_at_call 41; (with_reducible refine (HB1.out _).mono ?_); rintro e wx ⟨rfl, hb⟩; have hz := hb.size; (try simp only [szA, szS, szD, szN] at hz); (try (refine bcB (n := w.heap.size) hb ?_; intro h_w_0 e_w_0 d_w_0 _ _)); (try (refine bcB (n := w.heap.size + 1) hb ?_; intro h_w_1 e_w_1 d_w_1 _ _)); (try (refine bcB (n := w.heap.size + 1 + 1) hb ?_; intro h_w_2 e_w_2 d_w_2 _ _))) | (go_at_call 42; (refine (HB2.out _ (HE.out.below (by exact belz))).mono ?_); rintro e wy ⟨v, ev, rfl, hb⟩; have hz := hb.size; (try simp only [szA, szS, szD, szN] at hz); (try (refine bcB (n := w.heap.size + 1) hb ?_; intro h_w_1 e_w_1 d_w_1 _ _)); (try (refine bcB (n := w.heap.size + 1 + 1) hb ?_; intro h_w_2 e_w_2 d_w_2 _ _))))
    have rl0 : wy.cell? ⟨w.heap.size, 0, none⟩ = some (.int .i64 0) := by
      rw [hb.cell (p := ⟨w.heap.size, 0, none⟩) (by (try simp only [szA, szS, szD, szN]); omega)]
      go_simp
    have fl0 : wy.frozen? ⟨w.heap.size, 0, none⟩ = false := by
      rw [hb.frozen (p := ⟨w.heap.size, 0, none⟩) (by (try simp only [szA, szS, szD, szN]); omega)]
      go_simp
    have rl1 : wy.cell? ⟨w.heap.size, 1, none⟩ = some (.int .i64 0) := by
      rw [hb.cell (p := ⟨w.heap.size, 1, none⟩) (by (try simp only [szA, szS, szD, szN]); omega)]
      go_simp
    have fl1 : wy.frozen? ⟨w.heap.size, 1, none⟩ = false := by
      rw [hb.frozen (p := ⟨w.heap.size, 1, none⟩) (by (try simp only [szA, szS, szD, szN]); omega)]
      go_simp
    have rl2 : wy.cell? ⟨w.heap.size, 2, none⟩ = some (.string ⟨#[]⟩) := by
      rw [hb.cell (p := ⟨w.heap.size, 2, none⟩) (by (try simp only [szA, szS, szD, szN]); omega)]
      go_simp
    have fl2 : wy.frozen? ⟨w.heap.size, 2, none⟩ = false := by
      rw [hb.frozen (p := ⟨w.heap.size, 2, none⟩) (by (try simp only [szA, szS, szD, szN]); omega)]
      go_simp
    have rl3 : wy.cell? ⟨w.heap.size, 3, none⟩ = some (.int .i64 0) := by
      rw [hb.cell (p := ⟨w.heap.size, 3, none⟩) (by (try simp only [szA, szS, szD, szN]); omega)]
      go_simp
    have fl3 : wy.frozen? ⟨w.heap.size, 3, none⟩ = false := by
      rw [hb.frozen (p := ⟨w.heap.size, 3, none⟩) (by (try simp only [szA, szS, szD, szN]); omega)]
      go_simp
    go_wp2
    refine bodyPost_ret (v := .tuple #[.agg #[.int .i64 0, .int .i64 0, .string ⟨#[]⟩, .int .i64 0], .int .i64 4]) (by simp only [results, Tryd.results18]; go_simp) rfl ⟨rfl, ?_⟩
    exact belz
  | er W R c a =>
    have HB1 := Lib.hid c
    have HB2 := Lib.hid a
    clear c a
    have hgen := sgen; have hgen2 := sgen2; have hgen3 := sgen3; go_enter Tryd.func18, Tryd.ntmps18
    go_wp2
    refine wp_loop_rounds 4 ?_
    rw [rounds_succ]
    go_wp2_with (first | (go_at_call 41; (with_reducible refine (H0.out.c _ (HM.out.below (by exact belz))).mono ?_); rintro e w1 ⟨rfl, hb⟩; have hz := hb.size; (try simp only [szA, szS, szD, szN] at hz); (try (refine bcB (n := w.heap.size) hb ?_; intro h_w_0 e_w_0 d_w_0 _ _)); (try (refine bcB (n := w.heap.size + 1) hb ?_; intro h_w_1 e_w_1 d_w_1 _ _)); (try (refine bcB (n := w.heap.size + 1 + 1) hb ?_; intro h_w_2 e_w_2 d_w_2 _ _))) | (go_at_call 42; (with_reducible refine (H0.out.a _).mono ?_); rintro e w2 ⟨rfl, hb⟩; have hz := hb.size; (try simp only [szA, szS, szD, szN] at hz); (try (refine bcB (n := w.heap.size) hb ?_; intro h_w_0 e_w_0 d_w_0 _ _)); (try (refine bcB (n := w.heap.size + 1) hb ?_; intro h_w_1 e_w_1 d_w_1 _ _)); (try (refine bcB (n := w.heap.size + 1 + 1) hb ?_; intro h_w_2 e_w_2 d_w_2 _ _))) | (go_at_call 40; (with_reducible refine (H0.out.i _ (HT.out.below (by exact belz))).mono ?_); rintro e w3 ⟨rfl, hb⟩; have hz := hb.size; (try simp only [szA, szS, szD, szN] at hz); (try (refine bcB (n := w.heap.size) hb ?_; intro h_w_0 e_w_0 d_w_0 _ _)); (try (refine bcB (n := w.heap.size + 1) hb ?_; intro h_w_1 e_w_1 d_w_1 _ _)); (try (refine bcB (n := w.heap.size + 1 + 1) hb ?_; intro h_w_2 e_w_2 d_w_2 _ _))))
    have r30 : w3.cell? ⟨w.heap.size, 0, none⟩ = some (.int .i64 0) := by go_simp
    have r31 : w3.cell? ⟨w.heap.size, 1, none⟩ = some (.int .i64 0) := by go_simp
    have r32 : w3.cell? ⟨w.heap.size, 2, none⟩ = some (.string ⟨#[]⟩) := by go_simp
    have r33 : w3.cell? ⟨w.heap.size, 3, none⟩ = some (.int .i64 0) := by go_simp
    rw [rounds_succ]
    go_wp2_with (first | (go_at_call 41; (with_reducible refine (H1.out.c _ (HM.out.below (by exact belz))).mono ?_); rintro e w4 ⟨rfl, hb⟩; have hz := hb.size; (try simp only [szA, szS, szD, szN] at hz); (try (refine bcB (n := w.heap.size) hb ?_; intro h_w_0 e_w_0 d_w_0 _ _)); (try (refine bcB (n := w.heap.size + 1) hb ?_; intro h_w_1 e_w_1 d_w_1 _ _)); (try (refine bcB (n := w.heap.size + 1 + 1) hb ?_; intro h_w_2 e_w_2 d_w_2 _ _))) | (go_at_call 42; (with_reducible refine (H1.out.a _).mono ?_); rintro e w5 ⟨rfl, hb⟩; have hz := hb.size; (try simp only [szA, szS, szD, szN] at hz); (try (refine bcB (n := w.heap.size) hb ?_; intro h_w_0 e_w_0 d_w_0 _ _)); (try (refine bcB (n := w.heap.size + 1) hb ?_; intro h_w_1 e_w_1 d_w_1 _ _)); (try (refine bcB (n := w.heap.size + 1 + 1) hb ?_; intro h_w_2 e_w_2 d_w_2 _ _))) | (go_at_call 40; (with_reducible refine (H1.out.i _ (HT.out.below (by exact belz))).mono ?_); rintro e w6 ⟨rfl, hb⟩; have hz := hb.size; (try simp only [szA, szS, szD, szN] at hz); (try (refine bcB (n := w.heap.size) hb ?_; intro h_w_0 e_w_0 d_w_0 _ _)); (try (refine bcB (n := w.heap.size + 1) hb ?_; intro h_w_1 e_w_1 d_w_1 _ _)); (try (refine bcB (n := w.heap.size + 1 + 1) hb ?_; intro h_w_2 e_w_2 d_w_2 _ _))))
    have r60 : w6.cell? ⟨w.heap.size, 0, none⟩ = some (.int .i64 0) := by go_simp
    have r61 : w6.cell? ⟨w.heap.size, 1, none⟩ = some (.int .i64 0) := by go_simp
    have r62 : w6.cell? ⟨w.heap.size, 2, none⟩ = some (.string ⟨#[]⟩) := by go_simp
    have r63 : w6.cell? ⟨w.heap.size, 3, none⟩ = some (.int .i64 0) := by go_simp
    rw [rounds_succ]
    go_upto_region 8 with (first | (go_at_call 41; (with_reducible refine (HB1.out _).mono ?_); rintro e wx ⟨rfl, hb⟩; have hz := hb.size; (try simp only [szA, szS, szD, szN] at hz); (try (refine bcB (n := w.heap.size) hb ?_; intro h_w_0 e_w_0 d_w_0 _ _)); (try (refine bcB (n := w.heap.size + 1) hb ?_; intro h_w_1 e_w_1 d_w_1 _ _)); (try (refine bcB (n := w.heap.size + 1 + 1) hb ?_; intro h_w_2 e_w_2 d_w_2 _ _))) | (go_at_call 42; (refine (HB2.out _ (HE.out.below (by exact belz))).mono ?_); rintro e wy ⟨v, tp, p, rfl, hb⟩; have hz := hb.size; (try simp only [szA, szS, szD, szN] at hz); (try (refine bcB (n := w.heap.size + 1) hb ?_; intro h_w_1 e_w_1 d_w_1 _ _)); (try (refine bcB (n := w.heap.size + 1 + 1) hb ?_; intro h_w_2 e_w_2 d_w_2 _ _))))
    have rl0 : wy.cell? ⟨w.heap.size, 0, none⟩ = some (.int .i64 0) := by
      rw [hb.cell (p := ⟨w.heap.size, 0, none⟩) (by (try simp only [szA, szS, szD, szN]); omega)]
      go_simp
    have fl0 : wy.frozen? ⟨w.heap.size, 0, none⟩ = false := by
      rw [hb.frozen (p := ⟨w.heap.size, 0, none⟩) (by (try simp only [szA, szS, szD, szN]); omega)]
      go_simp
    have rl1 : wy.cell? ⟨w.heap.size, 1, none⟩ = some (.int .i64 0) := by
      rw [hb.cell (p := ⟨w.heap.size, 1, none⟩) (by (try simp only [szA, szS, szD, szN]); omega)]
      go_simp
    have fl1 : wy.frozen? ⟨w.heap.size, 1, none⟩ = false := by
      rw [hb.frozen (p := ⟨w.heap.size, 1, none⟩) (by (try simp only [szA, szS, szD, szN]); omega)]
      go_simp
    have rl2 : wy.cell? ⟨w.heap.size, 2, none⟩ = some (.string ⟨#[]⟩) := by
      rw [hb.cell (p := ⟨w.heap.size, 2, none⟩) (by (try simp only [szA, szS, szD, szN]); omega)]
      go_simp
    have fl2 : wy.frozen? ⟨w.heap.size, 2, none⟩ = false := by
      rw [hb.frozen (p := ⟨w.heap.size, 2, none⟩) (by (try simp only [szA, szS, szD, szN]); omega)]
      go_simp
    have rl3 : wy.cell? ⟨w.heap.size, 3, none⟩ = some (.int .i64 0) := by
      rw [hb.cell (p := ⟨w.heap.size, 3, none⟩) (by (try simp only [szA, szS, szD, szN]); omega)]
      go_simp
    have fl3 : wy.frozen? ⟨w.heap.size, 3, none⟩ = false := by
      rw [hb.frozen (p := ⟨w.heap.size, 3, none⟩) (by (try simp only [szA, szS, szD, szN]); omega)]
      go_simp
    go_wp2
    refine bodyPost_ret (v := .tuple #[.agg #[.int .i64 0, .int .i64 0, .string ⟨#[]⟩, .int .i64 0], .int .i64 4]) (by simp only [results, Tryd.results18]; go_simp) rfl ⟨rfl, ?_⟩
    exact belz
  | ne W R V k c a i h =>
    have HB1 := Lib.hid c
    have HB2 := Lib.hid a
    have HB3 := Lib.hid i
    have g2 : (V.toList == W.toList) = false := by rw [ByteArray.toList_eq, ByteArray.toList_eq]; exact beq_eq_false_iff_ne.2 (fun q => h (Go.WideShapes.bytes_inj q))
    clear c a i h
    have hgen := sgen; have hgen2 := sgen2; have hgen3 := sgen3; go_enter Tryd.func18, Tryd.ntmps18
    go_wp2
    refine wp_loop_rounds 4 ?_
    rw [rounds_succ]
    go_wp2_with (first | (go_at_call 41; (with_reducible refine (H0.out.c _ (HM.out.below (by exact belz))).mono ?_); rintro e w1 ⟨rfl, hb⟩; have hz := hb.size; (try simp only [szA, szS, szD, szN] at hz); (try (refine bcB (n := w.heap.size) hb ?_; intro h_w_0 e_w_0 d_w_0 _ _)); (try (refine bcB (n := w.heap.size + 1) hb ?_; intro h_w_1 e_w_1 d_w_1 _ _)); (try (refine bcB (n := w.heap.size + 1 + 1) hb ?_; intro h_w_2 e_w_2 d_w_2 _ _))) | (go_at_call 42; (with_reducible refine (H0.out.a _).mono ?_); rintro e w2 ⟨rfl, hb⟩; have hz := hb.size; (try simp only [szA, szS, szD, szN] at hz); (try (refine bcB (n := w.heap.size) hb ?_; intro h_w_0 e_w_0 d_w_0 _ _)); (try (refine bcB (n := w.heap.size + 1) hb ?_; intro h_w_1 e_w_1 d_w_1 _ _)); (try (refine bcB (n := w.heap.size + 1 + 1) hb ?_; intro h_w_2 e_w_2 d_w_2 _ _))) | (go_at_call 40; (with_reducible refine (H0.out.i _ (HT.out.below (by exact belz))).mono ?_); rintro e w3 ⟨rfl, hb⟩; have hz := hb.size; (try simp only [szA, szS, szD, szN] at hz); (try (refine bcB (n := w.heap.size) hb ?_; intro h_w_0 e_w_0 d_w_0 _ _)); (try (refine bcB (n := w.heap.size + 1) hb ?_; intro h_w_1 e_w_1 d_w_1 _ _)); (try (refine bcB (n := w.heap.size + 1 + 1) hb ?_; intro h_w_2 e_w_2 d_w_2 _ _))))
    have r30 : w3.cell? ⟨w.heap.size, 0, none⟩ = some (.int .i64 0) := by go_simp
    have r31 : w3.cell? ⟨w.heap.size, 1, none⟩ = some (.int .i64 0) := by go_simp
    have r32 : w3.cell? ⟨w.heap.size, 2, none⟩ = some (.string ⟨#[]⟩) := by go_simp
    have r33 : w3.cell? ⟨w.heap.size, 3, none⟩ = some (.int .i64 0) := by go_simp
    rw [rounds_succ]
    go_wp2_with (first | (go_at_call 41; (with_reducible refine (H1.out.c _ (HM.out.below (by exact belz))).mono ?_); rintro e w4 ⟨rfl, hb⟩; have hz := hb.size; (try simp only [szA, szS, szD, szN] at hz); (try (refine bcB (n := w.heap.size) hb ?_; intro h_w_0 e_w_0 d_w_0 _ _)); (try (refine bcB (n := w.heap.size + 1) hb ?_; intro h_w_1 e_w_1 d_w_1 _ _)); (try (refine bcB (n := w.heap.size + 1 + 1) hb ?_; intro h_w_2 e_w_2 d_w_2 _ _))) | (go_at_call 42; (with_reducible refine (H1.out.a _).mono ?_); rintro e w5 ⟨rfl, hb⟩; have hz := hb.size; (try simp only [szA, szS, szD, szN] at hz); (try (refine bcB (n := w.heap.size) hb ?_; intro h_w_0 e_w_0 d_w_0 _ _)); (try (refine bcB (n := w.heap.size + 1) hb ?_; intro h_w_1 e_w_1 d_w_1 _ _)); (try (refine bcB (n := w.heap.size + 1 + 1) hb ?_; intro h_w_2 e_w_2 d_w_2 _ _))) | (go_at_call 40; (with_reducible refine (H1.out.i _ (HT.out.below (by exact belz))).mono ?_); rintro e w6 ⟨rfl, hb⟩; have hz := hb.size; (try simp only [szA, szS, szD, szN] at hz); (try (refine bcB (n := w.heap.size) hb ?_; intro h_w_0 e_w_0 d_w_0 _ _)); (try (refine bcB (n := w.heap.size + 1) hb ?_; intro h_w_1 e_w_1 d_w_1 _ _)); (try (refine bcB (n := w.heap.size + 1 + 1) hb ?_; intro h_w_2 e_w_2 d_w_2 _ _))))
    have r60 : w6.cell? ⟨w.heap.size, 0, none⟩ = some (.int .i64 0) := by go_simp
    have r61 : w6.cell? ⟨w.heap.size, 1, none⟩ = some (.int .i64 0) := by go_simp
    have r62 : w6.cell? ⟨w.heap.size, 2, none⟩ = some (.string ⟨#[]⟩) := by go_simp
    have r63 : w6.cell? ⟨w.heap.size, 3, none⟩ = some (.int .i64 0) := by go_simp
    rw [rounds_succ]
    go_upto_region 8 with (first | (go_at_call 41; (with_reducible refine (HB1.out _).mono ?_); rintro e wx ⟨rfl, hb⟩; have hz := hb.size; (try simp only [szA, szS, szD, szN] at hz); (try (refine bcB (n := w.heap.size) hb ?_; intro h_w_0 e_w_0 d_w_0 _ _)); (try (refine bcB (n := w.heap.size + 1) hb ?_; intro h_w_1 e_w_1 d_w_1 _ _)); (try (refine bcB (n := w.heap.size + 1 + 1) hb ?_; intro h_w_2 e_w_2 d_w_2 _ _))) | (go_at_call 42; (with_reducible refine (HB2.out _).mono ?_); rintro e wy ⟨rfl, hb⟩; have hz := hb.size; (try simp only [szA, szS, szD, szN] at hz); (try (refine bcB (n := w.heap.size) hb ?_; intro h_w_0 e_w_0 d_w_0 _ _)); (try (refine bcB (n := w.heap.size + 1) hb ?_; intro h_w_1 e_w_1 d_w_1 _ _)); (try (refine bcB (n := w.heap.size + 1 + 1) hb ?_; intro h_w_2 e_w_2 d_w_2 _ _))) | (go_at_call 40; (with_reducible refine (HB3.out _ (HT.out.below (by exact belz))).mono ?_); rintro e wz ⟨rfl, hb⟩; have hz := hb.size; (try simp only [szA, szS, szD, szN] at hz); (try (refine bcB (n := w.heap.size + 1) hb ?_; intro h_w_1 e_w_1 d_w_1 _ _)); (try (refine bcB (n := w.heap.size + 1 + 1) hb ?_; intro h_w_2 e_w_2 d_w_2 _ _))))
    have rl0 : wz.cell? ⟨w.heap.size, 0, none⟩ = some (.int .i64 0) := by
      rw [hb.cell (p := ⟨w.heap.size, 0, none⟩) (by (try simp only [szA, szS, szD, szN]); omega)]
      go_simp
    have fl0 : wz.frozen? ⟨w.heap.size, 0, none⟩ = false := by
      rw [hb.frozen (p := ⟨w.heap.size, 0, none⟩) (by (try simp only [szA, szS, szD, szN]); omega)]
      go_simp
    have rl1 : wz.cell? ⟨w.heap.size, 1, none⟩ = some (.int .i64 0) := by
      rw [hb.cell (p := ⟨w.heap.size, 1, none⟩) (by (try simp only [szA, szS, szD, szN]); omega)]
      go_simp
    have fl1 : wz.frozen? ⟨w.heap.size, 1, none⟩ = false := by
      rw [hb.frozen (p := ⟨w.heap.size, 1, none⟩) (by (try simp only [szA, szS, szD, szN]); omega)]
      go_simp
    have rl2 : wz.cell? ⟨w.heap.size, 2, none⟩ = some (.string ⟨#[]⟩) := by
      rw [hb.cell (p := ⟨w.heap.size, 2, none⟩) (by (try simp only [szA, szS, szD, szN]); omega)]
      go_simp
    have fl2 : wz.frozen? ⟨w.heap.size, 2, none⟩ = false := by
      rw [hb.frozen (p := ⟨w.heap.size, 2, none⟩) (by (try simp only [szA, szS, szD, szN]); omega)]
      go_simp
    have rl3 : wz.cell? ⟨w.heap.size, 3, none⟩ = some (.int .i64 0) := by
      rw [hb.cell (p := ⟨w.heap.size, 3, none⟩) (by (try simp only [szA, szS, szD, szN]); omega)]
      go_simp
    have fl3 : wz.frozen? ⟨w.heap.size, 3, none⟩ = false := by
      rw [hb.frozen (p := ⟨w.heap.size, 3, none⟩) (by (try simp only [szA, szS, szD, szN]); omega)]
      go_simp
    go_wp2
    refine bodyPost_ret (v := .tuple #[.agg #[.int .i64 0, .int .i64 0, .string ⟨#[]⟩, .int .i64 0], .int .i64 4]) (by simp only [results, Tryd.results18]; go_simp) rfl ⟨rfl, ?_⟩
    exact belz
set_option maxRecDepth 100000 in
set_option maxHeartbeats 8000000 in
theorem c_ReadX {S0 S1 S2 T W0 W1 W2 : ByteArray} {a n s : Int} (h0 : WdC S0 W0 S1 a) (h1 : WdC S1 W1 S2 n) (h2 : WdC S2 W2 T s) (w : World) (hT : NTab w) (hM : NMx w) (hsz : T.size ≤ 9223372036854775807) (hx : noE a n s T.data.toList ≠ 0) :
    Calls Tryd.prog 18 #[.string S0] w fun e w' => e = .returned (.tuple #[.agg #[.int .i64 0, .int .i64 0, .string ⟨#[]⟩, .int .i64 0], .int .i64 (noE a n s T.data.toList)]) ∧ Below w.heap.size w w' := by
  have H0 := Lib.hid h0
  have H1 := Lib.hid h1
  have H2 := Lib.hid h2
  have HT := Lib.hid hT
  have HM := Lib.hid hM
  have hc := fun w1 => c_nCheck a n T s w1 hsz
  generalize noE a n s T.data.toList = x at *
  have HC := Lib.hid hc
  have g : (x == 0) = false := by simpa using hx
  have g2 : (x != 0) = true := by simpa using hx
  clear h0 h1 h2 hT hM hc hx
  have hgen := sgen; have hgen2 := sgen2; have hgen3 := sgen3; go_enter Tryd.func18, Tryd.ntmps18
  go_wp2
  refine wp_loop_rounds 4 ?_
  rw [rounds_succ]
  go_wp2_with (first | (go_at_call 41; (with_reducible refine (H0.out.c _ (HM.out.below (by exact belz))).mono ?_); rintro e w1 ⟨rfl, hb⟩; have hz := hb.size; (try simp only [szA, szS, szD, szN] at hz); (try (refine bcB (n := w.heap.size) hb ?_; intro h_w_0 e_w_0 d_w_0 _ _)); (try (refine bcB (n := w.heap.size + 1) hb ?_; intro h_w_1 e_w_1 d_w_1 _ _)); (try (refine bcB (n := w.heap.size + 1 + 1) hb ?_; intro h_w_2 e_w_2 d_w_2 _ _))) | (go_at_call 42; (with_reducible refine (H0.out.a _).mono ?_); rintro e w2 ⟨rfl, hb⟩; have hz := hb.size; (try simp only [szA, szS, szD, szN] at hz); (try (refine bcB (n := w.heap.size) hb ?_; intro h_w_0 e_w_0 d_w_0 _ _)); (try (refine bcB (n := w.heap.size + 1) hb ?_; intro h_w_1 e_w_1 d_w_1 _ _)); (try (refine bcB (n := w.heap.size + 1 + 1) hb ?_; intro h_w_2 e_w_2 d_w_2 _ _))) | (go_at_call 40; (with_reducible refine (H0.out.i _ (HT.out.below (by exact belz))).mono ?_); rintro e w3 ⟨rfl, hb⟩; have hz := hb.size; (try simp only [szA, szS, szD, szN] at hz); (try (refine bcB (n := w.heap.size) hb ?_; intro h_w_0 e_w_0 d_w_0 _ _)); (try (refine bcB (n := w.heap.size + 1) hb ?_; intro h_w_1 e_w_1 d_w_1 _ _)); (try (refine bcB (n := w.heap.size + 1 + 1) hb ?_; intro h_w_2 e_w_2 d_w_2 _ _))))
  have r30 : w3.cell? ⟨w.heap.size, 0, none⟩ = some (.int .i64 0) := by go_simp
  have r31 : w3.cell? ⟨w.heap.size, 1, none⟩ = some (.int .i64 0) := by go_simp
  have r32 : w3.cell? ⟨w.heap.size, 2, none⟩ = some (.string ⟨#[]⟩) := by go_simp
  have r33 : w3.cell? ⟨w.heap.size, 3, none⟩ = some (.int .i64 0) := by go_simp
  rw [rounds_succ]
  go_wp2_with (first | (go_at_call 41; (with_reducible refine (H1.out.c _ (HM.out.below (by exact belz))).mono ?_); rintro e w4 ⟨rfl, hb⟩; have hz := hb.size; (try simp only [szA, szS, szD, szN] at hz); (try (refine bcB (n := w.heap.size) hb ?_; intro h_w_0 e_w_0 d_w_0 _ _)); (try (refine bcB (n := w.heap.size + 1) hb ?_; intro h_w_1 e_w_1 d_w_1 _ _)); (try (refine bcB (n := w.heap.size + 1 + 1) hb ?_; intro h_w_2 e_w_2 d_w_2 _ _))) | (go_at_call 42; (with_reducible refine (H1.out.a _).mono ?_); rintro e w5 ⟨rfl, hb⟩; have hz := hb.size; (try simp only [szA, szS, szD, szN] at hz); (try (refine bcB (n := w.heap.size) hb ?_; intro h_w_0 e_w_0 d_w_0 _ _)); (try (refine bcB (n := w.heap.size + 1) hb ?_; intro h_w_1 e_w_1 d_w_1 _ _)); (try (refine bcB (n := w.heap.size + 1 + 1) hb ?_; intro h_w_2 e_w_2 d_w_2 _ _))) | (go_at_call 40; (with_reducible refine (H1.out.i _ (HT.out.below (by exact belz))).mono ?_); rintro e w6 ⟨rfl, hb⟩; have hz := hb.size; (try simp only [szA, szS, szD, szN] at hz); (try (refine bcB (n := w.heap.size) hb ?_; intro h_w_0 e_w_0 d_w_0 _ _)); (try (refine bcB (n := w.heap.size + 1) hb ?_; intro h_w_1 e_w_1 d_w_1 _ _)); (try (refine bcB (n := w.heap.size + 1 + 1) hb ?_; intro h_w_2 e_w_2 d_w_2 _ _))))
  have r60 : w6.cell? ⟨w.heap.size, 0, none⟩ = some (.int .i64 0) := by go_simp
  have r61 : w6.cell? ⟨w.heap.size, 1, none⟩ = some (.int .i64 0) := by go_simp
  have r62 : w6.cell? ⟨w.heap.size, 2, none⟩ = some (.string ⟨#[]⟩) := by go_simp
  have r63 : w6.cell? ⟨w.heap.size, 3, none⟩ = some (.int .i64 0) := by go_simp
  rw [rounds_succ]
  go_wp2_with (first | (go_at_call 41; (with_reducible refine (H2.out.c _ (HM.out.below (by exact belz))).mono ?_); rintro e w7 ⟨rfl, hb⟩; have hz := hb.size; (try simp only [szA, szS, szD, szN] at hz); (try (refine bcB (n := w.heap.size) hb ?_; intro h_w_0 e_w_0 d_w_0 _ _)); (try (refine bcB (n := w.heap.size + 1) hb ?_; intro h_w_1 e_w_1 d_w_1 _ _)); (try (refine bcB (n := w.heap.size + 1 + 1) hb ?_; intro h_w_2 e_w_2 d_w_2 _ _))) | (go_at_call 42; (with_reducible refine (H2.out.a _).mono ?_); rintro e w8 ⟨rfl, hb⟩; have hz := hb.size; (try simp only [szA, szS, szD, szN] at hz); (try (refine bcB (n := w.heap.size) hb ?_; intro h_w_0 e_w_0 d_w_0 _ _)); (try (refine bcB (n := w.heap.size + 1) hb ?_; intro h_w_1 e_w_1 d_w_1 _ _)); (try (refine bcB (n := w.heap.size + 1 + 1) hb ?_; intro h_w_2 e_w_2 d_w_2 _ _))) | (go_at_call 40; (with_reducible refine (H2.out.i _ (HT.out.below (by exact belz))).mono ?_); rintro e w9 ⟨rfl, hb⟩; have hz := hb.size; (try simp only [szA, szS, szD, szN] at hz); (try (refine bcB (n := w.heap.size) hb ?_; intro h_w_0 e_w_0 d_w_0 _ _)); (try (refine bcB (n := w.heap.size + 1) hb ?_; intro h_w_1 e_w_1 d_w_1 _ _)); (try (refine bcB (n := w.heap.size + 1 + 1) hb ?_; intro h_w_2 e_w_2 d_w_2 _ _))))
  have r90 : w9.cell? ⟨w.heap.size, 0, none⟩ = some (.int .i64 0) := by go_simp
  have r91 : w9.cell? ⟨w.heap.size, 1, none⟩ = some (.int .i64 0) := by go_simp
  have r92 : w9.cell? ⟨w.heap.size, 2, none⟩ = some (.string ⟨#[]⟩) := by go_simp
  have r93 : w9.cell? ⟨w.heap.size, 3, none⟩ = some (.int .i64 0) := by go_simp
  rw [rounds_succ]
  go_upto_region 14 with (go_at_call 15; (with_reducible refine (HC.out _).mono ?_); rintro e w0 ⟨rfl, hb⟩; have hz := hb.size; (try simp only [szA, szS, szD, szN] at hz); (try (refine bcB (n := w.heap.size + 1) hb ?_; intro h_w_1 e_w_1 d_w_1 _ _)); (try (refine bcB (n := w.heap.size + 1 + 1) hb ?_; intro h_w_2 e_w_2 d_w_2 _ _)))
  have rl0 : w0.cell? ⟨w.heap.size, 0, none⟩ = some (.int .i64 0) := by
    rw [hb.cell (p := ⟨w.heap.size, 0, none⟩) (by (try simp only [szA, szS, szD, szN]); omega)]
    go_simp
  have fl0 : w0.frozen? ⟨w.heap.size, 0, none⟩ = false := by
    rw [hb.frozen (p := ⟨w.heap.size, 0, none⟩) (by (try simp only [szA, szS, szD, szN]); omega)]
    go_simp
  have rl1 : w0.cell? ⟨w.heap.size, 1, none⟩ = some (.int .i64 0) := by
    rw [hb.cell (p := ⟨w.heap.size, 1, none⟩) (by (try simp only [szA, szS, szD, szN]); omega)]
    go_simp
  have fl1 : w0.frozen? ⟨w.heap.size, 1, none⟩ = false := by
    rw [hb.frozen (p := ⟨w.heap.size, 1, none⟩) (by (try simp only [szA, szS, szD, szN]); omega)]
    go_simp
  have rl2 : w0.cell? ⟨w.heap.size, 2, none⟩ = some (.string ⟨#[]⟩) := by
    rw [hb.cell (p := ⟨w.heap.size, 2, none⟩) (by (try simp only [szA, szS, szD, szN]); omega)]
    go_simp
  have fl2 : w0.frozen? ⟨w.heap.size, 2, none⟩ = false := by
    rw [hb.frozen (p := ⟨w.heap.size, 2, none⟩) (by (try simp only [szA, szS, szD, szN]); omega)]
    go_simp
  have rl3 : w0.cell? ⟨w.heap.size, 3, none⟩ = some (.int .i64 0) := by
    rw [hb.cell (p := ⟨w.heap.size, 3, none⟩) (by (try simp only [szA, szS, szD, szN]); omega)]
    go_simp
  have fl3 : w0.frozen? ⟨w.heap.size, 3, none⟩ = false := by
    rw [hb.frozen (p := ⟨w.heap.size, 3, none⟩) (by (try simp only [szA, szS, szD, szN]); omega)]
    go_simp
  go_wp2
  refine bodyPost_ret (v := .tuple #[.agg #[.int .i64 0, .int .i64 0, .string ⟨#[]⟩, .int .i64 0], .int .i64 x]) (by simp only [results, Tryd.results18]; go_simp) rfl ⟨rfl, ?_⟩
  exact belz
/-- Read at any text. -/
theorem c_ReadA (l : List UInt8) (w : World) (hT : NTab w) (hM : NMx w) (hE : NEr w) (hl : l.length ≤ 140737488351232) :
    Calls Tryd.prog 18 #[.string (strB l)] w fun e w' => e = .returned (.tuple #[.agg #[.int .i64 (noRead l).a, .int .i64 (noRead l).n, .string (strB (noRead l).t), .int .i64 (noRead l).s], .int .i64 (noRead l).e]) ∧ Below w.heap.size w w' := by
  unfold noRead
  rcases wd_cases l hl with ⟨e0, b0⟩ | ⟨a, l1, e0, q0, h0⟩
  · rw [e0]; exact c_ReadB0 b0 w hT hM hE
  rw [e0]
  simp only
  rcases wd_cases l1 (by omega) with ⟨e1, b1⟩ | ⟨n, l2, e1, q1, h1⟩
  · rw [e1]; exact c_ReadB1 h0 b1 w hT hM hE
  rw [e1]
  simp only
  rcases wd_cases l2 (by omega) with ⟨e2, b2⟩ | ⟨s, t, e2, q2, h2⟩
  · rw [e2]; exact c_ReadB2 h0 h1 b2 w hT hM hE
  rw [e2]
  simp only
  have sz : (strB t).size ≤ 9223372036854775807 := by rw [strB_size]; omega
  by_cases c : noE a n s t = 0
  · rw [if_pos c]
    exact c_ReadV h0 h1 h2 w hT hM sz (by rw [strB_l]; exact c)
  · rw [if_neg c]
    have := c_ReadX h0 h1 h2 w hT hM sz (by rw [strB_l]; exact c)
    rw [strB_l] at this
    exact this
set_option maxHeartbeats 2000000 in
theorem walk_NoticeReads (s : ByteArray) (w : World) (hT : NTab w) (hM : NMx w) (hE : NEr w) (hl : s.size ≤ 140737488351232) :
    Calls Tryd.prog 5 #[.string s] w fun e w' => e = .returned (.bool true) ∧ Below w.heap.size w w' := by
  have hr := fun w1 h1 h2 h3 => c_ReadA s.data.toList w1 h1 h2 h3 (by rw [str_len]; exact hl)
  rw [strB_of] at hr
  have HT := Lib.hid hT
  have HM := Lib.hid hM
  have HE := Lib.hid hE
  by_cases he : (noRead s.data.toList).e = 0
  · obtain ⟨v1, v2⟩ := write_read he
    obtain ⟨-, -, -, -, -, -, l1, -⟩ := noE_ok v1
    have hs := fun w1 h => c_Write_ok (noRead s.data.toList).a (noRead s.data.toList).n (strB (noRead s.data.toList).t) (noRead s.data.toList).s w1 h (by rw [strB_size]; omega) (by rw [strB_l]; exact v1)
    rw [strB_l, v2, strB_of] at hs
    rw [he] at hr
    have HR := Lib.hid hr
    have HS := Lib.hid hs
    clear hr hs hT hM hE he v1 v2 l1
    generalize (noRead s.data.toList).a = a at *
    generalize (noRead s.data.toList).n = n at *
    generalize (noRead s.data.toList).s = sm at *
    generalize strB (noRead s.data.toList).t = T at *
    have hgen := sgen; have hgen2 := sgen2; have hgen3 := sgen3; go_enter Tryd.func5, Tryd.ntmps5
    go_wp2_with (first | (go_at_call 11; (with_reducible refine (c_noticeWorks _ (HT.out.below (by exact belz))).mono ?_); rintro e w1 ⟨rfl, hb⟩; have hz := hb.size; (try simp only [szA, szS, szD, szN] at hz); (try (refine bcB (n := w.heap.size) hb ?_; intro h_w_0 e_w_0 d_w_0 _ _))) | (go_at_call 18; (with_reducible refine (HR.out _ (HT.out.below (by exact belz)) (HM.out.below (by exact belz)) (HE.out.below (by exact belz))).mono ?_); rintro e w2 ⟨rfl, hb⟩; have hz := hb.size; (try simp only [szA, szS, szD, szN] at hz); (try (refine bcB (n := w.heap.size) hb ?_; intro h_w_0 e_w_0 d_w_0 _ _))) | (go_at_call 17; (with_reducible refine (HS.out _ (HT.out.below (by exact belz))).mono ?_); rintro e w3 ⟨rfl, hb⟩; have hz := hb.size; (try simp only [szA, szS, szD, szN] at hz); (try (refine bcB (n := w.heap.size) hb ?_; intro h_w_0 e_w_0 d_w_0 _ _)); (try (refine bcB (n := w2.heap.size) hb ?_; intro h_w2_0 e_w2_0 d_w2_0 _ _))))
    go_ret
    refine ⟨rfl, ?_⟩
    exact belz
  · obtain ⟨r1, r2, r3, r4, r5⟩ := read_bad he
    rw [r1, r2, r3, r4] at hr
    rw [show strB [] = ⟨#[]⟩ from rfl] at hr
    have HR := Lib.hid hr
    clear hr hT hM hE he r1 r2 r3 r4
    generalize (noRead s.data.toList).e = x at *
    rcases r5 with rfl | rfl | rfl
    all_goals
      have hgen := sgen; have hgen2 := sgen2; have hgen3 := sgen3; go_enter Tryd.func5, Tryd.ntmps5
      go_wp2_with (first | (go_at_call 11; (with_reducible refine (c_noticeWorks _ (HT.out.below (by exact belz))).mono ?_); rintro e w1 ⟨rfl, hb⟩; have hz := hb.size; (try simp only [szA, szS, szD, szN] at hz); (try (refine bcB (n := w.heap.size) hb ?_; intro h_w_0 e_w_0 d_w_0 _ _))) | (go_at_call 18; (with_reducible refine (HR.out _ (HT.out.below (by exact belz)) (HM.out.below (by exact belz)) (HE.out.below (by exact belz))).mono ?_); rintro e w2 ⟨rfl, hb⟩; have hz := hb.size; (try simp only [szA, szS, szD, szN] at hz); (try (refine bcB (n := w.heap.size) hb ?_; intro h_w_0 e_w_0 d_w_0 _ _))))
      go_ret
      refine ⟨rfl, ?_⟩
      exact belz
end Go.Proofs.YtbcehnhiedbbbaaDoor
