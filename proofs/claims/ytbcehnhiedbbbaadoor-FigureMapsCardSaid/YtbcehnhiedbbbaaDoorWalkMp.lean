/- The contracts of figure.mapped and of the law's line. -/
import Derived.Test.YtbcehnhiedbbbaaDoorWalkOf
set_option linter.unusedVariables false
set_option linter.unusedSimpArgs false
namespace Go.Proofs.YtbcehnhiedbbbaaDoor
open Go.RowKit
set_option maxRecDepth 100000 in
set_option maxHeartbeats 4000000 in
theorem c_mapped (a0 a1 x0 x1 b0 b1 y0 y1 c0 c1 : Int) (w : World) (ha : okF (a0, a1)) (hx : okF (x0, x1)) (hb : okF (b0, b1)) (hy : okF (y0, y1)) (hc : okF (c0, c1)) : Calls Tryd.prog 62 #[.agg #[.int .i64 x0, .int .i64 x1, .int .i64 y0, .int .i64 y1], .agg #[.int .i64 a0, .int .i64 a1], .agg #[.int .i64 b0, .int .i64 b1], .agg #[.int .i64 c0, .int .i64 c1]] w fun e w' => e = .returned (.tuple #[.agg #[.int .i64 (lineR (a0, a1) (x0, x1) (b0, b1) (y0, y1) (c0, c1)).n, .int .i64 (lineR (a0, a1) (x0, x1) (b0, b1) (y0, y1) (c0, c1)).d], .int .i64 (lineR (a0, a1) (x0, x1) (b0, b1) (y0, y1) (c0, c1)).e]) ∧ Below w.heap.size w w' := by
  have k1 := fun w1 => c_Mul a0 a1 x0 x1 w1 ha hx
  have k2 := fun w1 => c_Mul b0 b1 y0 y1 w1 hb hy
  have o1 := mulR_ok ha hx
  have o2 := mulR_ok hb hy
  unfold lineR
  generalize mulR (a0, a1) (x0, x1) = P at *
  generalize mulR (b0, b1) (y0, y1) = Q at *
  obtain ⟨Pe, Pn, Pd⟩ := P
  obtain ⟨Qe, Qn, Qd⟩ := Q
  dsimp only at *
  have H1 := Lib.hid k1
  have H2 := Lib.hid k2
  clear k1 k2
  by_cases q1 : Pe = 0
  · subst q1
    have o1 := o1 rfl
    by_cases q2 : Qe = 0
    · subst q2
      have o2 := o2 rfl
      have k3 := fun w1 => c_Add Pn Pd Qn Qd w1 o1 o2
      have o3 := addR_ok o1 o2
      generalize addR (Pn, Pd) (Qn, Qd) = S at *
      obtain ⟨Se, Sn, Sd⟩ := S
      dsimp only at *
      have H3 := Lib.hid k3
      clear k3
      by_cases q3 : Se = 0
      · subst q3
        have o3 := o3 rfl
        have k4 := fun w1 => c_Add Sn Sd c0 c1 w1 o3 hc
        generalize addR (Sn, Sd) (c0, c1) = T at *
        obtain ⟨Te, Tn, Td⟩ := T
        dsimp only at *
        have H4 := Lib.hid k4
        clear k4
        simp only [ne_eq, not_true_eq_false, if_false]
        have hgen := sgen; have hgen2 := sgen2; have hgen3 := sgen3; go_enter Tryd.func62, Tryd.ntmps62
        go_wp2_with (first | (go_at_call 64; (with_reducible refine (H1.out _).mono ?_); rintro e w1 ⟨rfl, hb⟩; have hz := hb.size; (try simp only [szA, szS, szD, szN] at hz); (try (refine bcB (n := w.heap.size) hb ?_; intro h_w_0 e_w_0 d_w_0 _ _)); (try (refine bcB (n := w.heap.size + 1) hb ?_; intro h_w_1 e_w_1 d_w_1 _ _)); (try (refine bcB (n := w.heap.size + 1 + 1) hb ?_; intro h_w_2 e_w_2 d_w_2 _ _)); (try (refine bcB (n := w.heap.size + 1 + 1 + 1) hb ?_; intro h_w_3 e_w_3 d_w_3 _ _)); (try (refine bcB (n := w.heap.size + 1 + 1 + 1 + 1) hb ?_; intro h_w_4 e_w_4 d_w_4 _ _))) | (go_at_call 64; (with_reducible refine (H2.out _).mono ?_); rintro e w2 ⟨rfl, hb⟩; have hz := hb.size; (try simp only [szA, szS, szD, szN] at hz); (try (refine bcB (n := w.heap.size) hb ?_; intro h_w_0 e_w_0 d_w_0 _ _)); (try (refine bcB (n := w.heap.size + 1) hb ?_; intro h_w_1 e_w_1 d_w_1 _ _)); (try (refine bcB (n := w.heap.size + 1 + 1) hb ?_; intro h_w_2 e_w_2 d_w_2 _ _)); (try (refine bcB (n := w.heap.size + 1 + 1 + 1) hb ?_; intro h_w_3 e_w_3 d_w_3 _ _)); (try (refine bcB (n := w.heap.size + 1 + 1 + 1 + 1) hb ?_; intro h_w_4 e_w_4 d_w_4 _ _)); (try (refine bcB (n := w1.heap.size) hb ?_; intro h_w1_0 e_w1_0 d_w1_0 _ _))) | (go_at_call 65; (with_reducible refine (H3.out _).mono ?_); rintro e w3 ⟨rfl, hb⟩; have hz := hb.size; (try simp only [szA, szS, szD, szN] at hz); (try (refine bcB (n := w.heap.size) hb ?_; intro h_w_0 e_w_0 d_w_0 _ _)); (try (refine bcB (n := w.heap.size + 1) hb ?_; intro h_w_1 e_w_1 d_w_1 _ _)); (try (refine bcB (n := w.heap.size + 1 + 1) hb ?_; intro h_w_2 e_w_2 d_w_2 _ _)); (try (refine bcB (n := w.heap.size + 1 + 1 + 1) hb ?_; intro h_w_3 e_w_3 d_w_3 _ _)); (try (refine bcB (n := w.heap.size + 1 + 1 + 1 + 1) hb ?_; intro h_w_4 e_w_4 d_w_4 _ _)); (try (refine bcB (n := w1.heap.size) hb ?_; intro h_w1_0 e_w1_0 d_w1_0 _ _)); (try (refine bcB (n := w2.heap.size) hb ?_; intro h_w2_0 e_w2_0 d_w2_0 _ _))) | (go_at_call 65; (with_reducible refine (H4.out _).mono ?_); rintro e w4 ⟨rfl, hb⟩; have hz := hb.size; (try simp only [szA, szS, szD, szN] at hz); (try (refine bcB (n := w.heap.size) hb ?_; intro h_w_0 e_w_0 d_w_0 _ _)); (try (refine bcB (n := w.heap.size + 1) hb ?_; intro h_w_1 e_w_1 d_w_1 _ _)); (try (refine bcB (n := w.heap.size + 1 + 1) hb ?_; intro h_w_2 e_w_2 d_w_2 _ _)); (try (refine bcB (n := w.heap.size + 1 + 1 + 1) hb ?_; intro h_w_3 e_w_3 d_w_3 _ _)); (try (refine bcB (n := w.heap.size + 1 + 1 + 1 + 1) hb ?_; intro h_w_4 e_w_4 d_w_4 _ _)); (try (refine bcB (n := w3.heap.size) hb ?_; intro h_w3_0 e_w3_0 d_w3_0 _ _))))
        refine bodyPost_ret (v := .tuple #[.agg #[.int .i64 Tn, .int .i64 Td], .int .i64 Te]) (by simp only [results, Tryd.results62]; go_simp) rfl ⟨rfl, ?_⟩
        exact belz
      · have g3 : (Se == 0) = false := by simpa using q3
        have g4 : (Se != 0) = true := by simpa using q3
        simp only [ne_eq, not_true_eq_false, if_false, q3, not_false_eq_true, if_true]
        have hgen := sgen; have hgen2 := sgen2; have hgen3 := sgen3; go_enter Tryd.func62, Tryd.ntmps62
        go_wp2_with (first | (go_at_call 64; (with_reducible refine (H1.out _).mono ?_); rintro e w1 ⟨rfl, hb⟩; have hz := hb.size; (try simp only [szA, szS, szD, szN] at hz); (try (refine bcB (n := w.heap.size) hb ?_; intro h_w_0 e_w_0 d_w_0 _ _)); (try (refine bcB (n := w.heap.size + 1) hb ?_; intro h_w_1 e_w_1 d_w_1 _ _)); (try (refine bcB (n := w.heap.size + 1 + 1) hb ?_; intro h_w_2 e_w_2 d_w_2 _ _)); (try (refine bcB (n := w.heap.size + 1 + 1 + 1) hb ?_; intro h_w_3 e_w_3 d_w_3 _ _)); (try (refine bcB (n := w.heap.size + 1 + 1 + 1 + 1) hb ?_; intro h_w_4 e_w_4 d_w_4 _ _))) | (go_at_call 64; (with_reducible refine (H2.out _).mono ?_); rintro e w2 ⟨rfl, hb⟩; have hz := hb.size; (try simp only [szA, szS, szD, szN] at hz); (try (refine bcB (n := w.heap.size) hb ?_; intro h_w_0 e_w_0 d_w_0 _ _)); (try (refine bcB (n := w.heap.size + 1) hb ?_; intro h_w_1 e_w_1 d_w_1 _ _)); (try (refine bcB (n := w.heap.size + 1 + 1) hb ?_; intro h_w_2 e_w_2 d_w_2 _ _)); (try (refine bcB (n := w.heap.size + 1 + 1 + 1) hb ?_; intro h_w_3 e_w_3 d_w_3 _ _)); (try (refine bcB (n := w.heap.size + 1 + 1 + 1 + 1) hb ?_; intro h_w_4 e_w_4 d_w_4 _ _)); (try (refine bcB (n := w1.heap.size) hb ?_; intro h_w1_0 e_w1_0 d_w1_0 _ _))) | (go_at_call 65; (with_reducible refine (H3.out _).mono ?_); rintro e w3 ⟨rfl, hb⟩; have hz := hb.size; (try simp only [szA, szS, szD, szN] at hz); (try (refine bcB (n := w.heap.size) hb ?_; intro h_w_0 e_w_0 d_w_0 _ _)); (try (refine bcB (n := w.heap.size + 1) hb ?_; intro h_w_1 e_w_1 d_w_1 _ _)); (try (refine bcB (n := w.heap.size + 1 + 1) hb ?_; intro h_w_2 e_w_2 d_w_2 _ _)); (try (refine bcB (n := w.heap.size + 1 + 1 + 1) hb ?_; intro h_w_3 e_w_3 d_w_3 _ _)); (try (refine bcB (n := w.heap.size + 1 + 1 + 1 + 1) hb ?_; intro h_w_4 e_w_4 d_w_4 _ _)); (try (refine bcB (n := w1.heap.size) hb ?_; intro h_w1_0 e_w1_0 d_w1_0 _ _)); (try (refine bcB (n := w2.heap.size) hb ?_; intro h_w2_0 e_w2_0 d_w2_0 _ _))))
        refine bodyPost_ret (v := .tuple #[.agg #[.int .i64 0, .int .i64 0], .int .i64 Se]) (by simp only [results, Tryd.results62]; go_simp) rfl ⟨rfl, ?_⟩
        exact belz
    · have g3 : (Qe == 0) = false := by simpa using q2
      have g4 : (Qe != 0) = true := by simpa using q2
      simp only [ne_eq, not_true_eq_false, if_false, q2, not_false_eq_true, if_true]
      have hgen := sgen; have hgen2 := sgen2; have hgen3 := sgen3; go_enter Tryd.func62, Tryd.ntmps62
      go_wp2_with (first | (go_at_call 64; (with_reducible refine (H1.out _).mono ?_); rintro e w1 ⟨rfl, hb⟩; have hz := hb.size; (try simp only [szA, szS, szD, szN] at hz); (try (refine bcB (n := w.heap.size) hb ?_; intro h_w_0 e_w_0 d_w_0 _ _)); (try (refine bcB (n := w.heap.size + 1) hb ?_; intro h_w_1 e_w_1 d_w_1 _ _)); (try (refine bcB (n := w.heap.size + 1 + 1) hb ?_; intro h_w_2 e_w_2 d_w_2 _ _)); (try (refine bcB (n := w.heap.size + 1 + 1 + 1) hb ?_; intro h_w_3 e_w_3 d_w_3 _ _)); (try (refine bcB (n := w.heap.size + 1 + 1 + 1 + 1) hb ?_; intro h_w_4 e_w_4 d_w_4 _ _))) | (go_at_call 64; (with_reducible refine (H2.out _).mono ?_); rintro e w2 ⟨rfl, hb⟩; have hz := hb.size; (try simp only [szA, szS, szD, szN] at hz); (try (refine bcB (n := w.heap.size) hb ?_; intro h_w_0 e_w_0 d_w_0 _ _)); (try (refine bcB (n := w.heap.size + 1) hb ?_; intro h_w_1 e_w_1 d_w_1 _ _)); (try (refine bcB (n := w.heap.size + 1 + 1) hb ?_; intro h_w_2 e_w_2 d_w_2 _ _)); (try (refine bcB (n := w.heap.size + 1 + 1 + 1) hb ?_; intro h_w_3 e_w_3 d_w_3 _ _)); (try (refine bcB (n := w.heap.size + 1 + 1 + 1 + 1) hb ?_; intro h_w_4 e_w_4 d_w_4 _ _)); (try (refine bcB (n := w1.heap.size) hb ?_; intro h_w1_0 e_w1_0 d_w1_0 _ _))))
      refine bodyPost_ret (v := .tuple #[.agg #[.int .i64 0, .int .i64 0], .int .i64 Qe]) (by simp only [results, Tryd.results62]; go_simp) rfl ⟨rfl, ?_⟩
      exact belz
  · have g3 : (Pe == 0) = false := by simpa using q1
    have g4 : (Pe != 0) = true := by simpa using q1
    simp only [ne_eq, q1, not_false_eq_true, if_true]
    have hgen := sgen; have hgen2 := sgen2; have hgen3 := sgen3; go_enter Tryd.func62, Tryd.ntmps62
    go_wp2_with (go_at_call 64; (with_reducible refine (H1.out _).mono ?_); rintro e w1 ⟨rfl, hb⟩; have hz := hb.size; (try simp only [szA, szS, szD, szN] at hz); (try (refine bcB (n := w.heap.size) hb ?_; intro h_w_0 e_w_0 d_w_0 _ _)); (try (refine bcB (n := w.heap.size + 1) hb ?_; intro h_w_1 e_w_1 d_w_1 _ _)); (try (refine bcB (n := w.heap.size + 1 + 1) hb ?_; intro h_w_2 e_w_2 d_w_2 _ _)); (try (refine bcB (n := w.heap.size + 1 + 1 + 1) hb ?_; intro h_w_3 e_w_3 d_w_3 _ _)); (try (refine bcB (n := w.heap.size + 1 + 1 + 1 + 1) hb ?_; intro h_w_4 e_w_4 d_w_4 _ _)))
    refine bodyPost_ret (v := .tuple #[.agg #[.int .i64 0, .int .i64 0], .int .i64 Pe]) (by simp only [results, Tryd.results62]; go_simp) rfl ⟨rfl, ?_⟩
    exact belz
set_option maxRecDepth 100000 in
set_option maxHeartbeats 4000000 in
theorem c_line (a0 a1 x0 x1 b0 b1 y0 y1 c0 c1 : Int) (w : World) (ha : okF (a0, a1)) (hx : okF (x0, x1)) (hb : okF (b0, b1)) (hy : okF (y0, y1)) (hc : okF (c0, c1)) : Calls Tryd.prog 37 #[.agg #[.int .i64 a0, .int .i64 a1], .agg #[.int .i64 x0, .int .i64 x1], .agg #[.int .i64 b0, .int .i64 b1], .agg #[.int .i64 y0, .int .i64 y1], .agg #[.int .i64 c0, .int .i64 c1]] w fun e w' => ∃ n d, e = .returned (.tuple #[.agg #[.int .i64 n, .int .i64 d], .int .i64 (lineR (a0, a1) (x0, x1) (b0, b1) (y0, y1) (c0, c1)).e]) ∧ ((lineR (a0, a1) (x0, x1) (b0, b1) (y0, y1) (c0, c1)).e = 0 → n = (lineR (a0, a1) (x0, x1) (b0, b1) (y0, y1) (c0, c1)).n ∧ d = (lineR (a0, a1) (x0, x1) (b0, b1) (y0, y1) (c0, c1)).d) ∧ Below w.heap.size w w' := by
  have k1 := fun w1 => c_Mul a0 a1 x0 x1 w1 ha hx
  have k2 := fun w1 => c_Mul b0 b1 y0 y1 w1 hb hy
  have o1 := mulR_ok ha hx
  have o2 := mulR_ok hb hy
  unfold lineR
  generalize mulR (a0, a1) (x0, x1) = P at *
  generalize mulR (b0, b1) (y0, y1) = Q at *
  obtain ⟨Pe, Pn, Pd⟩ := P
  obtain ⟨Qe, Qn, Qd⟩ := Q
  dsimp only at *
  have H1 := Lib.hid k1
  have H2 := Lib.hid k2
  clear k1 k2
  by_cases q1 : Pe = 0
  · subst q1
    have o1 := o1 rfl
    by_cases q2 : Qe = 0
    · subst q2
      have o2 := o2 rfl
      have k3 := fun w1 => c_Add Pn Pd Qn Qd w1 o1 o2
      have o3 := addR_ok o1 o2
      generalize addR (Pn, Pd) (Qn, Qd) = S at *
      obtain ⟨Se, Sn, Sd⟩ := S
      dsimp only at *
      have H3 := Lib.hid k3
      clear k3
      by_cases q3 : Se = 0
      · subst q3
        have o3 := o3 rfl
        have k4 := fun w1 => c_Add Sn Sd c0 c1 w1 o3 hc
        generalize addR (Sn, Sd) (c0, c1) = T at *
        obtain ⟨Te, Tn, Td⟩ := T
        dsimp only at *
        have H4 := Lib.hid k4
        clear k4
        simp only [ne_eq, not_true_eq_false, if_false]
        have hgen := sgen; have hgen2 := sgen2; have hgen3 := sgen3; go_enter Tryd.func37, Tryd.ntmps37
        go_wp2_with (first | (go_at_call 64; (with_reducible refine (H1.out _).mono ?_); rintro e w1 ⟨rfl, hb⟩; have hz := hb.size; (try simp only [szA, szS, szD, szN] at hz); (try (refine bcB (n := w.heap.size) hb ?_; intro h_w_0 e_w_0 d_w_0 _ _)); (try (refine bcB (n := w.heap.size + 1) hb ?_; intro h_w_1 e_w_1 d_w_1 _ _)); (try (refine bcB (n := w.heap.size + 1 + 1) hb ?_; intro h_w_2 e_w_2 d_w_2 _ _)); (try (refine bcB (n := w.heap.size + 1 + 1 + 1) hb ?_; intro h_w_3 e_w_3 d_w_3 _ _)); (try (refine bcB (n := w.heap.size + 1 + 1 + 1 + 1) hb ?_; intro h_w_4 e_w_4 d_w_4 _ _)); (try (refine bcB (n := w.heap.size + 1 + 1 + 1 + 1 + 1) hb ?_; intro h_w_5 e_w_5 d_w_5 _ _))) | (go_at_call 64; (with_reducible refine (H2.out _).mono ?_); rintro e w2 ⟨rfl, hb⟩; have hz := hb.size; (try simp only [szA, szS, szD, szN] at hz); (try (refine bcB (n := w.heap.size) hb ?_; intro h_w_0 e_w_0 d_w_0 _ _)); (try (refine bcB (n := w.heap.size + 1) hb ?_; intro h_w_1 e_w_1 d_w_1 _ _)); (try (refine bcB (n := w.heap.size + 1 + 1) hb ?_; intro h_w_2 e_w_2 d_w_2 _ _)); (try (refine bcB (n := w.heap.size + 1 + 1 + 1) hb ?_; intro h_w_3 e_w_3 d_w_3 _ _)); (try (refine bcB (n := w.heap.size + 1 + 1 + 1 + 1) hb ?_; intro h_w_4 e_w_4 d_w_4 _ _)); (try (refine bcB (n := w.heap.size + 1 + 1 + 1 + 1 + 1) hb ?_; intro h_w_5 e_w_5 d_w_5 _ _)); (try (refine bcB (n := w1.heap.size) hb ?_; intro h_w1_0 e_w1_0 d_w1_0 _ _))) | (go_at_call 65; (with_reducible refine (H3.out _).mono ?_); rintro e w3 ⟨rfl, hb⟩; have hz := hb.size; (try simp only [szA, szS, szD, szN] at hz); (try (refine bcB (n := w.heap.size) hb ?_; intro h_w_0 e_w_0 d_w_0 _ _)); (try (refine bcB (n := w.heap.size + 1) hb ?_; intro h_w_1 e_w_1 d_w_1 _ _)); (try (refine bcB (n := w.heap.size + 1 + 1) hb ?_; intro h_w_2 e_w_2 d_w_2 _ _)); (try (refine bcB (n := w.heap.size + 1 + 1 + 1) hb ?_; intro h_w_3 e_w_3 d_w_3 _ _)); (try (refine bcB (n := w.heap.size + 1 + 1 + 1 + 1) hb ?_; intro h_w_4 e_w_4 d_w_4 _ _)); (try (refine bcB (n := w.heap.size + 1 + 1 + 1 + 1 + 1) hb ?_; intro h_w_5 e_w_5 d_w_5 _ _)); (try (refine bcB (n := w1.heap.size) hb ?_; intro h_w1_0 e_w1_0 d_w1_0 _ _))) | (go_at_call 65; (with_reducible refine (H4.out _).mono ?_); rintro e w4 ⟨rfl, hb⟩; have hz := hb.size; (try simp only [szA, szS, szD, szN] at hz); (try (refine bcB (n := w.heap.size) hb ?_; intro h_w_0 e_w_0 d_w_0 _ _)); (try (refine bcB (n := w.heap.size + 1) hb ?_; intro h_w_1 e_w_1 d_w_1 _ _)); (try (refine bcB (n := w.heap.size + 1 + 1) hb ?_; intro h_w_2 e_w_2 d_w_2 _ _)); (try (refine bcB (n := w.heap.size + 1 + 1 + 1) hb ?_; intro h_w_3 e_w_3 d_w_3 _ _)); (try (refine bcB (n := w.heap.size + 1 + 1 + 1 + 1) hb ?_; intro h_w_4 e_w_4 d_w_4 _ _)); (try (refine bcB (n := w.heap.size + 1 + 1 + 1 + 1 + 1) hb ?_; intro h_w_5 e_w_5 d_w_5 _ _)); (try (refine bcB (n := w1.heap.size) hb ?_; intro h_w1_0 e_w1_0 d_w1_0 _ _))))
        refine bodyPost_ret (v := .tuple #[.agg #[.int .i64 Tn, .int .i64 Td], .int .i64 Te]) (by simp only [results, Tryd.results37]; go_simp) rfl ⟨Tn, Td, rfl, fun _ => ⟨rfl, rfl⟩, ?_⟩
        exact belz
      · have g3 : (Se == 0) = false := by simpa using q3
        have g4 : (Se != 0) = true := by simpa using q3
        simp only [ne_eq, not_true_eq_false, if_false, q3, not_false_eq_true, if_true]
        have hgen := sgen; have hgen2 := sgen2; have hgen3 := sgen3; go_enter Tryd.func37, Tryd.ntmps37
        go_wp2_with (first | (go_at_call 64; (with_reducible refine (H1.out _).mono ?_); rintro e w1 ⟨rfl, hb⟩; have hz := hb.size; (try simp only [szA, szS, szD, szN] at hz); (try (refine bcB (n := w.heap.size) hb ?_; intro h_w_0 e_w_0 d_w_0 _ _)); (try (refine bcB (n := w.heap.size + 1) hb ?_; intro h_w_1 e_w_1 d_w_1 _ _)); (try (refine bcB (n := w.heap.size + 1 + 1) hb ?_; intro h_w_2 e_w_2 d_w_2 _ _)); (try (refine bcB (n := w.heap.size + 1 + 1 + 1) hb ?_; intro h_w_3 e_w_3 d_w_3 _ _)); (try (refine bcB (n := w.heap.size + 1 + 1 + 1 + 1) hb ?_; intro h_w_4 e_w_4 d_w_4 _ _)); (try (refine bcB (n := w.heap.size + 1 + 1 + 1 + 1 + 1) hb ?_; intro h_w_5 e_w_5 d_w_5 _ _))) | (go_at_call 64; (with_reducible refine (H2.out _).mono ?_); rintro e w2 ⟨rfl, hb⟩; have hz := hb.size; (try simp only [szA, szS, szD, szN] at hz); (try (refine bcB (n := w.heap.size) hb ?_; intro h_w_0 e_w_0 d_w_0 _ _)); (try (refine bcB (n := w.heap.size + 1) hb ?_; intro h_w_1 e_w_1 d_w_1 _ _)); (try (refine bcB (n := w.heap.size + 1 + 1) hb ?_; intro h_w_2 e_w_2 d_w_2 _ _)); (try (refine bcB (n := w.heap.size + 1 + 1 + 1) hb ?_; intro h_w_3 e_w_3 d_w_3 _ _)); (try (refine bcB (n := w.heap.size + 1 + 1 + 1 + 1) hb ?_; intro h_w_4 e_w_4 d_w_4 _ _)); (try (refine bcB (n := w.heap.size + 1 + 1 + 1 + 1 + 1) hb ?_; intro h_w_5 e_w_5 d_w_5 _ _)); (try (refine bcB (n := w1.heap.size) hb ?_; intro h_w1_0 e_w1_0 d_w1_0 _ _))) | (go_at_call 65; (with_reducible refine (H3.out _).mono ?_); rintro e w3 ⟨rfl, hb⟩; have hz := hb.size; (try simp only [szA, szS, szD, szN] at hz); (try (refine bcB (n := w.heap.size) hb ?_; intro h_w_0 e_w_0 d_w_0 _ _)); (try (refine bcB (n := w.heap.size + 1) hb ?_; intro h_w_1 e_w_1 d_w_1 _ _)); (try (refine bcB (n := w.heap.size + 1 + 1) hb ?_; intro h_w_2 e_w_2 d_w_2 _ _)); (try (refine bcB (n := w.heap.size + 1 + 1 + 1) hb ?_; intro h_w_3 e_w_3 d_w_3 _ _)); (try (refine bcB (n := w.heap.size + 1 + 1 + 1 + 1) hb ?_; intro h_w_4 e_w_4 d_w_4 _ _)); (try (refine bcB (n := w.heap.size + 1 + 1 + 1 + 1 + 1) hb ?_; intro h_w_5 e_w_5 d_w_5 _ _)); (try (refine bcB (n := w1.heap.size) hb ?_; intro h_w1_0 e_w1_0 d_w1_0 _ _))))
        refine bodyPost_ret (v := .tuple #[.agg #[.int .i64 Sn, .int .i64 Sd], .int .i64 Se]) (by simp only [results, Tryd.results37]; go_simp) rfl ⟨Sn, Sd, rfl, fun h => False.elim h, ?_⟩
        exact belz
    · have g3 : (Qe == 0) = false := by simpa using q2
      have g4 : (Qe != 0) = true := by simpa using q2
      simp only [ne_eq, not_true_eq_false, if_false, q2, not_false_eq_true, if_true]
      have hgen := sgen; have hgen2 := sgen2; have hgen3 := sgen3; go_enter Tryd.func37, Tryd.ntmps37
      go_wp2_with (first | (go_at_call 64; (with_reducible refine (H1.out _).mono ?_); rintro e w1 ⟨rfl, hb⟩; have hz := hb.size; (try simp only [szA, szS, szD, szN] at hz); (try (refine bcB (n := w.heap.size) hb ?_; intro h_w_0 e_w_0 d_w_0 _ _)); (try (refine bcB (n := w.heap.size + 1) hb ?_; intro h_w_1 e_w_1 d_w_1 _ _)); (try (refine bcB (n := w.heap.size + 1 + 1) hb ?_; intro h_w_2 e_w_2 d_w_2 _ _)); (try (refine bcB (n := w.heap.size + 1 + 1 + 1) hb ?_; intro h_w_3 e_w_3 d_w_3 _ _)); (try (refine bcB (n := w.heap.size + 1 + 1 + 1 + 1) hb ?_; intro h_w_4 e_w_4 d_w_4 _ _)); (try (refine bcB (n := w.heap.size + 1 + 1 + 1 + 1 + 1) hb ?_; intro h_w_5 e_w_5 d_w_5 _ _))) | (go_at_call 64; (with_reducible refine (H2.out _).mono ?_); rintro e w2 ⟨rfl, hb⟩; have hz := hb.size; (try simp only [szA, szS, szD, szN] at hz); (try (refine bcB (n := w.heap.size) hb ?_; intro h_w_0 e_w_0 d_w_0 _ _)); (try (refine bcB (n := w.heap.size + 1) hb ?_; intro h_w_1 e_w_1 d_w_1 _ _)); (try (refine bcB (n := w.heap.size + 1 + 1) hb ?_; intro h_w_2 e_w_2 d_w_2 _ _)); (try (refine bcB (n := w.heap.size + 1 + 1 + 1) hb ?_; intro h_w_3 e_w_3 d_w_3 _ _)); (try (refine bcB (n := w.heap.size + 1 + 1 + 1 + 1) hb ?_; intro h_w_4 e_w_4 d_w_4 _ _)); (try (refine bcB (n := w.heap.size + 1 + 1 + 1 + 1 + 1) hb ?_; intro h_w_5 e_w_5 d_w_5 _ _)); (try (refine bcB (n := w1.heap.size) hb ?_; intro h_w1_0 e_w1_0 d_w1_0 _ _))))
      refine bodyPost_ret (v := .tuple #[.agg #[.int .i64 Pn, .int .i64 Pd], .int .i64 Qe]) (by simp only [results, Tryd.results37]; go_simp) rfl ⟨Pn, Pd, rfl, fun h => False.elim h, ?_⟩
      exact belz
  · have g3 : (Pe == 0) = false := by simpa using q1
    have g4 : (Pe != 0) = true := by simpa using q1
    simp only [ne_eq, q1, not_false_eq_true, if_true]
    have hgen := sgen; have hgen2 := sgen2; have hgen3 := sgen3; go_enter Tryd.func37, Tryd.ntmps37
    go_wp2_with (go_at_call 64; (with_reducible refine (H1.out _).mono ?_); rintro e w1 ⟨rfl, hb⟩; have hz := hb.size; (try simp only [szA, szS, szD, szN] at hz); (try (refine bcB (n := w.heap.size) hb ?_; intro h_w_0 e_w_0 d_w_0 _ _)); (try (refine bcB (n := w.heap.size + 1) hb ?_; intro h_w_1 e_w_1 d_w_1 _ _)); (try (refine bcB (n := w.heap.size + 1 + 1) hb ?_; intro h_w_2 e_w_2 d_w_2 _ _)); (try (refine bcB (n := w.heap.size + 1 + 1 + 1) hb ?_; intro h_w_3 e_w_3 d_w_3 _ _)); (try (refine bcB (n := w.heap.size + 1 + 1 + 1 + 1) hb ?_; intro h_w_4 e_w_4 d_w_4 _ _)); (try (refine bcB (n := w.heap.size + 1 + 1 + 1 + 1 + 1) hb ?_; intro h_w_5 e_w_5 d_w_5 _ _)))
    refine bodyPost_ret (v := .tuple #[.agg #[.int .i64 Pn, .int .i64 Pd], .int .i64 Pe]) (by simp only [results, Tryd.results37]; go_simp) rfl ⟨Pn, Pd, rfl, fun h => False.elim h, ?_⟩
    exact belz
end Go.Proofs.YtbcehnhiedbbbaaDoor
