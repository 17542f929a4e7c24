/- The contracts of frac.both, order, Cmp and of Box's closure. -/
import Derived.Test.YtbcehnhiedbbbaaDoorWalkFc
import Derived.Deep.QuietTactic
import Derived.BigQuiet
set_option linter.unusedVariables false
set_option linter.unusedSimpArgs false
namespace Go.Proofs.YtbcehnhiedbbbaaDoor
open Go.RowKit
theorem c_both (n d m e : Int) (w : World) (h1 : fcE n d = 0) (h2 : fcE m e = 0) : Calls Tryd.prog 60 #[.agg #[.int .i64 n, .int .i64 d], .agg #[.int .i64 m, .int .i64 e]] w fun e w' => e = .returned (.int .i64 0) ∧ Below w.heap.size w w' := by
  have ha := fun w1 => c_fcCheck n d w1
  have hb := fun w1 => c_fcCheck m e w1
  rw [h1] at ha
  rw [h2] at hb
  have HA := Lib.hid ha
  have HB := Lib.hid hb
  clear ha hb h1 h2
  have hgen := sgen; have hgen2 := sgen2; have hgen3 := sgen3; go_enter Tryd.func60, Tryd.ntmps60
  go_wp2_with (first | (go_at_call 36; (with_reducible refine (HA.out _).mono ?_); rintro e w1 ⟨rfl, hb⟩; have hz := hb.size; (try simp only [szA, szS, szD, szN] at hz); (try (refine bcB (n := w.heap.size) hb ?_; intro h_w_0 e_w_0 d_w_0 _ _)); (try (refine bcB (n := w.heap.size + 1) hb ?_; intro h_w_1 e_w_1 d_w_1 _ _)); (try (refine bcB (n := w.heap.size + 1 + 1) hb ?_; intro h_w_2 e_w_2 d_w_2 _ _))) | (go_at_call 36; (with_reducible refine (HB.out _).mono ?_); rintro e w2 ⟨rfl, hb⟩; have hz := hb.size; (try simp only [szA, szS, szD, szN] at hz); (try (refine bcB (n := w.heap.size) hb ?_; intro h_w_0 e_w_0 d_w_0 _ _)); (try (refine bcB (n := w.heap.size + 1) hb ?_; intro h_w_1 e_w_1 d_w_1 _ _)); (try (refine bcB (n := w1.heap.size) hb ?_; intro h_w1_0 e_w1_0 d_w1_0 _ _))))
  go_ret
  refine ⟨rfl, ?_⟩; exact belz
def ordF (n d m e : Int) : Int := if n * e < m * d then -1 else if m * d < n * e then 1 else 0
theorem c_order (n d m e : Int) (w : World) (h1 : fcE n d = 0) (h2 : fcE m e = 0) : Calls Tryd.prog 61 #[.agg #[.int .i64 n, .int .i64 d], .agg #[.int .i64 m, .int .i64 e]] w fun x w' => x = .returned (.int .i64 (ordF n d m e)) ∧ Below w.heap.size w w' := by
  obtain ⟨d0, d1, n0, n1, -⟩ := fcE_ok h1
  obtain ⟨e0, e1, m0, m1, -⟩ := fcE_ok h2
  have b1 : -4611686014132420609 ≤ n * e ∧ n * e ≤ 4611686014132420609 := mul_bd2 (by omega) (by omega) (by omega) (by omega)
  have b2 : -4611686014132420609 ≤ m * d ∧ m * d ≤ 4611686014132420609 := mul_bd2 (by omega) (by omega) (by omega) (by omega)
  have V1 : IntKind.i64.wrap (n * e) = n * e := IntWalk.i64_in _ (by omega)
  have V2 : IntKind.i64.wrap (m * d) = m * d := IntWalk.i64_in _ (by omega)
  have V3 : wrap64 (n * e) = n * e := (IntWalk.i64_left _).symm.trans V1
  have V4 : wrap64 (m * d) = m * d := (IntWalk.i64_left _).symm.trans V2
  unfold ordF
  by_cases q : n * e < m * d
  · rw [if_pos q]
    have t := decide_eq_true q
    have hgen := sgen; have hgen2 := sgen2; have hgen3 := sgen3; go_enter Tryd.func61, Tryd.ntmps61
    go_wp2
    go_quiet (fail)
    go_wp2
    go_ret
    refine ⟨rfl, ?_⟩; exact belz
  · rw [if_neg q]
    have t := decide_eq_false q
    by_cases r : m * d < n * e
    · rw [if_pos r]
      have t2 := decide_eq_true r
      have hgen := sgen; have hgen2 := sgen2; have hgen3 := sgen3; go_enter Tryd.func61, Tryd.ntmps61
      go_wp2
      go_quiet (fail)
      go_wp2
      go_ret
      refine ⟨rfl, ?_⟩; exact belz
    · rw [if_neg r]
      have t2 := decide_eq_false r
      have hgen := sgen; have hgen2 := sgen2; have hgen3 := sgen3; go_enter Tryd.func61, Tryd.ntmps61
      go_wp2
      go_quiet (fail)
      go_wp2
      go_ret
      refine ⟨rfl, ?_⟩; exact belz
theorem c_Cmp (n d m e : Int) (w : World) (h1 : fcE n d = 0) (h2 : fcE m e = 0) : Calls Tryd.prog 34 #[.agg #[.int .i64 n, .int .i64 d], .agg #[.int .i64 m, .int .i64 e]] w fun x w' => x = .returned (.tuple #[.int .i64 (ordF n d m e), .int .i64 0]) ∧ Below w.heap.size w w' := by
  have HA := Lib.hid (fun w1 => c_both n d m e w1 h1 h2)
  have HB := Lib.hid (fun w1 => c_order n d m e w1 h1 h2)
  generalize ordF n d m e = x at *
  have hgen := sgen; have hgen2 := sgen2; have hgen3 := sgen3; go_enter Tryd.func34, Tryd.ntmps34
  go_wp2_with (first | (go_at_call 60; (with_reducible refine (HA.out _).mono ?_); rintro e w1 ⟨rfl, hb⟩; have hz := hb.size; (try simp only [szA, szS, szD, szN] at hz); (try (refine bcB (n := w.heap.size) hb ?_; intro h_w_0 e_w_0 d_w_0 _ _)); (try (refine bcB (n := w.heap.size + 1) hb ?_; intro h_w_1 e_w_1 d_w_1 _ _)); (try (refine bcB (n := w.heap.size + 1 + 1) hb ?_; intro h_w_2 e_w_2 d_w_2 _ _))) | (go_at_call 61; (with_reducible refine (HB.out _).mono ?_); rintro e w2 ⟨rfl, hb⟩; have hz := hb.size; (try simp only [szA, szS, szD, szN] at hz); (try (refine bcB (n := w.heap.size) hb ?_; intro h_w_0 e_w_0 d_w_0 _ _)); (try (refine bcB (n := w.heap.size + 1) hb ?_; intro h_w_1 e_w_1 d_w_1 _ _)); (try (refine bcB (n := w1.heap.size) hb ?_; intro h_w1_0 e_w1_0 d_w1_0 _ _))))
  refine bodyPost_ret (v := .tuple #[.int .i64 x, .int .i64 0]) (by simp only [results, Tryd.results34]; go_simp) rfl ⟨rfl, ?_⟩
  exact belz
theorem c_less (n d m e : Int) (w : World) (h1 : fcE n d = 0) (h2 : fcE m e = 0) : Calls Tryd.prog 59 #[.agg #[.int .i64 n, .int .i64 d], .agg #[.int .i64 m, .int .i64 e]] w fun x w' => x = .returned (.bool (decide (n * e < m * d))) ∧ Below w.heap.size w w' := by
  have HA := Lib.hid (fun w1 => c_Cmp n d m e w1 h1 h2)
  have hx : decide (ordF n d m e < 0) = decide (n * e < m * d) := by
    unfold ordF
    by_cases q : n * e < m * d
    · rw [if_pos q, decide_eq_true q]; rfl
    · rw [if_neg q, decide_eq_false q]
      split <;> rfl
  rw [← hx]
  clear hx
  generalize ordF n d m e = x at *
  have hgen := sgen; have hgen2 := sgen2; have hgen3 := sgen3; go_enter Tryd.func59, Tryd.ntmps59
  go_wp2_with (go_at_call 34; (with_reducible refine (HA.out _).mono ?_); rintro e w1 ⟨rfl, hb⟩; have hz := hb.size; (try simp only [szA, szS, szD, szN] at hz); (try (refine bcB (n := w.heap.size) hb ?_; intro h_w_0 e_w_0 d_w_0 _ _)); (try (refine bcB (n := w.heap.size + 1) hb ?_; intro h_w_1 e_w_1 d_w_1 _ _)); (try (refine bcB (n := w.heap.size + 1 + 1) hb ?_; intro h_w_2 e_w_2 d_w_2 _ _)))
  go_ret
  refine ⟨rfl, ?_⟩; exact belz
end Go.Proofs.YtbcehnhiedbbbaaDoor
