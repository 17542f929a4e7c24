/- The contracts of frac.Check, show and Text. -/
import Derived.Test.YtbcehnhiedbbbaaDoorWalkGcd
import Derived.Test.YtbcehnhiedbbbaaDoorWalkNo5
import Derived.Test.YtbcehnhiedbbbaaDoorPlainFc
set_option linter.unusedVariables false
set_option linter.unusedSimpArgs false
namespace Go.Proofs.YtbcehnhiedbbbaaDoor
open Go.RowKit
theorem c_fcCheck (n d : Int) (w : World) : Calls Tryd.prog 36 #[.agg #[.int .i64 n, .int .i64 d]] w fun e w' => e = .returned (.int .i64 (fcE n d)) ∧ Below w.heap.size w w' := by
  by_cases h1 : d < 1
  · rw [fcE_bad (by unfold fcB; omega)]
    have g := decide_eq_true h1
    have hgen := sgen; have hgen2 := sgen2; have hgen3 := sgen3; go_enter Tryd.func36, Tryd.ntmps36
    go_wp2
    go_ret
    refine ⟨rfl, ?_⟩; exact belz
  have g1 := decide_eq_false h1
  by_cases h2 : 2147483647 < d
  · rw [fcE_bad (by unfold fcB; omega)]
    have g := decide_eq_true h2
    have hgen := sgen; have hgen2 := sgen2; have hgen3 := sgen3; go_enter Tryd.func36, Tryd.ntmps36
    go_wp2
    go_ret
    refine ⟨rfl, ?_⟩; exact belz
  have g2 := decide_eq_false h2
  by_cases h3 : n < -2147483647
  · rw [fcE_bad (by unfold fcB; omega)]
    have g := decide_eq_true h3
    have hgen := sgen; have hgen2 := sgen2; have hgen3 := sgen3; go_enter Tryd.func36, Tryd.ntmps36
    go_wp2
    go_ret
    refine ⟨rfl, ?_⟩; exact belz
  have g3 := decide_eq_false h3
  by_cases h4 : 2147483647 < n
  · rw [fcE_bad (by unfold fcB; omega)]
    have g := decide_eq_true h4
    have hgen := sgen; have hgen2 := sgen2; have hgen3 := sgen3; go_enter Tryd.func36, Tryd.ntmps36
    go_wp2
    go_ret
    refine ⟨rfl, ?_⟩; exact belz
  have g4 := decide_eq_false h4
  have e : fcE n d = if Nat.gcd n.natAbs d.natAbs = 1 then 0 else 8 := if_neg (by unfold fcB; omega)
  rw [e]
  have HG := Lib.hid (fun w1 => c_Gcd n d w1 (by omega) (by omega) (by omega) (by omega))
  clear h1 h2 h3 h4 e
  by_cases hg : Nat.gcd n.natAbs d.natAbs = 1
  · rw [if_pos hg]
    rw [hg] at HG
    have hgen := sgen; have hgen2 := sgen2; have hgen3 := sgen3; go_enter Tryd.func36, Tryd.ntmps36
    go_wp2_with (go_at_call 63; (with_reducible refine (HG.out _).mono ?_); rintro e w1 ⟨rfl, hb⟩; have hz := hb.size; (try simp only [szA, szS, szD, szN] at hz); (try (refine bcB (n := w.heap.size) hb ?_; intro h_w_0 e_w_0 d_w_0 _ _)); (try (refine bcB (n := w.heap.size + 1) hb ?_; intro h_w_1 e_w_1 d_w_1 _ _)))
    go_ret
    refine ⟨rfl, ?_⟩; exact belz
  · rw [if_neg hg]
    generalize Nat.gcd n.natAbs d.natAbs = k at *
    have g5 : (((k : Nat) : Int) == 1) = false := by simp; omega
    have g6 : (((k : Nat) : Int) != 1) = true := by simp; omega
    have hgen := sgen; have hgen2 := sgen2; have hgen3 := sgen3; go_enter Tryd.func36, Tryd.ntmps36
    go_wp2_with (go_at_call 63; (with_reducible refine (HG.out _).mono ?_); rintro e w1 ⟨rfl, hb⟩; have hz := hb.size; (try simp only [szA, szS, szD, szN] at hz); (try (refine bcB (n := w.heap.size) hb ?_; intro h_w_0 e_w_0 d_w_0 _ _)); (try (refine bcB (n := w.heap.size + 1) hb ?_; intro h_w_1 e_w_1 d_w_1 _ _)))
    go_ret
    refine ⟨rfl, ?_⟩; exact belz
theorem c_ItoaB (n : Int) (w : World) (hT : NTab w) (h0 : -9223372036854775808 ≤ n) (h1 : n ≤ 9223372036854775807) :
    Calls Tryd.prog 40 #[.int .i64 n] w fun e w' => e = .returned (.string (strB (Go.Lib.itoa n))) ∧ Below w.heap.size w w' := c_Itoa n w hT h0 h1
theorem show_steps {N D : List UInt8} (h1 : N.length ≤ 21) (h2 : D.length ≤ 21) :
    (∀ w0, (Op.stringOp .add ⟨#[47]⟩ (strB D)).run Tryd.prog w0 = .ok (.string (strB (47 :: D))) w0) ∧
    (∀ w0, (Op.stringOp .add (strB N) (strB (47 :: D))).run Tryd.prog w0 = .ok (.string (strB (N ++ 47 :: D))) w0) :=
  ⟨fun w0 => add_str [47] D (by simp; omega) w0, fun w0 => add_str _ _ (by simp; omega) w0⟩
theorem c_show (n d : Int) (w : World) (hT : NTab w) (h : fcE n d = 0) : Calls Tryd.prog 55 #[.agg #[.int .i64 n, .int .i64 d]] w fun e w' => e = .returned (.string (strB (showF n d))) ∧ Below w.heap.size w w' := by
  obtain ⟨d0, d1, n0, n1, -⟩ := fcE_ok h
  have HN := Lib.hid (fun w1 h1 => c_ItoaB n w1 h1 (by omega) (by omega))
  have HD := Lib.hid (fun w1 h1 => c_ItoaB d w1 h1 (by omega) (by omega))
  have HT := Lib.hid hT
  clear hT h
  by_cases hd : d = 1
  · subst hd
    have e : showF n 1 = Go.Lib.itoa n := by unfold showF; simp
    rw [e]
    generalize strB (Go.Lib.itoa n) = N at *
    have hgen := sgen; have hgen2 := sgen2; have hgen3 := sgen3; go_enter Tryd.func55, Tryd.ntmps55
    go_wp2_with (go_at_call 40; (with_reducible refine (HN.out _ (HT.out.below (by exact belz))).mono ?_); rintro e w1 ⟨rfl, hb⟩; have hz := hb.size; (try simp only [szA, szS, szD, szN] at hz); (try (refine bcB (n := w.heap.size) hb ?_; intro h_w_0 e_w_0 d_w_0 _ _)); (try (refine bcB (n := w.heap.size + 1) hb ?_; intro h_w_1 e_w_1 d_w_1 _ _)))
    go_ret
    refine ⟨rfl, ?_⟩; exact belz
  · have e : showF n d = Go.Lib.itoa n ++ 47 :: Go.Lib.itoa d := by unfold showF; rw [if_neg hd]
    rw [e]
    have g5 : (d == 1) = false := by simp; omega
    have g6 : (d != 1) = true := by simp; omega
    have la := Go.Lib.itoa_length_le n (by omega) (by omega)
    have lb := Go.Lib.itoa_length_le d (by omega) (by omega)
    obtain ⟨x1, x2⟩ := show_steps la lb
    clear e la lb
    generalize strB (Go.Lib.itoa n) = A1 at *
    generalize strB (Go.Lib.itoa d) = A2 at *
    generalize strB (47 :: Go.Lib.itoa d) = A3 at *
    generalize strB (Go.Lib.itoa n ++ 47 :: Go.Lib.itoa d) = A4 at *
    have hgen := sgen; have hgen2 := sgen2; have hgen3 := sgen3; go_enter Tryd.func55, Tryd.ntmps55
    go_wp2_with (first | (go_at_call 40; (with_reducible refine (HN.out _ (HT.out.below (by exact belz))).mono ?_); rintro e w1 ⟨rfl, hb⟩; have hz := hb.size; (try simp only [szA, szS, szD, szN] at hz); (try (refine bcB (n := w.heap.size) hb ?_; intro h_w_0 e_w_0 d_w_0 _ _)); (try (refine bcB (n := w.heap.size + 1) hb ?_; intro h_w_1 e_w_1 d_w_1 _ _))) | (go_at_call 40; (with_reducible refine (HD.out _ (HT.out.below (by exact belz))).mono ?_); rintro e w2 ⟨rfl, hb⟩; have hz := hb.size; (try simp only [szA, szS, szD, szN] at hz); (try (refine bcB (n := w.heap.size) hb ?_; intro h_w_0 e_w_0 d_w_0 _ _)); (try (refine bcB (n := w.heap.size + 1) hb ?_; intro h_w_1 e_w_1 d_w_1 _ _)); (try (refine bcB (n := w1.heap.size) hb ?_; intro h_w1_0 e_w1_0 d_w1_0 _ _))))
    go_ret
    refine ⟨rfl, ?_⟩; exact belz
theorem c_fText_bad (n d : Int) (w : World) (h : fcE n d = 8) : Calls Tryd.prog 30 #[.agg #[.int .i64 n, .int .i64 d]] w fun e w' => e = .returned (.tuple #[.string ⟨#[]⟩, .int .i64 8]) ∧ Below w.heap.size w w' := by
  have hc := fun w1 => c_fcCheck n d w1
  rw [h] at hc
  have HC := Lib.hid hc
  clear hc h
  have hgen := sgen; have hgen2 := sgen2; have hgen3 := sgen3; go_enter Tryd.func30, Tryd.ntmps30
  go_wp2_with (go_at_call 36; (with_reducible refine (HC.out _).mono ?_); rintro e w1 ⟨rfl, hb⟩; have hz := hb.size; (try simp only [szA, szS, szD, szN] at hz); (try (refine bcB (n := w.heap.size) hb ?_; intro h_w_0 e_w_0 d_w_0 _ _)); (try (refine bcB (n := w.heap.size + 1) hb ?_; intro h_w_1 e_w_1 d_w_1 _ _)))
  refine bodyPost_ret (v := .tuple #[.string ⟨#[]⟩, .int .i64 8]) (by simp only [results, Tryd.results30]; go_simp) rfl ⟨rfl, ?_⟩
  exact belz
theorem c_fText (n d : Int) (w : World) (hT : NTab w) (h : fcE n d = 0) : Calls Tryd.prog 30 #[.agg #[.int .i64 n, .int .i64 d]] w fun e w' => e = .returned (.tuple #[.string (strB (showF n d)), .int .i64 0]) ∧ Below w.heap.size w w' := by
  have hc := fun w1 => c_fcCheck n d w1
  have HS := Lib.hid (fun w1 h1 => c_show n d w1 h1 h)
  rw [h] at hc
  have HC := Lib.hid hc
  have HT := Lib.hid hT
  clear hc h hT
  generalize strB (showF n d) = S at *
  have hgen := sgen; have hgen2 := sgen2; have hgen3 := sgen3; go_enter Tryd.func30, Tryd.ntmps30
  go_wp2_with (first | (go_at_call 36; (with_reducible refine (HC.out _).mono ?_); rintro e w1 ⟨rfl, hb⟩; have hz := hb.size; (try simp only [szA, szS, szD, szN] at hz); (try (refine bcB (n := w.heap.size) hb ?_; intro h_w_0 e_w_0 d_w_0 _ _)); (try (refine bcB (n := w.heap.size + 1) hb ?_; intro h_w_1 e_w_1 d_w_1 _ _))) | (go_at_call 55; (with_reducible refine (HS.out _ (HT.out.below (by exact belz))).mono ?_); rintro e w2 ⟨rfl, hb⟩; have hz := hb.size; (try simp only [szA, szS, szD, szN] at hz); (try (refine bcB (n := w.heap.size) hb ?_; intro h_w_0 e_w_0 d_w_0 _ _)); (try (refine bcB (n := w.heap.size + 1) hb ?_; intro h_w_1 e_w_1 d_w_1 _ _)); (try (refine bcB (n := w1.heap.size) hb ?_; intro h_w1_0 e_w1_0 d_w1_0 _ _))))
  refine bodyPost_ret (v := .tuple #[.string S, .int .i64 0]) (by simp only [results, Tryd.results30]; go_simp) rfl ⟨rfl, ?_⟩
  exact belz
end Go.Proofs.YtbcehnhiedbbbaaDoor
