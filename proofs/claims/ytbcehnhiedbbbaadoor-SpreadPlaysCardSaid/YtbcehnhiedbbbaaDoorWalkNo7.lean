/- Contracts of notice.Write and noticeWorks. -/
import Derived.Test.YtbcehnhiedbbbaaDoorWalkNo6
set_option linter.unusedVariables false
set_option linter.unusedSimpArgs false
namespace Go.Proofs.YtbcehnhiedbbbaaDoor
open Go.RowKit
theorem write_steps {ia ib ic l : List UInt8} (h1 : ia.length ≤ 21) (h2 : ib.length ≤ 21) (h3 : ic.length ≤ 21) (h4 : l.length ≤ 200) :
    (∀ w0, (Op.stringOp .add (strB ia) ⟨#[32]⟩).run Tryd.prog w0 = .ok (.string (strB (ia ++ [32]))) w0) ∧
    (∀ w0, (Op.stringOp .add (strB (ia ++ [32])) (strB ib)).run Tryd.prog w0 = .ok (.string (strB (ia ++ [32] ++ ib))) w0) ∧
    (∀ w0, (Op.stringOp .add (strB (ia ++ [32] ++ ib)) ⟨#[32]⟩).run Tryd.prog w0 = .ok (.string (strB (ia ++ [32] ++ ib ++ [32]))) w0) ∧
    (∀ w0, (Op.stringOp .add (strB (ia ++ [32] ++ ib ++ [32])) (strB ic)).run Tryd.prog w0 = .ok (.string (strB (ia ++ [32] ++ ib ++ [32] ++ ic))) w0) ∧
    (∀ w0, (Op.stringOp .add (strB (ia ++ [32] ++ ib ++ [32] ++ ic)) ⟨#[32]⟩).run Tryd.prog w0 = .ok (.string (strB (ia ++ [32] ++ ib ++ [32] ++ ic ++ [32]))) w0) ∧
    (∀ w0, (Op.stringOp .add (strB (ia ++ [32] ++ ib ++ [32] ++ ic ++ [32])) (strB l)).run Tryd.prog w0 = .ok (.string (strB (ia ++ [32] ++ ib ++ [32] ++ ic ++ [32] ++ l))) w0) := by
  refine ⟨fun w0 => add_str _ _ ?_ w0, fun w0 => add_str _ _ ?_ w0, fun w0 => add_str _ _ ?_ w0, fun w0 => add_str _ _ ?_ w0, fun w0 => add_str _ _ ?_ w0, fun w0 => add_str _ _ ?_ w0⟩ <;> (simp; omega)
theorem c_Write_bad (a n : Int) (T : ByteArray) (s : Int) (w : World) (hsz : T.size ≤ 9223372036854775807) (h : noE a n s T.data.toList ≠ 0) :
    Calls Tryd.prog 17 #[.agg #[.int .i64 a, .int .i64 n, .string T, .int .i64 s]] w fun e w' => e = .returned (.tuple #[.string ⟨#[]⟩, .int .i64 (noE a n s T.data.toList)]) ∧ Below w.heap.size w w' := by
  have HC := Lib.hid (fun w1 => c_nCheck a n T s w1 hsz)
  generalize noE a n s T.data.toList = x at *
  have g : (x == 0) = false := by simpa using h
  have g2 : (x != 0) = true := by simpa using h
  have hgen := sgen; have hgen2 := sgen2; have hgen3 := sgen3; go_enter Tryd.func17, Tryd.ntmps17
  go_wp2_with (go_at_call 15; (with_reducible refine (HC.out _).mono ?_); rintro e w1 ⟨rfl, hb⟩; have hz := hb.size; (try simp only [szA, szS, szD, szN] at hz); (try (refine bcB (n := w.heap.size) hb ?_; intro h_w_0 e_w_0 d_w_0 _ _)))
  refine bodyPost_ret (v := .tuple #[.string ⟨#[]⟩, .int .i64 x]) (by simp only [results, Tryd.results17]; go_simp) rfl ⟨rfl, ?_⟩
  exact belz
set_option maxRecDepth 100000 in
set_option maxHeartbeats 4000000 in
theorem c_Write_ok (a n : Int) (T : ByteArray) (s : Int) (w : World) (hT : NTab w) (hsz : T.size ≤ 9223372036854775807) (h : noE a n s T.data.toList = 0) :
    Calls Tryd.prog 17 #[.agg #[.int .i64 a, .int .i64 n, .string T, .int .i64 s]] w fun e w' => e = .returned (.tuple #[.string (strB (noW a n s T.data.toList)), .int .i64 0]) ∧ Below w.heap.size w w' := by
  obtain ⟨a0, a1, n0, n1, s0, s1, l1, -⟩ := noE_ok h
  have el := str_len T
  have hc := fun w1 => c_nCheck a n T s w1 hsz
  rw [h] at hc
  have HC := Lib.hid hc
  have HA := Lib.hid (fun w1 h => c_Itoa a w1 h (by omega) (by omega))
  have HB := Lib.hid (fun w1 h => c_Itoa n w1 h (by omega) (by omega))
  have HS := Lib.hid (fun w1 h => c_Itoa s w1 h (by omega) (by omega))
  have la := Go.Lib.itoa_length_le a (by omega) (by omega)
  have lb := Go.Lib.itoa_length_le n (by omega) (by omega)
  have lc := Go.Lib.itoa_length_le s (by omega) (by omega)
  have HT := Lib.hid hT
  have hS : noW a n s T.data.toList = Go.Lib.itoa a ++ [32] ++ Go.Lib.itoa n ++ [32] ++ Go.Lib.itoa s ++ [32] ++ T.data.toList := rfl
  obtain ⟨x1, x2, x3, x4, x5, x6⟩ := write_steps (ia := Go.Lib.itoa a) (ib := Go.Lib.itoa n) (ic := Go.Lib.itoa s) (l := T.data.toList) la lb lc (by omega)
  rw [strB_of, ← hS] at x6
  have e1 : (⟨(Go.Lib.itoa a).toArray⟩ : ByteArray) = strB (Go.Lib.itoa a) := rfl
  have e2 : (⟨(Go.Lib.itoa n).toArray⟩ : ByteArray) = strB (Go.Lib.itoa n) := rfl
  have e3 : (⟨(Go.Lib.itoa s).toArray⟩ : ByteArray) = strB (Go.Lib.itoa s) := rfl
  rw [e1] at HA
  rw [e2] at HB
  rw [e3] at HS
  clear hS hT e1 e2 e3 la lb lc hc h
  generalize strB (noW a n s T.data.toList) = S at *
  generalize strB (Go.Lib.itoa a) = A1 at *
  generalize strB (Go.Lib.itoa n) = B1 at *
  generalize strB (Go.Lib.itoa s) = C1 at *
  generalize strB (Go.Lib.itoa a ++ [32]) = A2 at *
  generalize strB (Go.Lib.itoa a ++ [32] ++ Go.Lib.itoa n) = A3 at *
  generalize strB (Go.Lib.itoa a ++ [32] ++ Go.Lib.itoa n ++ [32]) = A4 at *
  generalize strB (Go.Lib.itoa a ++ [32] ++ Go.Lib.itoa n ++ [32] ++ Go.Lib.itoa s) = A5 at *
  generalize strB (Go.Lib.itoa a ++ [32] ++ Go.Lib.itoa n ++ [32] ++ Go.Lib.itoa s ++ [32]) = A6 at *
  have hgen := sgen; have hgen2 := sgen2; have hgen3 := sgen3; go_enter Tryd.func17, Tryd.ntmps17
  go_upto_region 4 with (go_at_call 15; (with_reducible refine (HC.out _).mono ?_); rintro e w1 ⟨rfl, hb⟩; have hz := hb.size; (try simp only [szA, szS, szD, szN] at hz); (try (refine bcB (n := w.heap.size) hb ?_; intro h_w_0 e_w_0 d_w_0 _ _)))
  go_region_held3 (fun w' => w'.cell? ⟨w.heap.size, 0, none⟩ = some (.int .i64 a) ∧ w'.cell? ⟨w.heap.size, 1, none⟩ = some (.int .i64 n) ∧ w'.cell? ⟨w.heap.size, 2, none⟩ = some (.string T) ∧ w'.cell? ⟨w.heap.size, 3, none⟩ = some (.int .i64 s)) (refine ⟨?_, ?_, ?_, ?_⟩ <;> (first | (go_simp; done) | go_keep)) (first | (go_at_call 40; (with_reducible refine (HA.out _ (HT.out.below (by exact belz))).mono ?_); rintro e w2 ⟨rfl, hb⟩; have hz := hb.size; (try simp only [szA, szS, szD, szN] at hz); (try (refine bcB (n := w.heap.size) hb ?_; intro h_w_0 e_w_0 d_w_0 _ _)); (try (refine bcB (n := w1.heap.size) hb ?_; intro h_w1_0 e_w1_0 d_w1_0 _ _))) | (go_at_call 40; (with_reducible refine (HB.out _ (HT.out.below (by exact belz))).mono ?_); rintro e w3 ⟨rfl, hb⟩; have hz := hb.size; (try simp only [szA, szS, szD, szN] at hz); (try (refine bcB (n := w.heap.size) hb ?_; intro h_w_0 e_w_0 d_w_0 _ _)); (try (refine bcB (n := w1.heap.size) hb ?_; intro h_w1_0 e_w1_0 d_w1_0 _ _)); (try (refine bcB (n := w2.heap.size) hb ?_; intro h_w2_0 e_w2_0 d_w2_0 _ _))) | (go_at_call 40; (with_reducible refine (HS.out _ (HT.out.below (by exact belz))).mono ?_); rintro e w4 ⟨rfl, hb⟩; have hz := hb.size; (try simp only [szA, szS, szD, szN] at hz); (try (refine bcB (n := w.heap.size) hb ?_; intro h_w_0 e_w_0 d_w_0 _ _)); (try (refine bcB (n := w1.heap.size) hb ?_; intro h_w1_0 e_w1_0 d_w1_0 _ _)); (try (refine bcB (n := w2.heap.size) hb ?_; intro h_w2_0 e_w2_0 d_w2_0 _ _)); (try (refine bcB (n := w3.heap.size) hb ?_; intro h_w3_0 e_w3_0 d_w3_0 _ _))))
  all_goals go_wp2
  all_goals refine bodyPost_ret (v := .tuple #[.string S, .int .i64 0]) (by simp only [results, Tryd.results17]; go_simp) rfl ⟨rfl, ?_⟩
  all_goals exact belz
theorem dec_step {u p q : Nat} (hq : q < 10) (hp : 0 < p) (h : u = 10 * p + q) : Go.Lib.decDigits u = Go.Lib.decDigits p ++ [UInt8.ofNat (48 + q)] := by
  rw [dec_big (by omega), show u / 10 = p by omega, show u % 10 = q by omega]
theorem dec_ex : Go.Lib.decDigits 930818648 = [57, 51, 48, 56, 49, 56, 54, 52, 56] := by
  rw [dec_step (p := 93081864) (q := 8) (by decide) (by decide) (by decide), dec_step (p := 9308186) (q := 4) (by decide) (by decide) (by decide), dec_step (p := 930818) (q := 6) (by decide) (by decide) (by decide), dec_step (p := 93081) (q := 8) (by decide) (by decide) (by decide), dec_step (p := 9308) (q := 1) (by decide) (by decide) (by decide), dec_step (p := 930) (q := 8) (by decide) (by decide) (by decide), dec_step (p := 93) (q := 0) (by decide) (by decide) (by decide), dec_step (p := 9) (q := 3) (by decide) (by decide) (by decide), dec_small (by decide)]
  decide
theorem itoa_0 : Go.Lib.itoa 0 = [48] := by
  rw [show (0 : Int) = ((0 : Nat) : Int) from rfl, itoa_nat, dec_small (by decide)]; decide
theorem itoa_1 : Go.Lib.itoa 1 = [49] := by
  rw [show (1 : Int) = ((1 : Nat) : Int) from rfl, itoa_nat, dec_small (by decide)]; decide
theorem no_ex : noH 1 (noS 0 1 [97]) = 930818648 := by
  unfold noS
  rw [itoa_0, itoa_1]
  decide +kernel
theorem no_exE : noE 0 1 0 [97] = 0 ∧ noE 0 1 930818648 [97] = 0 := by decide +kernel
theorem no_exW : strB (noW 0 1 930818648 [97]) = ⟨#[48, 32, 49, 32, 57, 51, 48, 56, 49, 56, 54, 52, 56, 32, 97]⟩ := by
  unfold noW
  rw [itoa_0, itoa_1, show (930818648 : Int) = ((930818648 : Nat) : Int) from rfl, itoa_nat, dec_ex]
  rfl
theorem c_noticeWorks (w : World) (hT : NTab w) : Calls Tryd.prog 11 #[] w fun e w' => e = .returned (.bool true) ∧ Below w.heap.size w w' := by
  have hs := fun w1 h => c_Sign_ok 1 0 1 ⟨#[97]⟩ 0 w1 h (by decide) no_exE.1 (by decide)
  rw [show noH 1 (noS 0 1 (⟨#[97]⟩ : ByteArray).data.toList) = 930818648 from no_ex] at hs
  have HS := Lib.hid hs
  have hw := fun w1 h => c_Write_ok 0 1 ⟨#[97]⟩ 930818648 w1 h (by decide) no_exE.2
  rw [show strB (noW 0 1 930818648 (⟨#[97]⟩ : ByteArray).data.toList) = _ from no_exW] at hw
  have HW := Lib.hid hw
  have HT := Lib.hid hT
  clear hs hw hT
  have hgen := sgen; have hgen2 := sgen2; have hgen3 := sgen3; go_enter Tryd.func11, Tryd.ntmps11
  go_wp2_with (first | (go_at_call 12; (with_reducible refine (HS.out _ (HT.out.below (by exact belz))).mono ?_); rintro e w1 ⟨rfl, hb⟩; have hz := hb.size; (try simp only [szA, szS, szD, szN] at hz); (try (refine bcB (n := w.heap.size) hb ?_; intro h_w_0 e_w_0 d_w_0 _ _))) | (go_at_call 17; (with_reducible refine (HW.out _ (HT.out.below (by exact belz))).mono ?_); rintro e w2 ⟨rfl, hb⟩; have hz := hb.size; (try simp only [szA, szS, szD, szN] at hz); (try (refine bcB (n := w.heap.size) hb ?_; intro h_w_0 e_w_0 d_w_0 _ _)); (try (refine bcB (n := w1.heap.size) hb ?_; intro h_w1_0 e_w1_0 d_w1_0 _ _))))
  go_ret
  refine ⟨rfl, ?_⟩
  exact belz
end Go.Proofs.YtbcehnhiedbbbaaDoor
