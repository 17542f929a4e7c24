/- The walk through the law NoticeWrites. -/
import Derived.Test.YtbcehnhiedbbbaaDoorWalkNoR
set_option linter.unusedVariables false
set_option linter.unusedSimpArgs false
namespace Go.Proofs.YtbcehnhiedbbbaaDoor
open Go.RowKit
theorem walk_nW_bad (a n : Int) (T : ByteArray) (s : Int) (w : World) (hT : NTab w) (hsz : T.size ≤ 9223372036854775807) (hx : noE a n s T.data.toList ≠ 0) : Calls Tryd.prog 4 #[.agg #[.int .i64 a, .int .i64 n, .string T, .int .i64 s]] w fun e w' => e = .returned (.bool true) ∧ Below w.heap.size w w' := by
  have HS := Lib.hid (fun w1 (_ : NTab w1) => c_Write_bad a n T s w1 hsz hx)
  have HE := Lib.hid (fun w1 => c_nErr a n T s w1 hsz)
  have HT := Lib.hid hT
  have gx : (noE a n s T.data.toList == 0) = false := by simpa using hx
  have gx2 : (noE a n s T.data.toList != 0) = true := by simpa using hx
  clear hx hT
  generalize noE a n s T.data.toList = x at *
  have hgen := sgen; have hgen2 := sgen2; have hgen3 := sgen3; go_enter Tryd.func4, Tryd.ntmps4
  go_wp2_with (first | (go_at_call 11; (with_reducible refine (c_noticeWorks _ (HT.out.below (by exact belz))).mono ?_); rintro e w1 ⟨rfl, hb⟩; have hz := hb.size; (try simp only [szA, szS, szD, szN] at hz); (try (refine bcB (n := w.heap.size) hb ?_; intro h_w_0 e_w_0 d_w_0 _ _))) | (go_at_call 17; (with_reducible refine (HS.out _ (HT.out.below (by exact belz))).mono ?_); rintro e w2 ⟨rfl, hb⟩; have hz := hb.size; (try simp only [szA, szS, szD, szN] at hz); (try (refine bcB (n := w.heap.size) hb ?_; intro h_w_0 e_w_0 d_w_0 _ _))) | (go_at_call 14; (with_reducible refine (HE.out _).mono ?_); rintro e w3 ⟨rfl, hb⟩; have hz := hb.size; (try simp only [szA, szS, szD, szN] at hz); (try (refine bcB (n := w.heap.size) hb ?_; intro h_w_0 e_w_0 d_w_0 _ _))))
  go_ret
  refine ⟨rfl, ?_⟩
  exact belz
set_option maxRecDepth 100000 in
set_option maxHeartbeats 8000000 in
theorem walk_nW_ok (a n : Int) (T : ByteArray) (s : Int) (w : World) (hT : NTab w) (hM : NMx w) (hsz : T.size ≤ 9223372036854775807) (hx : noE a n s T.data.toList = 0) : Calls Tryd.prog 4 #[.agg #[.int .i64 a, .int .i64 n, .string T, .int .i64 s]] w fun e w' => e = .returned (.bool true) ∧ Below w.heap.size w w' := by
  obtain ⟨a0, a1, n0, n1, s0, s1, l1, -⟩ := noE_ok hx
  have el := str_len T
  have HS := Lib.hid (fun w1 h => c_Write_ok a n T s w1 h hsz hx)
  have hE := fun w1 => c_nErr a n T s w1 hsz
  rw [hx] at hE
  have HE := Lib.hid hE
  have HR := Lib.hid (fun w1 h h2 => c_Read_ok a n T s w1 h h2 hx)
  have HT := Lib.hid hT
  have HM := Lib.hid hM
  have HA := Lib.hid (fun w1 => c_DigitsI a w1 (by omega) (by omega))
  have HB := Lib.hid (fun w1 => c_DigitsI n w1 (by omega) (by omega))
  have HC := Lib.hid (fun w1 => c_DigitsI s w1 (by omega) (by omega))
  have la := Go.Lib.itoa_length_le a (by omega) (by omega)
  have lb := Go.Lib.itoa_length_le n (by omega) (by omega)
  have lc := Go.Lib.itoa_length_le s (by omega) (by omega)
  have hS : noW a n s T.data.toList = Go.Lib.itoa a ++ [32] ++ Go.Lib.itoa n ++ [32] ++ Go.Lib.itoa s ++ [32] ++ T.data.toList := rfl
  obtain ⟨x1, x2, x3, x4, x5, x6⟩ := write_steps (ia := Go.Lib.itoa a) (ib := Go.Lib.itoa n) (ic := Go.Lib.itoa s) (l := T.data.toList) la lb lc (by omega)
  rw [strB_of, ← hS] at x6
  clear hS hT hM la lb lc hE hx
  generalize strB (noW a n s T.data.toList) = S at *
  generalize strB (Go.Lib.itoa a) = A1 at *
  generalize strB (Go.Lib.itoa n) = B1 at *
  generalize strB (Go.Lib.itoa s) = C1 at *
  generalize strB (Go.Lib.itoa a ++ [32]) = A2 at *
  generalize strB (Go.Lib.itoa a ++ [32] ++ Go.Lib.itoa n) = A3 at *
  generalize strB (Go.Lib.itoa a ++ [32] ++ Go.Lib.itoa n ++ [32]) = A4 at *
  generalize strB (Go.Lib.itoa a ++ [32] ++ Go.Lib.itoa n ++ [32] ++ Go.Lib.itoa s) = A5 at *
  generalize strB (Go.Lib.itoa a ++ [32] ++ Go.Lib.itoa n ++ [32] ++ Go.Lib.itoa s ++ [32]) = A6 at *
  have hgen := sgen; have hgen2 := sgen2; have hgen3 := sgen3; go_enter Tryd.func4, Tryd.ntmps4
  go_upto_region 8 with (first | (go_at_call 11; (with_reducible refine (c_noticeWorks _ (HT.out.below (by exact belz))).mono ?_); rintro e w1 ⟨rfl, hb⟩; have hz := hb.size; (try simp only [szA, szS, szD, szN] at hz); (try (refine bcB (n := w.heap.size) hb ?_; intro h_w_0 e_w_0 d_w_0 _ _))) | (go_at_call 17; (with_reducible refine (HS.out _ (HT.out.below (by exact belz))).mono ?_); rintro e w2 ⟨rfl, hb⟩; have hz := hb.size; (try simp only [szA, szS, szD, szN] at hz); (try (refine bcB (n := w.heap.size) hb ?_; intro h_w_0 e_w_0 d_w_0 _ _))) | (go_at_call 14; (with_reducible refine (HE.out _).mono ?_); rintro e w3 ⟨rfl, hb⟩; have hz := hb.size; (try simp only [szA, szS, szD, szN] at hz); (try (refine bcB (n := w.heap.size) hb ?_; intro h_w_0 e_w_0 d_w_0 _ _))) | (go_at_call 18; (with_reducible refine (HR.out _ (HT.out.below (by exact belz)) (HM.out.below (by exact belz))).mono ?_); rintro e w4 ⟨rfl, hb⟩; have hz := hb.size; (try simp only [szA, szS, szD, szN] at hz); (try (refine bcB (n := w.heap.size) hb ?_; intro h_w_0 e_w_0 d_w_0 _ _))))
  go_region_held3 (fun w' => w'.cell? ⟨w.heap.size, 0, none⟩ = some (.int .i64 a) ∧ w'.cell? ⟨w.heap.size, 1, none⟩ = some (.int .i64 n) ∧ w'.cell? ⟨w.heap.size, 2, none⟩ = some (.string T) ∧ w'.cell? ⟨w.heap.size, 3, none⟩ = some (.int .i64 s) ∧ w'.cell? ⟨w4.heap.size, 0, none⟩ = some (.int .i64 a) ∧ w'.cell? ⟨w4.heap.size, 1, none⟩ = some (.int .i64 n) ∧ w'.cell? ⟨w4.heap.size, 2, none⟩ = some (.string T) ∧ w'.cell? ⟨w4.heap.size, 3, none⟩ = some (.int .i64 s)) (refine ⟨?_, ?_, ?_, ?_, ?_, ?_, ?_, ?_⟩ <;> (first | (go_simp; done) | go_keep)) (first | (go_at_call 19; (with_reducible refine (HA.out _).mono ?_); rintro e w5 ⟨rfl, hb⟩; have hz := hb.size; (try simp only [szA, szS, szD, szN] at hz); (try (refine bcB (n := w.heap.size) hb ?_; intro h_w_0 e_w_0 d_w_0 _ _)); (try (refine bcB (n := w4.heap.size) hb ?_; intro h_w4_0 e_w4_0 d_w4_0 _ _))) | (go_at_call 19; (with_reducible refine (HB.out _).mono ?_); rintro e w6 ⟨rfl, hb⟩; have hz := hb.size; (try simp only [szA, szS, szD, szN] at hz); (try (refine bcB (n := w.heap.size) hb ?_; intro h_w_0 e_w_0 d_w_0 _ _)); (try (refine bcB (n := w4.heap.size) hb ?_; intro h_w4_0 e_w4_0 d_w4_0 _ _)); (try (refine bcB (n := w5.heap.size) hb ?_; intro h_w5_0 e_w5_0 d_w5_0 _ _))) | (go_at_call 19; (with_reducible refine (HC.out _).mono ?_); rintro e w7 ⟨rfl, hb⟩; have hz := hb.size; (try simp only [szA, szS, szD, szN] at hz); (try (refine bcB (n := w.heap.size) hb ?_; intro h_w_0 e_w_0 d_w_0 _ _)); (try (refine bcB (n := w4.heap.size) hb ?_; intro h_w4_0 e_w4_0 d_w4_0 _ _)); (try (refine bcB (n := w5.heap.size) hb ?_; intro h_w5_0 e_w5_0 d_w5_0 _ _)); (try (refine bcB (n := w6.heap.size) hb ?_; intro h_w6_0 e_w6_0 d_w6_0 _ _))))
  all_goals go_wp2
  all_goals go_ret
  all_goals refine ⟨rfl, ?_⟩
  all_goals exact belz
theorem walk_NoticeWrites (a n : Int) (T : ByteArray) (s : Int) (w : World) (hT : NTab w) (hM : NMx w) (hsz : T.size ≤ 9223372036854775807) : Calls Tryd.prog 4 #[.agg #[.int .i64 a, .int .i64 n, .string T, .int .i64 s]] w fun e w' => e = .returned (.bool true) ∧ Below w.heap.size w w' := by
  by_cases hx : noE a n s T.data.toList = 0
  · exact walk_nW_ok a n T s w hT hM hsz hx
  · exact walk_nW_bad a n T s w hT hsz hx
end Go.Proofs.YtbcehnhiedbbbaaDoor
