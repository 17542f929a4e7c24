/- The walk through the law NoticeSigns. -/
import Derived.Test.YtbcehnhiedbbbaaDoorWalkNo7
set_option linter.unusedVariables false
set_option linter.unusedSimpArgs false
namespace Go.Proofs.YtbcehnhiedbbbaaDoor
open Go.RowKit
theorem noE_sum {a n s : Int} {l : List UInt8} (h : noE a n s l = 0) : noE a n 0 l = 0 := by
  obtain ⟨a0, a1, n0, n1, s0, s1, l1, l2⟩ := noE_ok h
  unfold noE
  rw [if_neg (by omega), if_neg (by omega), if_neg (by rw [l2]; decide)]
theorem keyB_f {key : Int} (h : keyB key = false) : (key < 1) ∨ (¬ key < 1 ∧ 1000000000 < key) := by
  unfold keyB at h
  by_cases h1 : 1 ≤ key
  · by_cases h2 : key ≤ 1000000000
    · rw [decide_eq_true h1, decide_eq_true h2] at h; cases h
    · exact .inr ⟨by omega, by omega⟩
  · exact .inl (by omega)
set_option maxHeartbeats 4000000 in
theorem walk_nS_Aa (key a n : Int) (T : ByteArray) (s : Int) (w : World) (hT : NTab w) (hsz : T.size ≤ 9223372036854775807) (hx : noE a n s T.data.toList ≠ 0) (hy : noE a n 0 T.data.toList ≠ 0) : Calls Tryd.prog 3 #[.int .i64 key, .agg #[.int .i64 a, .int .i64 n, .string T, .int .i64 s]] w fun e w' => e = .returned (.bool true) ∧ Below w.heap.size w w' := by
  have hE := fun w1 => c_nErr a n T s w1 hsz
  have hC := fun w1 => c_nCheck a n T s w1 hsz
  have hF := fun w1 => c_nErr a n T 0 w1 hsz
  have HT := Lib.hid hT
  have HR := Lib.hid (fun w1 (_ : NTab w1) => c_Right_bad key a n T s w1 hsz hx)
  have gx : (noE a n s T.data.toList == 0) = false := by simpa using hx
  have gx2 : (noE a n s T.data.toList != 0) = true := by simpa using hx
  have HS := Lib.hid (fun w1 (_ : NTab w1) => c_Sign_bad key a n T s w1 hsz hy)
  have gy : (noE a n 0 T.data.toList == 0) = false := by simpa using hy
  have gy2 : (noE a n 0 T.data.toList != 0) = true := by simpa using hy
  have HE := Lib.hid hE
  have HC := Lib.hid hC
  have HF := Lib.hid hF
  clear hE hC hF hx hy hT
  generalize noE a n s T.data.toList = x1 at *
  generalize noE a n 0 T.data.toList = x2 at *
  have hgen := sgen; have hgen2 := sgen2; have hgen3 := sgen3; go_enter Tryd.func3, Tryd.ntmps3
  go_wp2_with (first | (go_at_call 11; (with_reducible refine (c_noticeWorks _ (HT.out.below (by exact belz))).mono ?_); rintro e w1 ⟨rfl, hb⟩; have hz := hb.size; (try simp only [szA, szS, szD, szN] at hz); (try (refine bcB (n := w.heap.size) hb ?_; intro h_w_0 e_w_0 d_w_0 _ _))) | (go_at_call 12; (with_reducible refine (HS.out _ (HT.out.below (by exact belz))).mono ?_); rintro e w2 ⟨rfl, hb⟩; have hz := hb.size; (try simp only [szA, szS, szD, szN] at hz); (try (refine bcB (n := w.heap.size) hb ?_; intro h_w_0 e_w_0 d_w_0 _ _)); (try (refine bcB (n := w1.heap.size) hb ?_; intro h_w1_0 e_w1_0 d_w1_0 _ _))) | (go_at_call 13; (with_reducible refine (HR.out _ (HT.out.below (by exact belz))).mono ?_); rintro e w3 ⟨rfl, hb⟩; have hz := hb.size; (try simp only [szA, szS, szD, szN] at hz); (try (refine bcB (n := w.heap.size) hb ?_; intro h_w_0 e_w_0 d_w_0 _ _)); (try (refine bcB (n := w2.heap.size) hb ?_; intro h_w2_0 e_w2_0 d_w2_0 _ _))) | (go_at_call 14; (with_reducible refine (HE.out _).mono ?_); rintro e w4 ⟨rfl, hb⟩; have hz := hb.size; (try simp only [szA, szS, szD, szN] at hz); (try (refine bcB (n := w.heap.size) hb ?_; intro h_w_0 e_w_0 d_w_0 _ _)); (try (refine bcB (n := w2.heap.size) hb ?_; intro h_w2_0 e_w2_0 d_w2_0 _ _))) | (go_at_call 15; (with_reducible refine (HC.out _).mono ?_); rintro e w5 ⟨rfl, hb⟩; have hz := hb.size; (try simp only [szA, szS, szD, szN] at hz); (try (refine bcB (n := w.heap.size) hb ?_; intro h_w_0 e_w_0 d_w_0 _ _)); (try (refine bcB (n := w2.heap.size) hb ?_; intro h_w2_0 e_w2_0 d_w2_0 _ _))) | (go_at_call 14; (with_reducible refine (HF.out _).mono ?_); rintro e w6 ⟨rfl, hb⟩; have hz := hb.size; (try simp only [szA, szS, szD, szN] at hz); (try (refine bcB (n := w.heap.size) hb ?_; intro h_w_0 e_w_0 d_w_0 _ _)); (try (refine bcB (n := w2.heap.size) hb ?_; intro h_w2_0 e_w2_0 d_w2_0 _ _))))
  go_ret
  refine ⟨rfl, ?_⟩
  exact belz
set_option maxHeartbeats 4000000 in
theorem walk_nS_Ab (key a n : Int) (T : ByteArray) (s : Int) (w : World) (hT : NTab w) (hsz : T.size ≤ 9223372036854775807) (hx : noE a n s T.data.toList ≠ 0) (hy : noE a n 0 T.data.toList = 0) (hk : keyB key = false) : Calls Tryd.prog 3 #[.int .i64 key, .agg #[.int .i64 a, .int .i64 n, .string T, .int .i64 s]] w fun e w' => e = .returned (.bool true) ∧ Below w.heap.size w w' := by
  have hE := fun w1 => c_nErr a n T s w1 hsz
  have hC := fun w1 => c_nCheck a n T s w1 hsz
  have hF := fun w1 => c_nErr a n T 0 w1 hsz
  have HT := Lib.hid hT
  have HR := Lib.hid (fun w1 (_ : NTab w1) => c_Right_bad key a n T s w1 hsz hx)
  have gx : (noE a n s T.data.toList == 0) = false := by simpa using hx
  have gx2 : (noE a n s T.data.toList != 0) = true := by simpa using hx
  have HS := Lib.hid (fun w1 (_ : NTab w1) => c_Sign_key key a n T s w1 hsz hy hk)
  rw [hy] at hF
  have HE := Lib.hid hE
  have HC := Lib.hid hC
  have HF := Lib.hid hF
  have hkk := keyB_f hk
  clear hE hC hF hx hy hT hk
  generalize noE a n s T.data.toList = x1 at *
  rcases hkk with hk1 | ⟨hk1, hk2⟩
  · have D1 := decide_eq_true hk1
    have hgen := sgen; have hgen2 := sgen2; have hgen3 := sgen3; go_enter Tryd.func3, Tryd.ntmps3
    go_wp2_with (first | (go_at_call 11; (with_reducible refine (c_noticeWorks _ (HT.out.below (by exact belz))).mono ?_); rintro e w1 ⟨rfl, hb⟩; have hz := hb.size; (try simp only [szA, szS, szD, szN] at hz); (try (refine bcB (n := w.heap.size) hb ?_; intro h_w_0 e_w_0 d_w_0 _ _))) | (go_at_call 12; (with_reducible refine (HS.out _ (HT.out.below (by exact belz))).mono ?_); rintro e w2 ⟨rfl, hb⟩; have hz := hb.size; (try simp only [szA, szS, szD, szN] at hz); (try (refine bcB (n := w.heap.size) hb ?_; intro h_w_0 e_w_0 d_w_0 _ _)); (try (refine bcB (n := w1.heap.size) hb ?_; intro h_w1_0 e_w1_0 d_w1_0 _ _))) | (go_at_call 13; (with_reducible refine (HR.out _ (HT.out.below (by exact belz))).mono ?_); rintro e w3 ⟨rfl, hb⟩; have hz := hb.size; (try simp only [szA, szS, szD, szN] at hz); (try (refine bcB (n := w.heap.size) hb ?_; intro h_w_0 e_w_0 d_w_0 _ _)); (try (refine bcB (n := w2.heap.size) hb ?_; intro h_w2_0 e_w2_0 d_w2_0 _ _))) | (go_at_call 14; (with_reducible refine (HE.out _).mono ?_); rintro e w4 ⟨rfl, hb⟩; have hz := hb.size; (try simp only [szA, szS, szD, szN] at hz); (try (refine bcB (n := w.heap.size) hb ?_; intro h_w_0 e_w_0 d_w_0 _ _)); (try (refine bcB (n := w2.heap.size) hb ?_; intro h_w2_0 e_w2_0 d_w2_0 _ _))) | (go_at_call 15; (with_reducible refine (HC.out _).mono ?_); rintro e w5 ⟨rfl, hb⟩; have hz := hb.size; (try simp only [szA, szS, szD, szN] at hz); (try (refine bcB (n := w.heap.size) hb ?_; intro h_w_0 e_w_0 d_w_0 _ _)); (try (refine bcB (n := w2.heap.size) hb ?_; intro h_w2_0 e_w2_0 d_w2_0 _ _))) | (go_at_call 14; (with_reducible refine (HF.out _).mono ?_); rintro e w6 ⟨rfl, hb⟩; have hz := hb.size; (try simp only [szA, szS, szD, szN] at hz); (try (refine bcB (n := w.heap.size) hb ?_; intro h_w_0 e_w_0 d_w_0 _ _)); (try (refine bcB (n := w2.heap.size) hb ?_; intro h_w2_0 e_w2_0 d_w2_0 _ _))))
    go_ret
    refine ⟨rfl, ?_⟩
    exact belz
  · have D1 := decide_eq_false hk1
    have D2 := decide_eq_true hk2
    have hgen := sgen; have hgen2 := sgen2; have hgen3 := sgen3; go_enter Tryd.func3, Tryd.ntmps3
    go_wp2_with (first | (go_at_call 11; (with_reducible refine (c_noticeWorks _ (HT.out.below (by exact belz))).mono ?_); rintro e w1 ⟨rfl, hb⟩; have hz := hb.size; (try simp only [szA, szS, szD, szN] at hz); (try (refine bcB (n := w.heap.size) hb ?_; intro h_w_0 e_w_0 d_w_0 _ _))) | (go_at_call 12; (with_reducible refine (HS.out _ (HT.out.below (by exact belz))).mono ?_); rintro e w2 ⟨rfl, hb⟩; have hz := hb.size; (try simp only [szA, szS, szD, szN] at hz); (try (refine bcB (n := w.heap.size) hb ?_; intro h_w_0 e_w_0 d_w_0 _ _)); (try (refine bcB (n := w1.heap.size) hb ?_; intro h_w1_0 e_w1_0 d_w1_0 _ _))) | (go_at_call 13; (with_reducible refine (HR.out _ (HT.out.below (by exact belz))).mono ?_); rintro e w3 ⟨rfl, hb⟩; have hz := hb.size; (try simp only [szA, szS, szD, szN] at hz); (try (refine bcB (n := w.heap.size) hb ?_; intro h_w_0 e_w_0 d_w_0 _ _)); (try (refine bcB (n := w2.heap.size) hb ?_; intro h_w2_0 e_w2_0 d_w2_0 _ _))) | (go_at_call 14; (with_reducible refine (HE.out _).mono ?_); rintro e w4 ⟨rfl, hb⟩; have hz := hb.size; (try simp only [szA, szS, szD, szN] at hz); (try (refine bcB (n := w.heap.size) hb ?_; intro h_w_0 e_w_0 d_w_0 _ _)); (try (refine bcB (n := w2.heap.size) hb ?_; intro h_w2_0 e_w2_0 d_w2_0 _ _))) | (go_at_call 15; (with_reducible refine (HC.out _).mono ?_); rintro e w5 ⟨rfl, hb⟩; have hz := hb.size; (try simp only [szA, szS, szD, szN] at hz); (try (refine bcB (n := w.heap.size) hb ?_; intro h_w_0 e_w_0 d_w_0 _ _)); (try (refine bcB (n := w2.heap.size) hb ?_; intro h_w2_0 e_w2_0 d_w2_0 _ _))) | (go_at_call 14; (with_reducible refine (HF.out _).mono ?_); rintro e w6 ⟨rfl, hb⟩; have hz := hb.size; (try simp only [szA, szS, szD, szN] at hz); (try (refine bcB (n := w.heap.size) hb ?_; intro h_w_0 e_w_0 d_w_0 _ _)); (try (refine bcB (n := w2.heap.size) hb ?_; intro h_w2_0 e_w2_0 d_w2_0 _ _))))
    go_ret
    refine ⟨rfl, ?_⟩
    exact belz
set_option maxHeartbeats 4000000 in
theorem walk_nS_Ac (key a n : Int) (T : ByteArray) (s : Int) (w : World) (hT : NTab w) (hsz : T.size ≤ 9223372036854775807) (hx : noE a n s T.data.toList ≠ 0) (hy : noE a n 0 T.data.toList = 0) (hk : keyB key = true) : Calls Tryd.prog 3 #[.int .i64 key, .agg #[.int .i64 a, .int .i64 n, .string T, .int .i64 s]] w fun e w' => e = .returned (.bool true) ∧ Below w.heap.size w w' := by
  have hE := fun w1 => c_nErr a n T s w1 hsz
  have hC := fun w1 => c_nCheck a n T s w1 hsz
  have hF := fun w1 => c_nErr a n T 0 w1 hsz
  have HT := Lib.hid hT
  have HR := Lib.hid (fun w1 (_ : NTab w1) => c_Right_bad key a n T s w1 hsz hx)
  have gx : (noE a n s T.data.toList == 0) = false := by simpa using hx
  have gx2 : (noE a n s T.data.toList != 0) = true := by simpa using hx
  have HS := Lib.hid (fun w1 h => c_Sign_ok key a n T s w1 h hsz hy hk)
  rw [hy] at hF
  obtain ⟨a0, a1, n0, n1, -, -, l1, -⟩ := noE_ok hy
  obtain ⟨k0, k1⟩ := keyB_t hk
  have el := str_len T
  have HU := Lib.hid (fun w1 => c_rSum key a n T 0 w1 (by omega) k1 a0 a1 n0 n1 (by omega))
  have D1 : decide (key < 1) = false := decide_eq_false (by omega)
  have D2 : decide (1000000000 < key) = false := decide_eq_false (by omega)
  have HE := Lib.hid hE
  have HC := Lib.hid hC
  have HF := Lib.hid hF
  clear hE hC hF hx hy hT hk
  generalize noE a n s T.data.toList = x1 at *
  generalize noH key (noS a n T.data.toList) = h at *
  have hgen := sgen; have hgen2 := sgen2; have hgen3 := sgen3; go_enter Tryd.func3, Tryd.ntmps3
  go_wp2_with (first | (go_at_call 11; (with_reducible refine (c_noticeWorks _ (HT.out.below (by exact belz))).mono ?_); rintro e w1 ⟨rfl, hb⟩; have hz := hb.size; (try simp only [szA, szS, szD, szN] at hz); (try (refine bcB (n := w.heap.size) hb ?_; intro h_w_0 e_w_0 d_w_0 _ _))) | (go_at_call 12; (with_reducible refine (HS.out _ (HT.out.below (by exact belz))).mono ?_); rintro e w2 ⟨rfl, hb⟩; have hz := hb.size; (try simp only [szA, szS, szD, szN] at hz); (try (refine bcB (n := w.heap.size) hb ?_; intro h_w_0 e_w_0 d_w_0 _ _)); (try (refine bcB (n := w1.heap.size) hb ?_; intro h_w1_0 e_w1_0 d_w1_0 _ _))) | (go_at_call 13; (with_reducible refine (HR.out _ (HT.out.below (by exact belz))).mono ?_); rintro e w3 ⟨rfl, hb⟩; have hz := hb.size; (try simp only [szA, szS, szD, szN] at hz); (try (refine bcB (n := w.heap.size) hb ?_; intro h_w_0 e_w_0 d_w_0 _ _)); (try (refine bcB (n := w2.heap.size) hb ?_; intro h_w2_0 e_w2_0 d_w2_0 _ _))) | (go_at_call 14; (with_reducible refine (HE.out _).mono ?_); rintro e w4 ⟨rfl, hb⟩; have hz := hb.size; (try simp only [szA, szS, szD, szN] at hz); (try (refine bcB (n := w.heap.size) hb ?_; intro h_w_0 e_w_0 d_w_0 _ _)); (try (refine bcB (n := w2.heap.size) hb ?_; intro h_w2_0 e_w2_0 d_w2_0 _ _))) | (go_at_call 15; (with_reducible refine (HC.out _).mono ?_); rintro e w5 ⟨rfl, hb⟩; have hz := hb.size; (try simp only [szA, szS, szD, szN] at hz); (try (refine bcB (n := w.heap.size) hb ?_; intro h_w_0 e_w_0 d_w_0 _ _)); (try (refine bcB (n := w2.heap.size) hb ?_; intro h_w2_0 e_w2_0 d_w2_0 _ _))) | (go_at_call 14; (with_reducible refine (HF.out _).mono ?_); rintro e w6 ⟨rfl, hb⟩; have hz := hb.size; (try simp only [szA, szS, szD, szN] at hz); (try (refine bcB (n := w.heap.size) hb ?_; intro h_w_0 e_w_0 d_w_0 _ _)); (try (refine bcB (n := w2.heap.size) hb ?_; intro h_w2_0 e_w2_0 d_w2_0 _ _))) | (go_at_call 16; (with_reducible refine (HU.out _).mono ?_); rintro e w7 ⟨rfl, hb⟩; have hz := hb.size; (try simp only [szA, szS, szD, szN] at hz); (try (refine bcB (n := w.heap.size) hb ?_; intro h_w_0 e_w_0 d_w_0 _ _)); (try (refine bcB (n := w2.heap.size) hb ?_; intro h_w2_0 e_w2_0 d_w2_0 _ _))))
  go_ret
  refine ⟨rfl, ?_⟩
  exact belz
set_option maxHeartbeats 4000000 in
theorem walk_nS_Bb (key a n : Int) (T : ByteArray) (s : Int) (w : World) (hT : NTab w) (hsz : T.size ≤ 9223372036854775807) (hx : noE a n s T.data.toList = 0) (hy : noE a n 0 T.data.toList = 0) (hk : keyB key = false) : Calls Tryd.prog 3 #[.int .i64 key, .agg #[.int .i64 a, .int .i64 n, .string T, .int .i64 s]] w fun e w' => e = .returned (.bool true) ∧ Below w.heap.size w w' := by
  have hE := fun w1 => c_nErr a n T s w1 hsz
  have hC := fun w1 => c_nCheck a n T s w1 hsz
  have hF := fun w1 => c_nErr a n T 0 w1 hsz
  have HT := Lib.hid hT
  have HR := Lib.hid (fun w1 (_ : NTab w1) => c_Right_key key a n T s w1 hsz hx hk)
  rw [hx] at hE hC
  have HS := Lib.hid (fun w1 (_ : NTab w1) => c_Sign_key key a n T s w1 hsz hy hk)
  rw [hy] at hF
  have HE := Lib.hid hE
  have HC := Lib.hid hC
  have HF := Lib.hid hF
  have hkk := keyB_f hk
  clear hE hC hF hx hy hT hk
  rcases hkk with hk1 | ⟨hk1, hk2⟩
  · have D1 := decide_eq_true hk1
    have hgen := sgen; have hgen2 := sgen2; have hgen3 := sgen3; go_enter Tryd.func3, Tryd.ntmps3
    go_wp2_with (first | (go_at_call 11; (with_reducible refine (c_noticeWorks _ (HT.out.below (by exact belz))).mono ?_); rintro e w1 ⟨rfl, hb⟩; have hz := hb.size; (try simp only [szA, szS, szD, szN] at hz); (try (refine bcB (n := w.heap.size) hb ?_; intro h_w_0 e_w_0 d_w_0 _ _))) | (go_at_call 12; (with_reducible refine (HS.out _ (HT.out.below (by exact belz))).mono ?_); rintro e w2 ⟨rfl, hb⟩; have hz := hb.size; (try simp only [szA, szS, szD, szN] at hz); (try (refine bcB (n := w.heap.size) hb ?_; intro h_w_0 e_w_0 d_w_0 _ _)); (try (refine bcB (n := w1.heap.size) hb ?_; intro h_w1_0 e_w1_0 d_w1_0 _ _))) | (go_at_call 13; (with_reducible refine (HR.out _ (HT.out.below (by exact belz))).mono ?_); rintro e w3 ⟨rfl, hb⟩; have hz := hb.size; (try simp only [szA, szS, szD, szN] at hz); (try (refine bcB (n := w.heap.size) hb ?_; intro h_w_0 e_w_0 d_w_0 _ _)); (try (refine bcB (n := w2.heap.size) hb ?_; intro h_w2_0 e_w2_0 d_w2_0 _ _))) | (go_at_call 14; (with_reducible refine (HE.out _).mono ?_); rintro e w4 ⟨rfl, hb⟩; have hz := hb.size; (try simp only [szA, szS, szD, szN] at hz); (try (refine bcB (n := w.heap.size) hb ?_; intro h_w_0 e_w_0 d_w_0 _ _)); (try (refine bcB (n := w2.heap.size) hb ?_; intro h_w2_0 e_w2_0 d_w2_0 _ _))) | (go_at_call 15; (with_reducible refine (HC.out _).mono ?_); rintro e w5 ⟨rfl, hb⟩; have hz := hb.size; (try simp only [szA, szS, szD, szN] at hz); (try (refine bcB (n := w.heap.size) hb ?_; intro h_w_0 e_w_0 d_w_0 _ _)); (try (refine bcB (n := w2.heap.size) hb ?_; intro h_w2_0 e_w2_0 d_w2_0 _ _))) | (go_at_call 14; (with_reducible refine (HF.out _).mono ?_); rintro e w6 ⟨rfl, hb⟩; have hz := hb.size; (try simp only [szA, szS, szD, szN] at hz); (try (refine bcB (n := w.heap.size) hb ?_; intro h_w_0 e_w_0 d_w_0 _ _)); (try (refine bcB (n := w2.heap.size) hb ?_; intro h_w2_0 e_w2_0 d_w2_0 _ _))))
    go_ret
    refine ⟨rfl, ?_⟩
    exact belz
  · have D1 := decide_eq_false hk1
    have D2 := decide_eq_true hk2
    have hgen := sgen; have hgen2 := sgen2; have hgen3 := sgen3; go_enter Tryd.func3, Tryd.ntmps3
    go_wp2_with (first | (go_at_call 11; (with_reducible refine (c_noticeWorks _ (HT.out.below (by exact belz))).mono ?_); rintro e w1 ⟨rfl, hb⟩; have hz := hb.size; (try simp only [szA, szS, szD, szN] at hz); (try (refine bcB (n := w.heap.size) hb ?_; intro h_w_0 e_w_0 d_w_0 _ _))) | (go_at_call 12; (with_reducible refine (HS.out _ (HT.out.below (by exact belz))).mono ?_); rintro e w2 ⟨rfl, hb⟩; have hz := hb.size; (try simp only [szA, szS, szD, szN] at hz); (try (refine bcB (n := w.heap.size) hb ?_; intro h_w_0 e_w_0 d_w_0 _ _)); (try (refine bcB (n := w1.heap.size) hb ?_; intro h_w1_0 e_w1_0 d_w1_0 _ _))) | (go_at_call 13; (with_reducible refine (HR.out _ (HT.out.below (by exact belz))).mono ?_); rintro e w3 ⟨rfl, hb⟩; have hz := hb.size; (try simp only [szA, szS, szD, szN] at hz); (try (refine bcB (n := w.heap.size) hb ?_; intro h_w_0 e_w_0 d_w_0 _ _)); (try (refine bcB (n := w2.heap.size) hb ?_; intro h_w2_0 e_w2_0 d_w2_0 _ _))) | (go_at_call 14; (with_reducible refine (HE.out _).mono ?_); rintro e w4 ⟨rfl, hb⟩; have hz := hb.size; (try simp only [szA, szS, szD, szN] at hz); (try (refine bcB (n := w.heap.size) hb ?_; intro h_w_0 e_w_0 d_w_0 _ _)); (try (refine bcB (n := w2.heap.size) hb ?_; intro h_w2_0 e_w2_0 d_w2_0 _ _))) | (go_at_call 15; (with_reducible refine (HC.out _).mono ?_); rintro e w5 ⟨rfl, hb⟩; have hz := hb.size; (try simp only [szA, szS, szD, szN] at hz); (try (refine bcB (n := w.heap.size) hb ?_; intro h_w_0 e_w_0 d_w_0 _ _)); (try (refine bcB (n := w2.heap.size) hb ?_; intro h_w2_0 e_w2_0 d_w2_0 _ _))) | (go_at_call 14; (with_reducible refine (HF.out _).mono ?_); rintro e w6 ⟨rfl, hb⟩; have hz := hb.size; (try simp only [szA, szS, szD, szN] at hz); (try (refine bcB (n := w.heap.size) hb ?_; intro h_w_0 e_w_0 d_w_0 _ _)); (try (refine bcB (n := w2.heap.size) hb ?_; intro h_w2_0 e_w2_0 d_w2_0 _ _))))
    go_ret
    refine ⟨rfl, ?_⟩
    exact belz
set_option maxHeartbeats 4000000 in
theorem walk_nS_Cc (key a n : Int) (T : ByteArray) (s : Int) (w : World) (hT : NTab w) (hsz : T.size ≤ 9223372036854775807) (hx : noE a n s T.data.toList = 0) (hy : noE a n 0 T.data.toList = 0) (hk : keyB key = true) : Calls Tryd.prog 3 #[.int .i64 key, .agg #[.int .i64 a, .int .i64 n, .string T, .int .i64 s]] w fun e w' => e = .returned (.bool true) ∧ Below w.heap.size w w' := by
  have hE := fun w1 => c_nErr a n T s w1 hsz
  have hC := fun w1 => c_nCheck a n T s w1 hsz
  have hF := fun w1 => c_nErr a n T 0 w1 hsz
  have HT := Lib.hid hT
  have HR := Lib.hid (fun w1 h => c_Right_ok key a n T s w1 h hsz hx hk)
  rw [hx] at hE hC
  have HS := Lib.hid (fun w1 h => c_Sign_ok key a n T s w1 h hsz hy hk)
  rw [hy] at hF
  obtain ⟨a0, a1, n0, n1, -, -, l1, -⟩ := noE_ok hy
  obtain ⟨k0, k1⟩ := keyB_t hk
  have el := str_len T
  have HU := Lib.hid (fun w1 => c_rSum key a n T 0 w1 (by omega) k1 a0 a1 n0 n1 (by omega))
  have D1 : decide (key < 1) = false := decide_eq_false (by omega)
  have D2 : decide (1000000000 < key) = false := decide_eq_false (by omega)
  have HV := Lib.hid (fun w1 => c_rSum key a n T s w1 (by omega) k1 a0 a1 n0 n1 (by omega))
  have HE := Lib.hid hE
  have HC := Lib.hid hC
  have HF := Lib.hid hF
  clear hE hC hF hx hy hT hk
  generalize noH key (noS a n T.data.toList) = h at *
  have hb : ∃ b, (s == h) = b := ⟨_, rfl⟩
  obtain ⟨b, hb⟩ := hb
  rw [hb] at HR
  cases b
  all_goals
    have hgen := sgen; have hgen2 := sgen2; have hgen3 := sgen3; go_enter Tryd.func3, Tryd.ntmps3
    go_upto_region 13 with (first | (go_at_call 11; (with_reducible refine (c_noticeWorks _ (HT.out.below (by exact belz))).mono ?_); rintro e w1 ⟨rfl, hb⟩; have hz := hb.size; (try simp only [szA, szS, szD, szN] at hz); (try (refine bcB (n := w.heap.size) hb ?_; intro h_w_0 e_w_0 d_w_0 _ _))) | (go_at_call 12; (with_reducible refine (HS.out _ (HT.out.below (by exact belz))).mono ?_); rintro e w2 ⟨rfl, hb⟩; have hz := hb.size; (try simp only [szA, szS, szD, szN] at hz); (try (refine bcB (n := w.heap.size) hb ?_; intro h_w_0 e_w_0 d_w_0 _ _)); (try (refine bcB (n := w1.heap.size) hb ?_; intro h_w1_0 e_w1_0 d_w1_0 _ _))) | (go_at_call 13; (with_reducible refine (HR.out _ (HT.out.below (by exact belz))).mono ?_); rintro e w3 ⟨rfl, hb⟩; have hz := hb.size; (try simp only [szA, szS, szD, szN] at hz); (try (refine bcB (n := w.heap.size) hb ?_; intro h_w_0 e_w_0 d_w_0 _ _)); (try (refine bcB (n := w2.heap.size) hb ?_; intro h_w2_0 e_w2_0 d_w2_0 _ _))) | (go_at_call 14; (with_reducible refine (HE.out _).mono ?_); rintro e w4 ⟨rfl, hb⟩; have hz := hb.size; (try simp only [szA, szS, szD, szN] at hz); (try (refine bcB (n := w.heap.size) hb ?_; intro h_w_0 e_w_0 d_w_0 _ _)); (try (refine bcB (n := w2.heap.size) hb ?_; intro h_w2_0 e_w2_0 d_w2_0 _ _))) | (go_at_call 15; (with_reducible refine (HC.out _).mono ?_); rintro e w5 ⟨rfl, hb⟩; have hz := hb.size; (try simp only [szA, szS, szD, szN] at hz); (try (refine bcB (n := w.heap.size) hb ?_; intro h_w_0 e_w_0 d_w_0 _ _)); (try (refine bcB (n := w2.heap.size) hb ?_; intro h_w2_0 e_w2_0 d_w2_0 _ _))))
    go_region_held3 (fun w' => w'.cell? ⟨w.heap.size, 0, none⟩ = some (.int .i64 a) ∧ w'.cell? ⟨w.heap.size, 1, none⟩ = some (.int .i64 n) ∧ w'.cell? ⟨w.heap.size, 2, none⟩ = some (.string T) ∧ w'.cell? ⟨w.heap.size, 3, none⟩ = some (.int .i64 s) ∧ w'.cell? ⟨w2.heap.size, 0, none⟩ = some (.int .i64 a) ∧ w'.cell? ⟨w2.heap.size, 1, none⟩ = some (.int .i64 n) ∧ w'.cell? ⟨w2.heap.size, 2, none⟩ = some (.string T) ∧ w'.cell? ⟨w2.heap.size, 3, none⟩ = some (.int .i64 h)) (refine ⟨?_, ?_, ?_, ?_, ?_, ?_, ?_, ?_⟩ <;> (first | (go_simp; done) | go_keep)) (first | (go_at_call 16; (with_reducible refine (HV.out _).mono ?_); rintro e w8 ⟨rfl, hb⟩; have hz := hb.size; (try simp only [szA, szS, szD, szN] at hz); (try (refine bcB (n := w.heap.size) hb ?_; intro h_w_0 e_w_0 d_w_0 _ _)); (try (refine bcB (n := w2.heap.size) hb ?_; intro h_w2_0 e_w2_0 d_w2_0 _ _))))
    all_goals go_wp2_with (first | (go_at_call 14; (with_reducible refine (HF.out _).mono ?_); rintro e w6 ⟨rfl, hb⟩; have hz := hb.size; (try simp only [szA, szS, szD, szN] at hz); (try (refine bcB (n := w.heap.size) hb ?_; intro h_w_0 e_w_0 d_w_0 _ _)); (try (refine bcB (n := w2.heap.size) hb ?_; intro h_w2_0 e_w2_0 d_w2_0 _ _))) | (go_at_call 16; (with_reducible refine (HU.out _).mono ?_); rintro e w7 ⟨rfl, hb⟩; have hz := hb.size; (try simp only [szA, szS, szD, szN] at hz); (try (refine bcB (n := w.heap.size) hb ?_; intro h_w_0 e_w_0 d_w_0 _ _)); (try (refine bcB (n := w2.heap.size) hb ?_; intro h_w2_0 e_w2_0 d_w2_0 _ _))))
    all_goals go_ret
    all_goals refine ⟨rfl, ?_⟩
    all_goals exact belz
theorem walk_NoticeSigns (key a n : Int) (T : ByteArray) (s : Int) (w : World) (hT : NTab w) (hsz : T.size ≤ 9223372036854775807) : Calls Tryd.prog 3 #[.int .i64 key, .agg #[.int .i64 a, .int .i64 n, .string T, .int .i64 s]] w fun e w' => e = .returned (.bool true) ∧ Below w.heap.size w w' := by
  by_cases hx : noE a n s T.data.toList = 0
  · have hy := noE_sum hx
    cases hk : keyB key with
    | true => exact walk_nS_Cc key a n T s w hT hsz hx hy hk
    | false => exact walk_nS_Bb key a n T s w hT hsz hx hy hk
  · by_cases hy : noE a n 0 T.data.toList = 0
    · cases hk : keyB key with
      | true => exact walk_nS_Ac key a n T s w hT hsz hx hy hk
      | false => exact walk_nS_Ab key a n T s w hT hsz hx hy hk
    · exact walk_nS_Aa key a n T s w hT hsz hx hy
end Go.Proofs.YtbcehnhiedbbbaaDoor
