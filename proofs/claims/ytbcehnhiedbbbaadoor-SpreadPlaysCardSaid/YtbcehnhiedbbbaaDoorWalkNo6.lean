/- Contracts of notice.Sign and Right. -/
import Derived.Test.YtbcehnhiedbbbaaDoorWalkNo5
set_option linter.unusedVariables false
set_option linter.unusedSimpArgs false
namespace Go.Proofs.YtbcehnhiedbbbaaDoor
open Go.RowKit
def keyB (key : Int) : Bool := decide (1 ≤ key) && decide (key ≤ 1000000000)
theorem keyB_t {key : Int} (h : keyB key = true) : 1 ≤ key ∧ key ≤ 1000000000 := by simpa [keyB] using h
theorem c_isKey (key : Int) (w : World) : Calls Tryd.prog 38 #[.int .i64 key] w fun e w' => e = .returned (.bool (keyB key)) ∧ Below w.heap.size w w' := by
  by_cases h1 : 1 ≤ key
  · by_cases h2 : key ≤ 1000000000
    · have g1 := decide_eq_true h1
      have g2 := decide_eq_true h2
      rw [show keyB key = true by unfold keyB; rw [g1, g2]; rfl]
      have hgen := sgen; have hgen2 := sgen2; have hgen3 := sgen3; go_enter Tryd.func38, Tryd.ntmps38
      go_wp2
      go_ret
      refine ⟨rfl, ?_⟩
      exact belz
    · have g1 := decide_eq_true h1
      have g2 := decide_eq_false h2
      rw [show keyB key = false by unfold keyB; rw [g1, g2]; rfl]
      have hgen := sgen; have hgen2 := sgen2; have hgen3 := sgen3; go_enter Tryd.func38, Tryd.ntmps38
      go_wp2
      go_ret
      refine ⟨rfl, ?_⟩
      exact belz
  · have g1 := decide_eq_false h1
    rw [show keyB key = false by unfold keyB; rw [g1]; rfl]
    have hgen := sgen; have hgen2 := sgen2; have hgen3 := sgen3; go_enter Tryd.func38, Tryd.ntmps38
    go_wp2
    go_ret
    refine ⟨rfl, ?_⟩
    exact belz
theorem c_Sign_bad (key a n : Int) (T : ByteArray) (s : Int) (w : World) (hsz : T.size ≤ 9223372036854775807) (h : noE a n 0 T.data.toList ≠ 0) :
    Calls Tryd.prog 12 #[.int .i64 key, .agg #[.int .i64 a, .int .i64 n, .string T, .int .i64 s]] w fun e w' => e = .returned (.tuple #[.agg #[.int .i64 0, .int .i64 0, .string ⟨#[]⟩, .int .i64 0], .int .i64 (noE a n 0 T.data.toList)]) ∧ Below w.heap.size w w' := by
  have HC := Lib.hid (fun w1 => c_nCheck a n T 0 w1 hsz)
  generalize noE a n 0 T.data.toList = x at *
  have g : (x == 0) = false := by simpa using h
  have g2 : (x != 0) = true := by simpa using h
  have hgen := sgen; have hgen2 := sgen2; have hgen3 := sgen3; go_enter Tryd.func12, Tryd.ntmps12
  go_wp2_with (go_at_call 15; (with_reducible refine (HC.out _).mono ?_); rintro e w1 ⟨rfl, hb⟩; have hz := hb.size; (try simp only [szA, szS, szD, szN] at hz); (try (refine bcB (n := w.heap.size) hb ?_; intro h_w_0 e_w_0 d_w_0 _ _)); (try (refine bcB (n := w.heap.size + 1) hb ?_; intro h_w_1 e_w_1 d_w_1 _ _)))
  refine bodyPost_ret (v := .tuple #[.agg #[.int .i64 0, .int .i64 0, .string ⟨#[]⟩, .int .i64 0], .int .i64 x]) (by simp only [results, Tryd.results12]; go_simp) rfl ⟨rfl, ?_⟩
  exact belz
theorem c_Sign_key (key a n : Int) (T : ByteArray) (s : Int) (w : World) (hsz : T.size ≤ 9223372036854775807) (h : noE a n 0 T.data.toList = 0) (hk : keyB key = false) :
    Calls Tryd.prog 12 #[.int .i64 key, .agg #[.int .i64 a, .int .i64 n, .string T, .int .i64 s]] w fun e w' => e = .returned (.tuple #[.agg #[.int .i64 0, .int .i64 0, .string ⟨#[]⟩, .int .i64 0], .int .i64 1]) ∧ Below w.heap.size w w' := by
  have hc := fun w1 => c_nCheck a n T 0 w1 hsz
  rw [h] at hc
  have HC := Lib.hid hc
  have hk2 := fun w1 => c_isKey key w1
  rw [hk] at hk2
  have HK := Lib.hid hk2
  clear hc hk2 h hk
  have hgen := sgen; have hgen2 := sgen2; have hgen3 := sgen3; go_enter Tryd.func12, Tryd.ntmps12
  go_wp2_with (first | (go_at_call 15; (with_reducible refine (HC.out _).mono ?_); rintro e w1 ⟨rfl, hb⟩; have hz := hb.size; (try simp only [szA, szS, szD, szN] at hz); (try (refine bcB (n := w.heap.size) hb ?_; intro h_w_0 e_w_0 d_w_0 _ _)); (try (refine bcB (n := w.heap.size + 1) hb ?_; intro h_w_1 e_w_1 d_w_1 _ _))) | (go_at_call 38; (with_reducible refine (HK.out _).mono ?_); rintro e w2 ⟨rfl, hb⟩; have hz := hb.size; (try simp only [szA, szS, szD, szN] at hz); (try (refine bcB (n := w.heap.size) hb ?_; intro h_w_0 e_w_0 d_w_0 _ _)); (try (refine bcB (n := w.heap.size + 1) hb ?_; intro h_w_1 e_w_1 d_w_1 _ _)); (try (refine bcB (n := w1.heap.size) hb ?_; intro h_w1_0 e_w1_0 d_w1_0 _ _))))
  refine bodyPost_ret (v := .tuple #[.agg #[.int .i64 0, .int .i64 0, .string ⟨#[]⟩, .int .i64 0], .int .i64 1]) (by simp only [results, Tryd.results12]; go_simp) rfl ⟨rfl, ?_⟩
  exact belz
theorem c_Sign_ok (key a n : Int) (T : ByteArray) (s : Int) (w : World) (hT : NTab w) (hsz : T.size ≤ 9223372036854775807) (h : noE a n 0 T.data.toList = 0) (hk : keyB key = true) :
    Calls Tryd.prog 12 #[.int .i64 key, .agg #[.int .i64 a, .int .i64 n, .string T, .int .i64 s]] w fun e w' => e = .returned (.tuple #[.agg #[.int .i64 a, .int .i64 n, .string T, .int .i64 (noH key (noS a n T.data.toList))], .int .i64 0]) ∧ Below w.heap.size w w' := by
  obtain ⟨a0, a1, n0, n1, -, -, l1, -⟩ := noE_ok h
  obtain ⟨k0, k1⟩ := keyB_t hk
  have el := str_len T
  have hc := fun w1 => c_nCheck a n T 0 w1 hsz
  rw [h] at hc
  have HC := Lib.hid hc
  have hk2 := fun w1 => c_isKey key w1
  rw [hk] at hk2
  have HK := Lib.hid hk2
  have HS := Lib.hid (fun w1 h1 => c_nSum key a n T 0 w1 h1 (by omega) k1 a0 a1 n0 n1 (by omega))
  have HT := Lib.hid hT
  clear hc hk2 h hk hT
  generalize noH key (noS a n T.data.toList) = x at *
  have hgen := sgen; have hgen2 := sgen2; have hgen3 := sgen3; go_enter Tryd.func12, Tryd.ntmps12
  go_wp2_with (first | (go_at_call 15; (with_reducible refine (HC.out _).mono ?_); rintro e w1 ⟨rfl, hb⟩; have hz := hb.size; (try simp only [szA, szS, szD, szN] at hz); (try (refine bcB (n := w.heap.size) hb ?_; intro h_w_0 e_w_0 d_w_0 _ _)); (try (refine bcB (n := w.heap.size + 1) hb ?_; intro h_w_1 e_w_1 d_w_1 _ _))) | (go_at_call 38; (with_reducible refine (HK.out _).mono ?_); rintro e w2 ⟨rfl, hb⟩; have hz := hb.size; (try simp only [szA, szS, szD, szN] at hz); (try (refine bcB (n := w.heap.size) hb ?_; intro h_w_0 e_w_0 d_w_0 _ _)); (try (refine bcB (n := w.heap.size + 1) hb ?_; intro h_w_1 e_w_1 d_w_1 _ _)); (try (refine bcB (n := w1.heap.size) hb ?_; intro h_w1_0 e_w1_0 d_w1_0 _ _))) | (go_at_call 39; (with_reducible refine (HS.out _ (HT.out.below (by exact belz))).mono ?_); rintro e w3 ⟨rfl, hb⟩; have hz := hb.size; (try simp only [szA, szS, szD, szN] at hz); (try (refine bcB (n := w.heap.size) hb ?_; intro h_w_0 e_w_0 d_w_0 _ _)); (try (refine bcB (n := w.heap.size + 1) hb ?_; intro h_w_1 e_w_1 d_w_1 _ _)); (try (refine bcB (n := w1.heap.size) hb ?_; intro h_w1_0 e_w1_0 d_w1_0 _ _)); (try (refine bcB (n := w2.heap.size) hb ?_; intro h_w2_0 e_w2_0 d_w2_0 _ _))))
  refine bodyPost_ret (v := .tuple #[.agg #[.int .i64 a, .int .i64 n, .string T, .int .i64 x], .int .i64 0]) (by simp only [results, Tryd.results12]; go_simp) rfl ⟨rfl, ?_⟩
  exact belz
theorem c_Right_bad (key a n : Int) (T : ByteArray) (s : Int) (w : World) (hsz : T.size ≤ 9223372036854775807) (h : noE a n s T.data.toList ≠ 0) :
    Calls Tryd.prog 13 #[.int .i64 key, .agg #[.int .i64 a, .int .i64 n, .string T, .int .i64 s]] w fun e w' => e = .returned (.tuple #[.bool false, .int .i64 (noE a n s T.data.toList)]) ∧ Below w.heap.size w w' := by
  have HC := Lib.hid (fun w1 => c_nCheck a n T s w1 hsz)
  generalize noE a n s T.data.toList = x at *
  have g : (x == 0) = false := by simpa using h
  have g2 : (x != 0) = true := by simpa using h
  have hgen := sgen; have hgen2 := sgen2; have hgen3 := sgen3; go_enter Tryd.func13, Tryd.ntmps13
  go_wp2_with (go_at_call 15; (with_reducible refine (HC.out _).mono ?_); rintro e w1 ⟨rfl, hb⟩; have hz := hb.size; (try simp only [szA, szS, szD, szN] at hz); (try (refine bcB (n := w.heap.size) hb ?_; intro h_w_0 e_w_0 d_w_0 _ _)))
  refine bodyPost_ret (v := .tuple #[.bool false, .int .i64 x]) (by simp only [results, Tryd.results13]; go_simp) rfl ⟨rfl, ?_⟩
  exact belz
theorem c_Right_key (key a n : Int) (T : ByteArray) (s : Int) (w : World) (hsz : T.size ≤ 9223372036854775807) (h : noE a n s T.data.toList = 0) (hk : keyB key = false) :
    Calls Tryd.prog 13 #[.int .i64 key, .agg #[.int .i64 a, .int .i64 n, .string T, .int .i64 s]] w fun e w' => e = .returned (.tuple #[.bool false, .int .i64 1]) ∧ Below w.heap.size w w' := by
  have hc := fun w1 => c_nCheck a n T s w1 hsz
  rw [h] at hc
  have HC := Lib.hid hc
  have hk2 := fun w1 => c_isKey key w1
  rw [hk] at hk2
  have HK := Lib.hid hk2
  clear hc hk2 h hk
  have hgen := sgen; have hgen2 := sgen2; have hgen3 := sgen3; go_enter Tryd.func13, Tryd.ntmps13
  go_wp2_with (first | (go_at_call 15; (with_reducible refine (HC.out _).mono ?_); rintro e w1 ⟨rfl, hb⟩; have hz := hb.size; (try simp only [szA, szS, szD, szN] at hz); (try (refine bcB (n := w.heap.size) hb ?_; intro h_w_0 e_w_0 d_w_0 _ _))) | (go_at_call 38; (with_reducible refine (HK.out _).mono ?_); rintro e w2 ⟨rfl, hb⟩; have hz := hb.size; (try simp only [szA, szS, szD, szN] at hz); (try (refine bcB (n := w.heap.size) hb ?_; intro h_w_0 e_w_0 d_w_0 _ _)); (try (refine bcB (n := w1.heap.size) hb ?_; intro h_w1_0 e_w1_0 d_w1_0 _ _))))
  refine bodyPost_ret (v := .tuple #[.bool false, .int .i64 1]) (by simp only [results, Tryd.results13]; go_simp) rfl ⟨rfl, ?_⟩
  exact belz
theorem c_Right_ok (key a n : Int) (T : ByteArray) (s : Int) (w : World) (hT : NTab w) (hsz : T.size ≤ 9223372036854775807) (h : noE a n s T.data.toList = 0) (hk : keyB key = true) :
    Calls Tryd.prog 13 #[.int .i64 key, .agg #[.int .i64 a, .int .i64 n, .string T, .int .i64 s]] w fun e w' => e = .returned (.tuple #[.bool (s == noH key (noS a n T.data.toList)), .int .i64 0]) ∧ Below w.heap.size w w' := by
  obtain ⟨a0, a1, n0, n1, -, -, l1, -⟩ := noE_ok h
  obtain ⟨k0, k1⟩ := keyB_t hk
  have el := str_len T
  have hc := fun w1 => c_nCheck a n T s w1 hsz
  rw [h] at hc
  have HC := Lib.hid hc
  have hk2 := fun w1 => c_isKey key w1
  rw [hk] at hk2
  have HK := Lib.hid hk2
  have HS := Lib.hid (fun w1 h1 => c_nSum key a n T s w1 h1 (by omega) k1 a0 a1 n0 n1 (by omega))
  have HT := Lib.hid hT
  clear hc hk2 h hk hT
  generalize noH key (noS a n T.data.toList) = x at *
  have hgen := sgen; have hgen2 := sgen2; have hgen3 := sgen3; go_enter Tryd.func13, Tryd.ntmps13
  go_upto_region 6 with (first | (go_at_call 15; (with_reducible refine (HC.out _).mono ?_); rintro e w1 ⟨rfl, hb⟩; have hz := hb.size; (try simp only [szA, szS, szD, szN] at hz); (try (refine bcB (n := w.heap.size) hb ?_; intro h_w_0 e_w_0 d_w_0 _ _))) | (go_at_call 38; (with_reducible refine (HK.out _).mono ?_); rintro e w2 ⟨rfl, hb⟩; have hz := hb.size; (try simp only [szA, szS, szD, szN] at hz); (try (refine bcB (n := w.heap.size) hb ?_; intro h_w_0 e_w_0 d_w_0 _ _)); (try (refine bcB (n := w1.heap.size) hb ?_; intro h_w1_0 e_w1_0 d_w1_0 _ _))))
  go_region_held3 (fun w' => w'.cell? ⟨w.heap.size, 0, none⟩ = some (.int .i64 a) ∧ w'.cell? ⟨w.heap.size, 1, none⟩ = some (.int .i64 n) ∧ w'.cell? ⟨w.heap.size, 2, none⟩ = some (.string T) ∧ w'.cell? ⟨w.heap.size, 3, none⟩ = some (.int .i64 s)) (refine ⟨?_, ?_, ?_, ?_⟩ <;> (first | (go_simp; done) | go_keep)) (first | (go_at_call 39; (with_reducible refine (HS.out _ (HT.out.below (by exact belz))).mono ?_); rintro e w3 ⟨rfl, hb⟩; have hz := hb.size; (try simp only [szA, szS, szD, szN] at hz); (try (refine bcB (n := w.heap.size) hb ?_; intro h_w_0 e_w_0 d_w_0 _ _)); (try (refine bcB (n := w1.heap.size) hb ?_; intro h_w1_0 e_w1_0 d_w1_0 _ _)); (try (refine bcB (n := w2.heap.size) hb ?_; intro h_w2_0 e_w2_0 d_w2_0 _ _))))
  all_goals go_wp2
  all_goals refine bodyPost_ret (v := .tuple #[.bool (s == x), .int .i64 0]) (by simp only [results, Tryd.results13]; go_simp) rfl ⟨rfl, ?_⟩
  all_goals exact belz
end Go.Proofs.YtbcehnhiedbbbaaDoor
