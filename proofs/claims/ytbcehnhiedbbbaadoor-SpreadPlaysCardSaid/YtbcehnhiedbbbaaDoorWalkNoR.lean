/- The contract of notice.Read at a written text; the walk through the law NoticeWrites. -/
import Derived.Test.YtbcehnhiedbbbaaDoorWalkNoS
set_option linter.unusedVariables false
set_option linter.unusedSimpArgs false
namespace Go.Proofs.YtbcehnhiedbbbaaDoor
open Go.RowKit
/-- The library's variable that strings.Cut reads. -/
structure NMx (w : World) : Prop where
  lt : 0 < w.heap.size
  c : ∃ m : Int, w.cell? ⟨0, 0, none⟩ = some (.int .i64 m)
theorem NMx.below {w w' : World} (h : NMx w) (hb : Below w.heap.size w w') : NMx w' := by
  obtain ⟨lt, m, c⟩ := h
  exact ⟨Nat.lt_of_lt_of_le lt hb.size, m, (hb.cell (p := ⟨0, 0, none⟩) lt).trans c⟩
theorem c_Cut (s : ByteArray) (w : World) (hM : NMx w) (hs : s.size < 4294967281) {x y : List UInt8} {b : Bool} (h : Go.Lib.cut s.data.toList [32] = (x, y, b)) :
    Calls Tryd.prog 41 #[.string s, .string ⟨#[32]⟩] w fun e w' => e = .returned (.tuple #[.string (strB x), .string (strB y), .bool b]) ∧ Below w.heap.size w w' := by
  obtain ⟨lt, m, c⟩ := hM
  have hc := Tryd.strings_Cut s ⟨#[32]⟩ m w hs c
  rw [show (⟨#[32]⟩ : ByteArray).data.toList = [32] from rfl, h] at hc
  exact hc.mono fun e w' ⟨h1, n, h2⟩ => ⟨h1, by rw [h2]; exact below_drewN (Below.refl _ _) _⟩
/-- The steps of reading one word. -/
structure WdC (S W S1 : ByteArray) (k : Int) : Prop where
  c : ∀ w, NMx w → Calls Tryd.prog 41 #[.string S, .string ⟨#[32]⟩] w fun e w' => e = .returned (.tuple #[.string W, .string S1, .bool true]) ∧ Below w.heap.size w w'
  a : ∀ w, Calls Tryd.prog 42 #[.string W] w fun e w' => e = .returned (.tuple #[.int .i64 k, .nilIface]) ∧ Below w.heap.size w w'
  i : ∀ w, NTab w → Calls Tryd.prog 40 #[.int .i64 k] w fun e w' => e = .returned (.string W) ∧ Below w.heap.size w w'
theorem wdC {k : Int} {rest : List UInt8} (h0 : 0 ≤ k) (h1 : k ≤ 2147483647) (hl : rest.length ≤ 300) : WdC (strB (Go.Lib.itoa k ++ 32 :: rest)) (strB (Go.Lib.itoa k)) (strB rest) k := by
  have li := Go.Lib.itoa_length_le k (by omega) (by omega)
  refine ⟨fun w hM => c_Cut _ w hM ?_ ?_, fun w => ?_, fun w hT => c_Itoa k w hT (by omega) (by omega)⟩
  · show (List.toArray _).size < _
    simp; omega
  · rw [strB_l]; exact cut_word _ _ (itoa_dig h0)
  · have := Tryd.strconv_Atoi_ok (strB (Go.Lib.itoa k)) (by show (List.toArray _).size ≤ _; simp; omega) k (by rw [strB_l]; exact atoi_itoa h0 (by omega)) w
    refine this.mono ?_
    rintro e w' ⟨h, rfl | ⟨t, rfl⟩⟩
    · exact ⟨h, Below.refl _ _⟩
    · exact ⟨h, Go.Joins.below_bytesWorld _ _ _ _ (Nat.le_refl _)⟩
set_option maxRecDepth 100000 in
set_option maxHeartbeats 8000000 in
theorem c_ReadV {S0 S1 S2 T W0 W1 W2 : ByteArray} {a n s : Int} (h0 : WdC S0 W0 S1 a) (h1 : WdC S1 W1 S2 n) (h2 : WdC S2 W2 T s) (w : World) (hT : NTab w) (hM : NMx w) (hsz : T.size ≤ 9223372036854775807) (hE : noE a n s T.data.toList = 0) :
    Calls Tryd.prog 18 #[.string S0] w fun e w' => e = .returned (.tuple #[.agg #[.int .i64 a, .int .i64 n, .string T, .int .i64 s], .int .i64 0]) ∧ Below w.heap.size w w' := by
  have H0 := Lib.hid h0
  have H1 := Lib.hid h1
  have H2 := Lib.hid h2
  have HT := Lib.hid hT
  have HM := Lib.hid hM
  have hc := fun w1 => c_nCheck a n T s w1 hsz
  rw [hE] at hc
  have HC := Lib.hid hc
  clear h0 h1 h2 hT hM hc hE
  have hgen := sgen; have hgen2 := sgen2; have hgen3 := sgen3; go_enter Tryd.func18, Tryd.ntmps18
  go_wp2
  refine wp_loop_rounds 4 ?_
  rw [rounds_succ]
  go_wp2_with (first | (go_at_call 41; (with_reducible refine (H0.out.c _ (HM.out.below (by exact belz))).mono ?_); rintro e w1 ⟨rfl, hb⟩; have hz := hb.size; (try simp only [szA, szS, szD, szN] at hz); (try (refine bcB (n := w.heap.size) hb ?_; intro h_w_0 e_w_0 d_w_0 _ _)); (try (refine bcB (n := w.heap.size + 1) hb ?_; intro h_w_1 e_w_1 d_w_1 _ _)); (try (refine bcB (n := w.heap.size + 1 + 1) hb ?_; intro h_w_2 e_w_2 d_w_2 _ _))) | (go_at_call 42; (with_reducible refine (H0.out.a _).mono ?_); rintro e w2 ⟨rfl, hb⟩; have hz := hb.size; (try simp only [szA, szS, szD, szN] at hz); (try (refine bcB (n := w.heap.size) hb ?_; intro h_w_0 e_w_0 d_w_0 _ _)); (try (refine bcB (n := w.heap.size + 1) hb ?_; intro h_w_1 e_w_1 d_w_1 _ _)); (try (refine bcB (n := w.heap.size + 1 + 1) hb ?_; intro h_w_2 e_w_2 d_w_2 _ _))) | (go_at_call 40; (with_reducible refine (H0.out.i _ (HT.out.below (by exact belz))).mono ?_); rintro e w3 ⟨rfl, hb⟩; have hz := hb.size; (try simp only [szA, szS, szD, szN] at hz); (try (refine bcB (n := w.heap.size) hb ?_; intro h_w_0 e_w_0 d_w_0 _ _)); (try (refine bcB (n := w.heap.size + 1) hb ?_; intro h_w_1 e_w_1 d_w_1 _ _)); (try (refine bcB (n := w.heap.size + 1 + 1) hb ?_; intro h_w_2 e_w_2 d_w_2 _ _))))
  have r30 : w3.cell? ⟨w.heap.size, 0, none⟩ = some (.int .i64 0) := by go_simp
  have r31 : w3.cell? ⟨w.heap.size, 1, none⟩ = some (.int .i64 0) := by go_simp
  have r32 : w3.cell? ⟨w.heap.size, 2, none⟩ = some (.string ⟨#[]⟩) := by go_simp
  have r33 : w3.cell? ⟨w.heap.size, 3, none⟩ = some (.int .i64 0) := by go_simp
  rw [rounds_succ]
  go_wp2_with (first | (go_at_call 41; (with_reducible refine (H1.out.c _ (HM.out.below (by exact belz))).mono ?_); rintro e w4 ⟨rfl, hb⟩; have hz := hb.size; (try simp only [szA, szS, szD, szN] at hz); (try (refine bcB (n := w.heap.size) hb ?_; intro h_w_0 e_w_0 d_w_0 _ _)); (try (refine bcB (n := w.heap.size + 1) hb ?_; intro h_w_1 e_w_1 d_w_1 _ _)); (try (refine bcB (n := w.heap.size + 1 + 1) hb ?_; intro h_w_2 e_w_2 d_w_2 _ _))) | (go_at_call 42; (with_reducible refine (H1.out.a _).mono ?_); rintro e w5 ⟨rfl, hb⟩; have hz := hb.size; (try simp only [szA, szS, szD, szN] at hz); (try (refine bcB (n := w.heap.size) hb ?_; intro h_w_0 e_w_0 d_w_0 _ _)); (try (refine bcB (n := w.heap.size + 1) hb ?_; intro h_w_1 e_w_1 d_w_1 _ _)); (try (refine bcB (n := w.heap.size + 1 + 1) hb ?_; intro h_w_2 e_w_2 d_w_2 _ _))) | (go_at_call 40; (with_reducible refine (H1.out.i _ (HT.out.below (by exact belz))).mono ?_); rintro e w6 ⟨rfl, hb⟩; have hz := hb.size; (try simp only [szA, szS, szD, szN] at hz); (try (refine bcB (n := w.heap.size) hb ?_; intro h_w_0 e_w_0 d_w_0 _ _)); (try (refine bcB (n := w.heap.size + 1) hb ?_; intro h_w_1 e_w_1 d_w_1 _ _)); (try (refine bcB (n := w.heap.size + 1 + 1) hb ?_; intro h_w_2 e_w_2 d_w_2 _ _))))
  have r60 : w6.cell? ⟨w.heap.size, 0, none⟩ = some (.int .i64 0) := by go_simp
  have r61 : w6.cell? ⟨w.heap.size, 1, none⟩ = some (.int .i64 0) := by go_simp
  have r62 : w6.cell? ⟨w.heap.size, 2, none⟩ = some (.string ⟨#[]⟩) := by go_simp
  have r63 : w6.cell? ⟨w.heap.size, 3, none⟩ = some (.int .i64 0) := by go_simp
  rw [rounds_succ]
  go_wp2_with (first | (go_at_call 41; (with_reducible refine (H2.out.c _ (HM.out.below (by exact belz))).mono ?_); rintro e w7 ⟨rfl, hb⟩; have hz := hb.size; (try simp only [szA, szS, szD, szN] at hz); (try (refine bcB (n := w.heap.size) hb ?_; intro h_w_0 e_w_0 d_w_0 _ _)); (try (refine bcB (n := w.heap.size + 1) hb ?_; intro h_w_1 e_w_1 d_w_1 _ _)); (try (refine bcB (n := w.heap.size + 1 + 1) hb ?_; intro h_w_2 e_w_2 d_w_2 _ _))) | (go_at_call 42; (with_reducible refine (H2.out.a _).mono ?_); rintro e w8 ⟨rfl, hb⟩; have hz := hb.size; (try simp only [szA, szS, szD, szN] at hz); (try (refine bcB (n := w.heap.size) hb ?_; intro h_w_0 e_w_0 d_w_0 _ _)); (try (refine bcB (n := w.heap.size + 1) hb ?_; intro h_w_1 e_w_1 d_w_1 _ _)); (try (refine bcB (n := w.heap.size + 1 + 1) hb ?_; intro h_w_2 e_w_2 d_w_2 _ _))) | (go_at_call 40; (with_reducible refine (H2.out.i _ (HT.out.below (by exact belz))).mono ?_); rintro e w9 ⟨rfl, hb⟩; have hz := hb.size; (try simp only [szA, szS, szD, szN] at hz); (try (refine bcB (n := w.heap.size) hb ?_; intro h_w_0 e_w_0 d_w_0 _ _)); (try (refine bcB (n := w.heap.size + 1) hb ?_; intro h_w_1 e_w_1 d_w_1 _ _)); (try (refine bcB (n := w.heap.size + 1 + 1) hb ?_; intro h_w_2 e_w_2 d_w_2 _ _))))
  have r90 : w9.cell? ⟨w.heap.size, 0, none⟩ = some (.int .i64 0) := by go_simp
  have r91 : w9.cell? ⟨w.heap.size, 1, none⟩ = some (.int .i64 0) := by go_simp
  have r92 : w9.cell? ⟨w.heap.size, 2, none⟩ = some (.string ⟨#[]⟩) := by go_simp
  have r93 : w9.cell? ⟨w.heap.size, 3, none⟩ = some (.int .i64 0) := by go_simp
  rw [rounds_succ]
  go_upto_region 15 with (go_at_call 15; (with_reducible refine (HC.out _).mono ?_); rintro e w0 ⟨rfl, hb⟩; have hz := hb.size; (try simp only [szA, szS, szD, szN] at hz); (try (refine bcB (n := w.heap.size + 1) hb ?_; intro h_w_1 e_w_1 d_w_1 _ _)); (try (refine bcB (n := w.heap.size + 1 + 1) hb ?_; intro h_w_2 e_w_2 d_w_2 _ _)))
  have r00 : w0.cell? ⟨w.heap.size, 0, none⟩ = some (.int .i64 0) := by
    rw [hb.cell (p := ⟨w.heap.size, 0, none⟩) (by (try simp only [szA, szS, szD, szN]); omega)]
    go_simp
  have r01 : w0.cell? ⟨w.heap.size, 1, none⟩ = some (.int .i64 0) := by
    rw [hb.cell (p := ⟨w.heap.size, 1, none⟩) (by (try simp only [szA, szS, szD, szN]); omega)]
    go_simp
  have r02 : w0.cell? ⟨w.heap.size, 2, none⟩ = some (.string ⟨#[]⟩) := by
    rw [hb.cell (p := ⟨w.heap.size, 2, none⟩) (by (try simp only [szA, szS, szD, szN]); omega)]
    go_simp
  have r03 : w0.cell? ⟨w.heap.size, 3, none⟩ = some (.int .i64 0) := by
    rw [hb.cell (p := ⟨w.heap.size, 3, none⟩) (by (try simp only [szA, szS, szD, szN]); omega)]
    go_simp
  have f00 : w0.frozen? ⟨w.heap.size, 0, none⟩ = false := by
    rw [hb.frozen (p := ⟨w.heap.size, 0, none⟩) (by (try simp only [szA, szS, szD, szN]); omega)]
    go_simp
  have f01 : w0.frozen? ⟨w.heap.size, 1, none⟩ = false := by
    rw [hb.frozen (p := ⟨w.heap.size, 1, none⟩) (by (try simp only [szA, szS, szD, szN]); omega)]
    go_simp
  have f02 : w0.frozen? ⟨w.heap.size, 2, none⟩ = false := by
    rw [hb.frozen (p := ⟨w.heap.size, 2, none⟩) (by (try simp only [szA, szS, szD, szN]); omega)]
    go_simp
  have f03 : w0.frozen? ⟨w.heap.size, 3, none⟩ = false := by
    rw [hb.frozen (p := ⟨w.heap.size, 3, none⟩) (by (try simp only [szA, szS, szD, szN]); omega)]
    go_simp
  go_wp2
  refine bodyPost_ret (v := .tuple #[.agg #[.int .i64 a, .int .i64 n, .string T, .int .i64 s], .int .i64 0]) (by simp only [results, Tryd.results18]; go_simp) rfl ⟨rfl, ?_⟩
  exact belz
theorem c_Read_ok (a n : Int) (T : ByteArray) (s : Int) (w : World) (hT : NTab w) (hM : NMx w) (hE : noE a n s T.data.toList = 0) :
    Calls Tryd.prog 18 #[.string (strB (noW a n s T.data.toList))] w fun e w' => e = .returned (.tuple #[.agg #[.int .i64 a, .int .i64 n, .string T, .int .i64 s], .int .i64 0]) ∧ Below w.heap.size w w' := by
  obtain ⟨a0, a1, n0, n1, s0, s1, l1, -⟩ := noE_ok hE
  have el := str_len T
  have la := Go.Lib.itoa_length_le a (by omega) (by omega)
  have lb := Go.Lib.itoa_length_le n (by omega) (by omega)
  have lc := Go.Lib.itoa_length_le s (by omega) (by omega)
  have e : noW a n s T.data.toList = Go.Lib.itoa a ++ 32 :: (Go.Lib.itoa n ++ 32 :: (Go.Lib.itoa s ++ 32 :: T.data.toList)) := by unfold noW; simp
  rw [e]
  refine c_ReadV (W0 := strB (Go.Lib.itoa a)) (S1 := strB (Go.Lib.itoa n ++ 32 :: (Go.Lib.itoa s ++ 32 :: T.data.toList))) (W1 := strB (Go.Lib.itoa n)) (S2 := strB (Go.Lib.itoa s ++ 32 :: T.data.toList)) (W2 := strB (Go.Lib.itoa s)) ?_ ?_ ?_ w hT hM (by omega) hE
  · exact wdC a0 (by omega) (by simp; omega)
  · exact wdC (by omega) (by omega) (by simp; omega)
  · have := wdC (k := s) (rest := T.data.toList) s0 (by omega) (by omega)
    rw [strB_of] at this
    exact this
end Go.Proofs.YtbcehnhiedbbbaaDoor
