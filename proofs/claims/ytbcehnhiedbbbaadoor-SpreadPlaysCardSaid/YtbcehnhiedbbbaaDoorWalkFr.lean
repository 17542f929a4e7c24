/- The contract of frac.Read. -/
import Derived.Test.YtbcehnhiedbbbaaDoorWalkFc
import Derived.Test.YtbcehnhiedbbbaaDoorWalkCutC
import Derived.Test.YtbcehnhiedbbbaaDoorWalkNoD
import Derived.Test.YtbcehnhiedbbbaaDoorFgQ
import Derived.WideShapes
set_option linter.unusedVariables false
set_option linter.unusedSimpArgs false
namespace Go.Proofs.YtbcehnhiedbbbaaDoor
open Go.RowKit
set_option maxHeartbeats 2000000 in
theorem c_frRead_ok (n d : Int) (w : World) (hT : NTab w) (h : fcE n d = 0) :
    Calls Tryd.prog 73 #[.string (strB (showF n d))] w fun e w' => e = .returned (.tuple #[.agg #[.int .i64 n, .int .i64 d], .int .i64 0]) ∧ Below w.heap.size w w' := by
  obtain ⟨d0, d1, n0, n1, -⟩ := fcE_ok h
  have hl := showF_le h
  have hc := fun w1 => c_CutC 47 (strB (showF n d)) w1 (by rw [strB_size]; omega)
  rw [strB_l, cut_show] at hc
  have la := Go.Lib.itoa_length_le n (by omega) (by omega)
  have lb := Go.Lib.itoa_length_le d (by omega) (by omega)
  have HA := Lib.hid (fun w1 => c_AtoiOk (strB (Go.Lib.itoa n)) w1 (by rw [strB_size]; omega) (v := n) (by rw [strB_l]; exact atoi_itoaN (by omega) (by omega)))
  have HD := Lib.hid (fun w1 => c_AtoiOk (strB (Go.Lib.itoa d)) w1 (by rw [strB_size]; omega) (v := d) (by rw [strB_l]; exact atoi_itoaN (by omega) (by omega)))
  have HS := Lib.hid (fun w1 h1 => c_show n d w1 h1 h)
  have hk := fun w1 => c_fcCheck n d w1
  rw [h] at hk
  have HK := Lib.hid hk
  have HT := Lib.hid hT
  clear hk hT h hl la lb
  by_cases hd : d = 1
  · subst hd
    rw [if_pos rfl] at hc
    have HC := Lib.hid hc
    clear hc
    generalize strB (showF n 1) = S at *
    generalize strB (Go.Lib.itoa n) = A at *
    generalize strB ([] : List UInt8) = E at *
    have hgen := sgen; have hgen2 := sgen2; have hgen3 := sgen3; go_enter Tryd.func73, Tryd.ntmps73
    go_wp2_with (first | (go_at_call 41; (with_reducible refine (HC.out _).mono ?_); rintro e w1 ⟨rfl, hb⟩; have hz := hb.size; (try simp only [szA, szS, szD, szN] at hz); (try (refine bcB (n := w.heap.size) hb ?_; intro h_w_0 e_w_0 d_w_0 _ _))) | (go_at_call 42; (with_reducible refine (HA.out _).mono ?_); rintro e w2 ⟨rfl, hb⟩; have hz := hb.size; (try simp only [szA, szS, szD, szN] at hz); (try (refine bcB (n := w.heap.size) hb ?_; intro h_w_0 e_w_0 d_w_0 _ _)); (try (refine bcB (n := w1.heap.size) hb ?_; intro h_w1_0 e_w1_0 d_w1_0 _ _))) | (go_at_call 36; (with_reducible refine (HK.out _).mono ?_); rintro e w4 ⟨rfl, hb⟩; have hz := hb.size; (try simp only [szA, szS, szD, szN] at hz); (try (refine bcB (n := w.heap.size) hb ?_; intro h_w_0 e_w_0 d_w_0 _ _)); (try (refine bcB (n := w1.heap.size) hb ?_; intro h_w1_0 e_w1_0 d_w1_0 _ _)); (try (refine bcB (n := w2.heap.size) hb ?_; intro h_w2_0 e_w2_0 d_w2_0 _ _)); (try (refine bcB (n := w3.heap.size) hb ?_; intro h_w3_0 e_w3_0 d_w3_0 _ _))) | (go_at_call 55; (with_reducible refine (HS.out _ (HT.out.below (by exact belz))).mono ?_); rintro e w5 ⟨rfl, hb⟩; have hz := hb.size; (try simp only [szA, szS, szD, szN] at hz); (try (refine bcB (n := w.heap.size) hb ?_; intro h_w_0 e_w_0 d_w_0 _ _)); (try (refine bcB (n := w1.heap.size) hb ?_; intro h_w1_0 e_w1_0 d_w1_0 _ _)); (try (refine bcB (n := w2.heap.size) hb ?_; intro h_w2_0 e_w2_0 d_w2_0 _ _)); (try (refine bcB (n := w3.heap.size) hb ?_; intro h_w3_0 e_w3_0 d_w3_0 _ _)); (try (refine bcB (n := w4.heap.size) hb ?_; intro h_w4_0 e_w4_0 d_w4_0 _ _))))
    refine bodyPost_ret (v := .tuple #[.agg #[.int .i64 n, .int .i64 1], .int .i64 0]) (by simp only [results, Tryd.results73]; go_simp) rfl ⟨rfl, ?_⟩
    exact belz
  · rw [if_neg hd] at hc
    have HC := Lib.hid hc
    clear hc
    generalize strB (showF n d) = S at *
    generalize strB (Go.Lib.itoa n) = A at *
    generalize strB (Go.Lib.itoa d) = B at *
    have hgen := sgen; have hgen2 := sgen2; have hgen3 := sgen3; go_enter Tryd.func73, Tryd.ntmps73
    go_wp2_with (first | (go_at_call 41; (with_reducible refine (HC.out _).mono ?_); rintro e w1 ⟨rfl, hb⟩; have hz := hb.size; (try simp only [szA, szS, szD, szN] at hz); (try (refine bcB (n := w.heap.size) hb ?_; intro h_w_0 e_w_0 d_w_0 _ _))) | (go_at_call 42; (with_reducible refine (HA.out _).mono ?_); rintro e w2 ⟨rfl, hb⟩; have hz := hb.size; (try simp only [szA, szS, szD, szN] at hz); (try (refine bcB (n := w.heap.size) hb ?_; intro h_w_0 e_w_0 d_w_0 _ _)); (try (refine bcB (n := w1.heap.size) hb ?_; intro h_w1_0 e_w1_0 d_w1_0 _ _))) | (go_at_call 42; (with_reducible refine (HD.out _).mono ?_); rintro e w3 ⟨rfl, hb⟩; have hz := hb.size; (try simp only [szA, szS, szD, szN] at hz); (try (refine bcB (n := w.heap.size) hb ?_; intro h_w_0 e_w_0 d_w_0 _ _)); (try (refine bcB (n := w1.heap.size) hb ?_; intro h_w1_0 e_w1_0 d_w1_0 _ _)); (try (refine bcB (n := w2.heap.size) hb ?_; intro h_w2_0 e_w2_0 d_w2_0 _ _))) | (go_at_call 36; (with_reducible refine (HK.out _).mono ?_); rintro e w4 ⟨rfl, hb⟩; have hz := hb.size; (try simp only [szA, szS, szD, szN] at hz); (try (refine bcB (n := w.heap.size) hb ?_; intro h_w_0 e_w_0 d_w_0 _ _)); (try (refine bcB (n := w1.heap.size) hb ?_; intro h_w1_0 e_w1_0 d_w1_0 _ _)); (try (refine bcB (n := w2.heap.size) hb ?_; intro h_w2_0 e_w2_0 d_w2_0 _ _)); (try (refine bcB (n := w3.heap.size) hb ?_; intro h_w3_0 e_w3_0 d_w3_0 _ _))) | (go_at_call 55; (with_reducible refine (HS.out _ (HT.out.below (by exact belz))).mono ?_); rintro e w5 ⟨rfl, hb⟩; have hz := hb.size; (try simp only [szA, szS, szD, szN] at hz); (try (refine bcB (n := w.heap.size) hb ?_; intro h_w_0 e_w_0 d_w_0 _ _)); (try (refine bcB (n := w1.heap.size) hb ?_; intro h_w1_0 e_w1_0 d_w1_0 _ _)); (try (refine bcB (n := w2.heap.size) hb ?_; intro h_w2_0 e_w2_0 d_w2_0 _ _)); (try (refine bcB (n := w3.heap.size) hb ?_; intro h_w3_0 e_w3_0 d_w3_0 _ _)); (try (refine bcB (n := w4.heap.size) hb ?_; intro h_w4_0 e_w4_0 d_w4_0 _ _))))
    refine bodyPost_ret (v := .tuple #[.agg #[.int .i64 n, .int .i64 d], .int .i64 0]) (by simp only [results, Tryd.results73]; go_simp) rfl ⟨rfl, ?_⟩
    exact belz
set_option maxRecDepth 100000 in
set_option maxHeartbeats 2000000 in
theorem c_frRead_no (s : List UInt8) (w : World) (hT : NTab w) (hE : NEr w) (hs : s.length ≤ 16000) (h : frR s = none) :
    Calls Tryd.prog 73 #[.string (strB s)] w fun e w' => e = .returned (.tuple #[.agg #[.int .i64 0, .int .i64 0], .int .i64 4]) ∧ Below w.heap.size w w' := by
  have hc := fun w1 => c_CutC 47 (strB s) w1 (by rw [strB_size]; omega)
  rw [strB_l] at hc
  have hq : (Go.Lib.cut s [47]).1.length ≤ s.length ∧ (Go.Lib.cut s [47]).2.1.length ≤ s.length := by
    rcases byte_cases 47 s with q | ⟨d, r, q, rfl⟩
    · rw [cutb_miss 47 s q]; simp
    · rw [cutb_hit 47 d r q]; simp; omega
  have hn := frR_none h
  generalize (Go.Lib.cut s [47]).1 = A at *
  generalize (Go.Lib.cut s [47]).2.1 = B at *
  generalize (Go.Lib.cut s [47]).2.2 = is at *
  have HA := Lib.hid (fun w1 h1 => c_AtoiAny (strB A) w1 h1 (by rw [strB_size]; omega))
  have HD := Lib.hid (fun w1 h1 => c_AtoiAny (strB B) w1 h1 (by rw [strB_size]; omega))
  have HN := Lib.hid hn
  have HT := Lib.hid hT
  have HE := Lib.hid hE
  have HC := Lib.hid hc
  clear hc hn h hT hE hq
  generalize strB A = A1 at *
  generalize strB B = B1 at *
  cases is
  · have hgen := sgen; have hgen2 := sgen2; have hgen3 := sgen3; go_enter Tryd.func73, Tryd.ntmps73
    go_upto_region 6 with (first | (go_at_call 41; (with_reducible refine (HC.out _).mono ?_); rintro e w1 ⟨rfl, hb⟩; have hz := hb.size; (try simp only [szA, szS, szD, szN] at hz); (try (refine bcB (n := w.heap.size) hb ?_; intro h_w_0 e_w_0 d_w_0 _ _))) | (go_at_call 42; (with_reducible refine (HA.out _ (HE.out.below (by exact belz))).mono ?_); rintro e w2 ⟨v, ev, rfl, hb⟩; have hz := hb.size; (try simp only [szA, szS, szD, szN] at hz); (try (refine bcB (n := w.heap.size) hb ?_; intro h_w_0 e_w_0 d_w_0 _ _)); (try (refine bcB (n := w1.heap.size) hb ?_; intro h_w1_0 e_w1_0 d_w1_0 _ _))))
    rcases fcE_two v 1 with q | q
    · have hk := fun w1 => c_fcCheck v 1 w1
      rw [q] at hk
      have HK := Lib.hid hk
      have HS := Lib.hid (fun w1 h1 => c_show v 1 w1 h1 q)
      have hne := HN.out v 1 q
      have g2 : ((strB (showF v 1)).toList == (strB s).toList) = false := by rw [ByteArray.toList_eq, ByteArray.toList_eq]; exact beq_eq_false_iff_ne.2 (fun r => hne (strB_inj (Go.WideShapes.bytes_inj r)))
      clear hk q HN hne
      generalize strB (showF v 1) = F at *
      generalize strB s = S at *
      go_wp2_with (first | (go_at_call 36; (with_reducible refine (HK.out _).mono ?_); rintro e w4 ⟨rfl, hb⟩; have hz := hb.size; (try simp only [szA, szS, szD, szN] at hz); (try (refine bcB (n := w.heap.size) hb ?_; intro h_w_0 e_w_0 d_w_0 _ _)); (try (refine bcB (n := w1.heap.size) hb ?_; intro h_w1_0 e_w1_0 d_w1_0 _ _)); (try (refine bcB (n := w2.heap.size) hb ?_; intro h_w2_0 e_w2_0 d_w2_0 _ _)); (try (refine bcB (n := w3.heap.size) hb ?_; intro h_w3_0 e_w3_0 d_w3_0 _ _))) | (go_at_call 55; (with_reducible refine (HS.out _ (HT.out.below (by exact belz))).mono ?_); rintro e w5 ⟨rfl, hb⟩; have hz := hb.size; (try simp only [szA, szS, szD, szN] at hz); (try (refine bcB (n := w.heap.size) hb ?_; intro h_w_0 e_w_0 d_w_0 _ _)); (try (refine bcB (n := w1.heap.size) hb ?_; intro h_w1_0 e_w1_0 d_w1_0 _ _)); (try (refine bcB (n := w2.heap.size) hb ?_; intro h_w2_0 e_w2_0 d_w2_0 _ _)); (try (refine bcB (n := w3.heap.size) hb ?_; intro h_w3_0 e_w3_0 d_w3_0 _ _)); (try (refine bcB (n := w4.heap.size) hb ?_; intro h_w4_0 e_w4_0 d_w4_0 _ _))))
      refine bodyPost_ret (v := .tuple #[.agg #[.int .i64 0, .int .i64 0], .int .i64 4]) (by simp only [results, Tryd.results73]; go_simp) rfl ⟨rfl, ?_⟩
      exact belz
    · have hk := fun w1 => c_fcCheck v 1 w1
      rw [q] at hk
      have HK := Lib.hid hk
      clear hk q HN
      go_wp2_with (first | (go_at_call 36; (with_reducible refine (HK.out _).mono ?_); rintro e w4 ⟨rfl, hb⟩; have hz := hb.size; (try simp only [szA, szS, szD, szN] at hz); (try (refine bcB (n := w.heap.size) hb ?_; intro h_w_0 e_w_0 d_w_0 _ _)); (try (refine bcB (n := w1.heap.size) hb ?_; intro h_w1_0 e_w1_0 d_w1_0 _ _)); (try (refine bcB (n := w2.heap.size) hb ?_; intro h_w2_0 e_w2_0 d_w2_0 _ _)); (try (refine bcB (n := w3.heap.size) hb ?_; intro h_w3_0 e_w3_0 d_w3_0 _ _))))
      refine bodyPost_ret (v := .tuple #[.agg #[.int .i64 0, .int .i64 0], .int .i64 4]) (by simp only [results, Tryd.results73]; go_simp) rfl ⟨rfl, ?_⟩
      exact belz
  · have hgen := sgen; have hgen2 := sgen2; have hgen3 := sgen3; go_enter Tryd.func73, Tryd.ntmps73
    go_upto_region 6 with (first | (go_at_call 41; (with_reducible refine (HC.out _).mono ?_); rintro e w1 ⟨rfl, hb⟩; have hz := hb.size; (try simp only [szA, szS, szD, szN] at hz); (try (refine bcB (n := w.heap.size) hb ?_; intro h_w_0 e_w_0 d_w_0 _ _))) | (go_at_call 42; (with_reducible refine (HA.out _ (HE.out.below (by exact belz))).mono ?_); rintro e w2 ⟨v, ev, rfl, hb⟩; have hz := hb.size; (try simp only [szA, szS, szD, szN] at hz); (try (refine bcB (n := w.heap.size) hb ?_; intro h_w_0 e_w_0 d_w_0 _ _)); (try (refine bcB (n := w1.heap.size) hb ?_; intro h_w1_0 e_w1_0 d_w1_0 _ _))) | (go_at_call 42; (with_reducible refine (HD.out _ (HE.out.below (by exact belz))).mono ?_); rintro e w3 ⟨u, eu, rfl, hb⟩; have hz := hb.size; (try simp only [szA, szS, szD, szN] at hz); (try (refine bcB (n := w.heap.size) hb ?_; intro h_w_0 e_w_0 d_w_0 _ _)); (try (refine bcB (n := w1.heap.size) hb ?_; intro h_w1_0 e_w1_0 d_w1_0 _ _)); (try (refine bcB (n := w2.heap.size) hb ?_; intro h_w2_0 e_w2_0 d_w2_0 _ _))))
    rcases fcE_two v u with q | q
    · have hk := fun w1 => c_fcCheck v u w1
      rw [q] at hk
      have HK := Lib.hid hk
      have HS := Lib.hid (fun w1 h1 => c_show v u w1 h1 q)
      have hne := HN.out v u q
      have g2 : ((strB (showF v u)).toList == (strB s).toList) = false := by rw [ByteArray.toList_eq, ByteArray.toList_eq]; exact beq_eq_false_iff_ne.2 (fun r => hne (strB_inj (Go.WideShapes.bytes_inj r)))
      clear hk q HN hne
      generalize strB (showF v u) = F at *
      generalize strB s = S at *
      go_wp2_with (first | (go_at_call 36; (with_reducible refine (HK.out _).mono ?_); rintro e w4 ⟨rfl, hb⟩; have hz := hb.size; (try simp only [szA, szS, szD, szN] at hz); (try (refine bcB (n := w.heap.size) hb ?_; intro h_w_0 e_w_0 d_w_0 _ _)); (try (refine bcB (n := w1.heap.size) hb ?_; intro h_w1_0 e_w1_0 d_w1_0 _ _)); (try (refine bcB (n := w2.heap.size) hb ?_; intro h_w2_0 e_w2_0 d_w2_0 _ _)); (try (refine bcB (n := w3.heap.size) hb ?_; intro h_w3_0 e_w3_0 d_w3_0 _ _))) | (go_at_call 55; (with_reducible refine (HS.out _ (HT.out.below (by exact belz))).mono ?_); rintro e w5 ⟨rfl, hb⟩; have hz := hb.size; (try simp only [szA, szS, szD, szN] at hz); (try (refine bcB (n := w.heap.size) hb ?_; intro h_w_0 e_w_0 d_w_0 _ _)); (try (refine bcB (n := w1.heap.size) hb ?_; intro h_w1_0 e_w1_0 d_w1_0 _ _)); (try (refine bcB (n := w2.heap.size) hb ?_; intro h_w2_0 e_w2_0 d_w2_0 _ _)); (try (refine bcB (n := w3.heap.size) hb ?_; intro h_w3_0 e_w3_0 d_w3_0 _ _)); (try (refine bcB (n := w4.heap.size) hb ?_; intro h_w4_0 e_w4_0 d_w4_0 _ _))))
      refine bodyPost_ret (v := .tuple #[.agg #[.int .i64 0, .int .i64 0], .int .i64 4]) (by simp only [results, Tryd.results73]; go_simp) rfl ⟨rfl, ?_⟩
      exact belz
    · have hk := fun w1 => c_fcCheck v u w1
      rw [q] at hk
      have HK := Lib.hid hk
      clear hk q HN
      go_wp2_with (first | (go_at_call 36; (with_reducible refine (HK.out _).mono ?_); rintro e w4 ⟨rfl, hb⟩; have hz := hb.size; (try simp only [szA, szS, szD, szN] at hz); (try (refine bcB (n := w.heap.size) hb ?_; intro h_w_0 e_w_0 d_w_0 _ _)); (try (refine bcB (n := w1.heap.size) hb ?_; intro h_w1_0 e_w1_0 d_w1_0 _ _)); (try (refine bcB (n := w2.heap.size) hb ?_; intro h_w2_0 e_w2_0 d_w2_0 _ _)); (try (refine bcB (n := w3.heap.size) hb ?_; intro h_w3_0 e_w3_0 d_w3_0 _ _))))
      refine bodyPost_ret (v := .tuple #[.agg #[.int .i64 0, .int .i64 0], .int .i64 4]) (by simp only [results, Tryd.results73]; go_simp) rfl ⟨rfl, ?_⟩
      exact belz
end Go.Proofs.YtbcehnhiedbbbaaDoor
