/- The walk through the law FigureReads. -/
import Derived.Test.YtbcehnhiedbbbaaDoorWalkFgW
import Derived.Test.YtbcehnhiedbbbaaDoorWalkSam
set_option linter.unusedVariables false
set_option linter.unusedSimpArgs false
namespace Go.Proofs.YtbcehnhiedbbbaaDoor
open Go.RowKit
theorem c_sameZ (w : World) : Calls Tryd.prog 32 #[.agg #[.slice none 0 0, .slice none 0 0], .agg #[.slice none 0 0, .slice none 0 0]] w fun e w' => e = .returned (.bool true) ∧ Below w.heap.size w w' :=
  c_same none none none none 0 0 0 0 [] [] w (fun k h => absurd h (Nat.not_lt_zero k)) (fun k h => absurd h (Nat.not_lt_zero k)) (fun k h => absurd h (Nat.not_lt_zero k)) (fun k h => absurd h (Nat.not_lt_zero k)) (Nat.zero_le _) (Nat.zero_le _) (fun r h => by simp at h)
/-- A text that is read as a figure. -/
structure RdGood (S : ByteArray) (P : List Fp) (L : List (List Int)) : Prop where
  ok : fgE P L = 0
  e : fgT P L = S.data.toList
  c : ∀ w, NTab w → NEr w → NMx w → Calls Tryd.prog 31 #[.string S] w fun e w' => ∃ a b ca cb, e = .returned (.tuple #[.agg #[.slice a P.length ca, .slice b L.length cb], .int .i64 0]) ∧ FigOwn w' w.heap.size (.slice a P.length ca) (.slice b L.length cb) P L ∧ P.length ≤ ca ∧ L.length ≤ cb ∧ Below w.heap.size w w'
theorem strB_self (S : ByteArray) : strB S.data.toList = S := by cases S; rfl
theorem rd_good {s : List UInt8} {P : List Fp} {L : List (List Int)} (hs : s.length ≤ 16000) (h : rd s = some (P, L)) (h0 : fgE P L = 0) : RdGood (strB s) P L := by
  refine ⟨h0, ?_, fun w hT hE hM => (c_Read s w hT hE hM hs).mono fun e w' ⟨h1, h2⟩ => ?_⟩
  · rw [strB_l]; exact rd_sound h
  · unfold RdOk at h1
    rw [h] at h1
    simp only at h1
    rw [if_pos h0] at h1
    obtain ⟨a, b, ca, cb, e1, _, _, e4, e5, e6⟩ := h1
    exact ⟨a, b, ca, cb, e1, e6, e4, e5, h2⟩
theorem rd_bad {s : List UInt8} (hs : s.length ≤ 16000) (h : ∀ P L, rd s = some (P, L) → fgE P L ≠ 0) : ∃ x : Int, x ≠ 0 ∧ ∀ w, NTab w → NEr w → NMx w → Calls Tryd.prog 31 #[.string (strB s)] w fun e w' => e = .returned (.tuple #[.agg #[.slice none 0 0, .slice none 0 0], .int .i64 x]) ∧ Below w.heap.size w w' := by
  cases hr : rd s with
  | none =>
    refine ⟨4, by decide, fun w hT hE hM => (c_Read s w hT hE hM hs).mono fun e w' ⟨h1, h2⟩ => ⟨?_, h2⟩⟩
    unfold RdOk at h1
    rw [hr] at h1
    exact h1
  | some q =>
    obtain ⟨P, L⟩ := q
    refine ⟨fgE P L, h P L hr, fun w hT hE hM => (c_Read s w hT hE hM hs).mono fun e w' ⟨h1, h2⟩ => ⟨?_, h2⟩⟩
    unfold RdOk at h1
    rw [hr] at h1
    simp only at h1
    rw [if_neg (h P L hr)] at h1
    exact h1
set_option maxRecDepth 100000 in
set_option maxHeartbeats 4000000 in
theorem walk_Frd_large (S : ByteArray) (a b : Option Addr) (ca cb : Nat) (P : List Fp) (L : List (List Int)) (w : World) (hT : NTab w) (hE : NEr w) (hM : NMx w) (hsz : S.size ≤ 9223372036854775807) (hsL : 16000 < S.size) :
    Calls Tryd.prog 8 #[.string S, .agg #[.slice a P.length ca, .slice b L.length cb]] w fun e w' => e = .returned (.bool true) ∧ Below w.heap.size w w' := by
  have g := decide_eq_true (show (16000 : Int) < (S.size : Int) by omega)
  have HT := Lib.hid hT
  have HE := Lib.hid hE
  have HM := Lib.hid hM
  clear hT hE hM
  have hgen := sgen; have hgen2 := sgen2; have hgen3 := sgen3; go_enter Tryd.func8, Tryd.ntmps8
  go_wp2_with (first | (go_at_call 26; (with_reducible refine (c_fgWorks _ (HT.out.below (by exact belz)) (HE.out.below (by exact belz)) (HM.out.below (by exact belz))).mono ?_); rintro e w1 ⟨rfl, hb⟩; have hz := hb.size; (try simp only [szA, szS, szD, szN] at hz); (try (refine bcB (n := w.heap.size) hb ?_; intro h_w_0 e_w_0 d_w_0 _ _))) | (go_at_call 31; (with_reducible refine (c_Read_large S _ hsL hsz).mono ?_); rintro e w2 ⟨rfl, hb⟩; have hz := hb.size; (try simp only [szA, szS, szD, szN] at hz); (try (refine bcB (n := w.heap.size) hb ?_; intro h_w_0 e_w_0 d_w_0 _ _))) | (go_at_call 32; (with_reducible refine (c_sameZ _).mono ?_); rintro e w3 ⟨rfl, hb⟩; have hz := hb.size; (try simp only [szA, szS, szD, szN] at hz); (try (refine bcB (n := w.heap.size) hb ?_; intro h_w_0 e_w_0 d_w_0 _ _)); (try (refine bcB (n := w2.heap.size) hb ?_; intro h_w2_0 e_w2_0 d_w2_0 _ _))))
  go_ret
  refine ⟨rfl, ?_⟩
  exact belz
set_option maxRecDepth 100000 in
set_option maxHeartbeats 4000000 in
theorem walk_Frd_bad (S : ByteArray) (x : Int) (hx : x ≠ 0) (hR : ∀ w, NTab w → NEr w → NMx w → Calls Tryd.prog 31 #[.string S] w fun e w' => e = .returned (.tuple #[.agg #[.slice none 0 0, .slice none 0 0], .int .i64 x]) ∧ Below w.heap.size w w') (a b : Option Addr) (ca cb : Nat) (P : List Fp) (L : List (List Int)) (w : World) (hT : NTab w) (hE : NEr w) (hM : NMx w) (hP : FpSlice w a P) (hL : MatSlice w b L) (hca : P.length ≤ ca) (hcb : L.length ≤ cb) (hs : S.size ≤ 16000) :
    Calls Tryd.prog 8 #[.string S, .agg #[.slice a P.length ca, .slice b L.length cb]] w fun e w' => e = .returned (.bool true) ∧ Below w.heap.size w w' := by
  have g := decide_eq_false (show ¬ (16000 : Int) < (S.size : Int) by omega)
  have gx : (x == 0) = false := by simpa using hx
  have HT := Lib.hid hT
  have HE := Lib.hid hE
  have HM := Lib.hid hM
  have HP := Lib.hid hP
  have HL := Lib.hid hL
  have HR := Lib.hid hR
  clear hT hE hM hP hL hR
  have hgen := sgen; have hgen2 := sgen2; have hgen3 := sgen3; go_enter Tryd.func8, Tryd.ntmps8
  go_upto_region 12 with (first | (go_at_call 26; (with_reducible refine (c_fgWorks _ (HT.out.below (by exact belz)) (HE.out.below (by exact belz)) (HM.out.below (by exact belz))).mono ?_); rintro e w1 ⟨rfl, hb⟩; have hz := hb.size; (try simp only [szA, szS, szD, szN] at hz); (try (refine bcB (n := w.heap.size) hb ?_; intro h_w_0 e_w_0 d_w_0 _ _))) | (go_at_call 31; (with_reducible refine (HR.out _ (HT.out.below (by exact belz)) (HE.out.below (by exact belz)) (HM.out.below (by exact belz))).mono ?_); rintro e w2 ⟨rfl, hb⟩; have hz := hb.size; (try simp only [szA, szS, szD, szN] at hz); (try (refine bcB (n := w.heap.size) hb ?_; intro h_w_0 e_w_0 d_w_0 _ _))) | (go_at_call 32; (with_reducible refine (c_sameZ _).mono ?_); rintro e w3 ⟨rfl, hb⟩; have hz := hb.size; (try simp only [szA, szS, szD, szN] at hz); (try (refine bcB (n := w.heap.size) hb ?_; intro h_w_0 e_w_0 d_w_0 _ _)); (try (refine bcB (n := w2.heap.size) hb ?_; intro h_w2_0 e_w2_0 d_w2_0 _ _))))
  by_cases hf : fgE P L = 0
  · have HX := Lib.hid (fun w1 (h0 : NTab w1) (h1 : FpSlice w1 a P) (h2 : MatSlice w1 b L) => c_fgText_ok a b ca cb P L w1 h0 h1 h2 hca hcb hf)
    obtain ⟨hp60, hl40, hep, hel⟩ := fgE_ok hf
    have HSz := Lib.hid (show P.length ≤ maxLen ∧ L.length ≤ maxLen ∧ ∀ r ∈ L, r.length ≤ maxLen from ⟨by unfold maxLen; omega, by unfold maxLen; omega, fun r hr => by have := (lnE_ok (fe_mem0 hel hr)).2.1; unfold maxLen; omega⟩)
    by_cases hbig : 16000 < (fgT P L).length
    · have gT := decide_eq_true (show (16000 : Int) < ((strB (fgT P L)).size : Int) by rw [strB_size]; omega)
      generalize strB (fgT P L) = T at *
      go_wp2_with (go_at_call 27; (with_reducible refine (HX.out _ (HT.out.below (by exact belz)) (HP.out.below (Nat.le_refl _) (by exact belz)) (HL.out.below (Nat.le_refl _) (by exact belz))).mono ?_); rintro e w4 ⟨rfl, hb⟩; have hz := hb.size; (try simp only [szA, szS, szD, szN] at hz); (try (refine bcB (n := w.heap.size) hb ?_; intro h_w_0 e_w_0 d_w_0 _ _)); (try (refine bcB (n := w2.heap.size) hb ?_; intro h_w2_0 e_w2_0 d_w2_0 _ _)))
      go_ret
      refine ⟨rfl, ?_⟩
      exact belz
    · have gT := decide_eq_false (show ¬ (16000 : Int) < ((strB (fgT P L)).size : Int) by rw [strB_size]; omega)
      have HG2 := Lib.hid (rd_good (by omega) (rd_text hf) hf)
      generalize strB (fgT P L) = T at *
      go_upto_region 16 with (first | (go_at_call 27; (with_reducible refine (HX.out _ (HT.out.below (by exact belz)) (HP.out.below (Nat.le_refl _) (by exact belz)) (HL.out.below (Nat.le_refl _) (by exact belz))).mono ?_); rintro e w4 ⟨rfl, hb⟩; have hz := hb.size; (try simp only [szA, szS, szD, szN] at hz); (try (refine bcB (n := w.heap.size) hb ?_; intro h_w_0 e_w_0 d_w_0 _ _)); (try (refine bcB (n := w2.heap.size) hb ?_; intro h_w2_0 e_w2_0 d_w2_0 _ _))) | (go_at_call 31; (with_reducible refine (HG2.out.c _ (HT.out.below (by exact belz)) (HE.out.below (by exact belz)) (HM.out.below (by exact belz))).mono ?_); rintro e w5 ⟨a5, b5, ca5, cb5, rfl, hF5, hca5, hcb5, hb⟩; have hz := hb.size; (try simp only [szA, szS, szD, szN] at hz); (try (refine bcB (n := w.heap.size) hb ?_; intro h_w_0 e_w_0 d_w_0 _ _)); (try (refine bcB (n := w2.heap.size) hb ?_; intro h_w2_0 e_w2_0 d_w2_0 _ _))))
      have hF6 := FigOwn.kept (w' := (w5.setCell ⟨w2.heap.size, 0, none⟩ (.slice a5 P.length ca5)).setCell ⟨w2.heap.size, 1, none⟩ (.slice b5 L.length cb5)) hF5 (fun g h1 h2 => by
        have h3 : w2.heap.size < w4.heap.size := by assumption
        rw [setCell_heap _ _ _ _ (by show g ≠ w2.heap.size; omega), setCell_heap _ _ _ _ (by show g ≠ w2.heap.size; omega)])
      go_wp2_with (go_at_call 32; (with_reducible refine (c_same a b a5 b5 ca cb ca5 cb5 P L _ (HP.out.below (Nat.le_refl _) (by exact belz)) (HL.out.below (Nat.le_refl _) (by exact belz)) hF6.fp hF6.mt HSz.out.1 HSz.out.2.1 HSz.out.2.2).mono ?_); rintro e w6 ⟨rfl, hb⟩; have hz := hb.size; (try simp only [szA, szS, szD, szN] at hz); (try (refine bcB (n := w.heap.size) hb ?_; intro h_w_0 e_w_0 d_w_0 _ _)))
      go_ret
      refine ⟨rfl, ?_⟩
      exact belz
  · have HX := Lib.hid (fun w1 (_ : NTab w1) (h1 : FpSlice w1 a P) (h2 : MatSlice w1 b L) => c_fgText_bad a b ca cb P L w1 h1 h2 hca hcb hf)
    generalize fgE P L = y at *
    have gy : (y == 0) = false := by simpa using hf
    have gy2 : (y != 0) = true := by simpa using hf
    go_wp2_with (go_at_call 27; (with_reducible refine (HX.out _ (HT.out.below (by exact belz)) (HP.out.below (Nat.le_refl _) (by exact belz)) (HL.out.below (Nat.le_refl _) (by exact belz))).mono ?_); rintro e w4 ⟨rfl, hb⟩; have hz := hb.size; (try simp only [szA, szS, szD, szN] at hz); (try (refine bcB (n := w.heap.size) hb ?_; intro h_w_0 e_w_0 d_w_0 _ _)); (try (refine bcB (n := w2.heap.size) hb ?_; intro h_w2_0 e_w2_0 d_w2_0 _ _)))
    go_ret
    refine ⟨rfl, ?_⟩
    exact belz
set_option maxRecDepth 100000 in
set_option maxHeartbeats 4000000 in
theorem walk_Frd_good (S : ByteArray) (P' : List Fp) (L' : List (List Int)) (hG : RdGood S P' L') (a b : Option Addr) (ca cb : Nat) (P : List Fp) (L : List (List Int)) (w : World) (hT : NTab w) (hE : NEr w) (hM : NMx w) (hP : FpSlice w a P) (hL : MatSlice w b L) (hca : P.length ≤ ca) (hcb : L.length ≤ cb) (hs : S.size ≤ 16000) :
    Calls Tryd.prog 8 #[.string S, .agg #[.slice a P.length ca, .slice b L.length cb]] w fun e w' => e = .returned (.bool true) ∧ Below w.heap.size w w' := by
  have g := decide_eq_false (show ¬ (16000 : Int) < (S.size : Int) by omega)
  have HTx := Lib.hid (fun a2 b2 ca2 cb2 w1 h0 h1 h2 h3 h4 => show Calls Tryd.prog 27 #[.agg #[.slice a2 P'.length ca2, .slice b2 L'.length cb2]] w1 fun e w' => e = .returned (.tuple #[.string S, .int .i64 0]) ∧ Below w1.heap.size w1 w' from by
    have h := c_fgText_ok a2 b2 ca2 cb2 P' L' w1 h0 h1 h2 h3 h4 hG.ok
    rw [hG.e, strB_self] at h
    exact h)
  have HT := Lib.hid hT
  have HE := Lib.hid hE
  have HM := Lib.hid hM
  have HP := Lib.hid hP
  have HL := Lib.hid hL
  have HG := Lib.hid hG
  clear hT hE hM hP hL hG
  have hgen := sgen; have hgen2 := sgen2; have hgen3 := sgen3; go_enter Tryd.func8, Tryd.ntmps8
  go_upto_region 12 with (first | (go_at_call 26; (with_reducible refine (c_fgWorks _ (HT.out.below (by exact belz)) (HE.out.below (by exact belz)) (HM.out.below (by exact belz))).mono ?_); rintro e w1 ⟨rfl, hb⟩; have hz := hb.size; (try simp only [szA, szS, szD, szN] at hz); (try (refine bcB (n := w.heap.size) hb ?_; intro h_w_0 e_w_0 d_w_0 _ _))) | (go_at_call 31; (with_reducible refine (HG.out.c _ (HT.out.below (by exact belz)) (HE.out.below (by exact belz)) (HM.out.below (by exact belz))).mono ?_); rintro e w2 ⟨a2, b2, ca2, cb2, rfl, hF2, hca2, hcb2, hb⟩; have hz := hb.size; (try simp only [szA, szS, szD, szN] at hz); (try (refine bcB (n := w.heap.size) hb ?_; intro h_w_0 e_w_0 d_w_0 _ _))) | (go_at_call 27; (with_reducible refine (HTx.out _ _ _ _ _ (HT.out.below (by exact belz)) (hF2.fp.below (Nat.le_refl _) (by exact belz)) (hF2.mt.below (Nat.le_refl _) (by exact belz)) hca2 hcb2).mono ?_); rintro e w3 ⟨rfl, hb⟩; have hz := hb.size; (try simp only [szA, szS, szD, szN] at hz); (try (refine bcB (n := w.heap.size) hb ?_; intro h_w_0 e_w_0 d_w_0 _ _)); (try (refine bcB (n := w2.heap.size) hb ?_; intro h_w2_0 e_w2_0 d_w2_0 _ _))))
  by_cases hf : fgE P L = 0
  · have HX := Lib.hid (fun w1 (h0 : NTab w1) (h1 : FpSlice w1 a P) (h2 : MatSlice w1 b L) => c_fgText_ok a b ca cb P L w1 h0 h1 h2 hca hcb hf)
    obtain ⟨hp60, hl40, hep, hel⟩ := fgE_ok hf
    have HSz := Lib.hid (show P.length ≤ maxLen ∧ L.length ≤ maxLen ∧ ∀ r ∈ L, r.length ≤ maxLen from ⟨by unfold maxLen; omega, by unfold maxLen; omega, fun r hr => by have := (lnE_ok (fe_mem0 hel hr)).2.1; unfold maxLen; omega⟩)
    by_cases hbig : 16000 < (fgT P L).length
    · have gT := decide_eq_true (show (16000 : Int) < ((strB (fgT P L)).size : Int) by rw [strB_size]; omega)
      generalize strB (fgT P L) = T at *
      go_wp2_with (go_at_call 27; (with_reducible refine (HX.out _ (HT.out.below (by exact belz)) (HP.out.below (Nat.le_refl _) (by exact belz)) (HL.out.below (Nat.le_refl _) (by exact belz))).mono ?_); rintro e w4 ⟨rfl, hb⟩; have hz := hb.size; (try simp only [szA, szS, szD, szN] at hz); (try (refine bcB (n := w.heap.size) hb ?_; intro h_w_0 e_w_0 d_w_0 _ _)); (try (refine bcB (n := w2.heap.size) hb ?_; intro h_w2_0 e_w2_0 d_w2_0 _ _)))
      go_ret
      refine ⟨rfl, ?_⟩
      exact belz
    · have gT := decide_eq_false (show ¬ (16000 : Int) < ((strB (fgT P L)).size : Int) by rw [strB_size]; omega)
      have HG2 := Lib.hid (rd_good (by omega) (rd_text hf) hf)
      generalize strB (fgT P L) = T at *
      go_upto_region 16 with (first | (go_at_call 27; (with_reducible refine (HX.out _ (HT.out.below (by exact belz)) (HP.out.below (Nat.le_refl _) (by exact belz)) (HL.out.below (Nat.le_refl _) (by exact belz))).mono ?_); rintro e w4 ⟨rfl, hb⟩; have hz := hb.size; (try simp only [szA, szS, szD, szN] at hz); (try (refine bcB (n := w.heap.size) hb ?_; intro h_w_0 e_w_0 d_w_0 _ _)); (try (refine bcB (n := w2.heap.size) hb ?_; intro h_w2_0 e_w2_0 d_w2_0 _ _))) | (go_at_call 31; (with_reducible refine (HG2.out.c _ (HT.out.below (by exact belz)) (HE.out.below (by exact belz)) (HM.out.below (by exact belz))).mono ?_); rintro e w5 ⟨a5, b5, ca5, cb5, rfl, hF5, hca5, hcb5, hb⟩; have hz := hb.size; (try simp only [szA, szS, szD, szN] at hz); (try (refine bcB (n := w.heap.size) hb ?_; intro h_w_0 e_w_0 d_w_0 _ _)); (try (refine bcB (n := w2.heap.size) hb ?_; intro h_w2_0 e_w2_0 d_w2_0 _ _))))
      have hF6 := FigOwn.kept (w' := (w5.setCell ⟨w2.heap.size, 0, none⟩ (.slice a5 P.length ca5)).setCell ⟨w2.heap.size, 1, none⟩ (.slice b5 L.length cb5)) hF5 (fun g h1 h2 => by
        have h3 : w2.heap.size < w4.heap.size := by assumption
        rw [setCell_heap _ _ _ _ (by show g ≠ w2.heap.size; omega), setCell_heap _ _ _ _ (by show g ≠ w2.heap.size; omega)])
      go_wp2_with (go_at_call 32; (with_reducible refine (c_same a b a5 b5 ca cb ca5 cb5 P L _ (HP.out.below (Nat.le_refl _) (by exact belz)) (HL.out.below (Nat.le_refl _) (by exact belz)) hF6.fp hF6.mt HSz.out.1 HSz.out.2.1 HSz.out.2.2).mono ?_); rintro e w6 ⟨rfl, hb⟩; have hz := hb.size; (try simp only [szA, szS, szD, szN] at hz); (try (refine bcB (n := w.heap.size) hb ?_; intro h_w_0 e_w_0 d_w_0 _ _)))
      go_ret
      refine ⟨rfl, ?_⟩
      exact belz
  · have HX := Lib.hid (fun w1 (_ : NTab w1) (h1 : FpSlice w1 a P) (h2 : MatSlice w1 b L) => c_fgText_bad a b ca cb P L w1 h1 h2 hca hcb hf)
    generalize fgE P L = y at *
    have gy : (y == 0) = false := by simpa using hf
    have gy2 : (y != 0) = true := by simpa using hf
    go_wp2_with (go_at_call 27; (with_reducible refine (HX.out _ (HT.out.below (by exact belz)) (HP.out.below (Nat.le_refl _) (by exact belz)) (HL.out.below (Nat.le_refl _) (by exact belz))).mono ?_); rintro e w4 ⟨rfl, hb⟩; have hz := hb.size; (try simp only [szA, szS, szD, szN] at hz); (try (refine bcB (n := w.heap.size) hb ?_; intro h_w_0 e_w_0 d_w_0 _ _)); (try (refine bcB (n := w2.heap.size) hb ?_; intro h_w2_0 e_w2_0 d_w2_0 _ _)))
    go_ret
    refine ⟨rfl, ?_⟩
    exact belz
theorem walk_FigureReads (S : ByteArray) (a b : Option Addr) (ca cb : Nat) (P : List Fp) (L : List (List Int)) (w : World) (hT : NTab w) (hE : NEr w) (hM : NMx w) (hsz : S.size ≤ 140737488351232) (hP : FpSlice w a P) (hL : MatSlice w b L) (hca : P.length ≤ ca) (hcb : L.length ≤ cb) :
    Calls Tryd.prog 8 #[.string S, .agg #[.slice a P.length ca, .slice b L.length cb]] w fun e w' => e = .returned (.bool true) ∧ Below w.heap.size w w' := by
  by_cases hs : 16000 < S.size
  · exact walk_Frd_large S a b ca cb P L w hT hE hM (by omega) hs
  · have hl : S.data.toList.length ≤ 16000 := by
      have e2 : S.data.toList.length = S.size := Array.length_toList
      omega
    by_cases hq : ∃ P' L', rd S.data.toList = some (P', L') ∧ fgE P' L' = 0
    · obtain ⟨P', L', h1, h2⟩ := hq
      have hg := rd_good hl h1 h2
      rw [strB_self] at hg
      exact walk_Frd_good S P' L' hg a b ca cb P L w hT hE hM hP hL hca hcb (by omega)
    · obtain ⟨x, hx, hr⟩ := rd_bad hl (fun P' L' h1 h2 => hq ⟨P', L', h1, h2⟩)
      rw [strB_self] at hr
      exact walk_Frd_bad S x hx hr a b ca cb P L w hT hE hM hP hL hca hcb (by omega)
end Go.Proofs.YtbcehnhiedbbbaaDoor
