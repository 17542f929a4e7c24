/- The walk through the law FigureTexts. -/
import Derived.Test.YtbcehnhiedbbbaaDoorWalkFgW
import Derived.Test.YtbcehnhiedbbbaaDoorWalkFgE
import Derived.Test.YtbcehnhiedbbbaaDoorWalkNo5
set_option linter.unusedVariables false
set_option linter.unusedSimpArgs false
namespace Go.Proofs.YtbcehnhiedbbbaaDoor
open Go.RowKit
set_option maxRecDepth 100000 in
set_option maxHeartbeats 4000000 in
theorem walk_Ftx_bad (a b : Option Addr) (ca cb : Nat) (P : List Fp) (L : List (List Int)) (w : World) (hT : NTab w) (hE : NEr w) (hM : NMx w) (hP : FpSlice w a P) (hL : MatSlice w b L) (hca : P.length ≤ ca) (hcb : L.length ≤ cb) (h : fgE P L ≠ 0) :
    Calls Tryd.prog 7 #[.agg #[.slice a P.length ca, .slice b L.length cb]] w fun e w' => e = .returned (.bool true) ∧ Below w.heap.size w w' := by
  have HX := Lib.hid (fun w1 (_ : NTab w1) (h1 : FpSlice w1 a P) (h2 : MatSlice w1 b L) => c_fgText_bad a b ca cb P L w1 h1 h2 hca hcb h)
  have HEr := Lib.hid (fun w1 (h1 : FpSlice w1 a P) (h2 : MatSlice w1 b L) => c_fgErr a b ca cb P L w1 h1 h2 hca hcb)
  have HC := Lib.hid (fun w1 (h1 : FpSlice w1 a P) (h2 : MatSlice w1 b L) => c_fgCheck a b ca cb P L w1 h1 h2 hca hcb)
  generalize fgE P L = x at *
  have g : (x == 0) = false := by simpa using h
  have g2 : (x != 0) = true := by simpa using h
  have HP := Lib.hid hP
  have HL := Lib.hid hL
  have HT := Lib.hid hT
  have HE := Lib.hid hE
  have HM := Lib.hid hM
  clear hP hL hT hE hM
  have hgen := sgen; have hgen2 := sgen2; have hgen3 := sgen3; go_enter Tryd.func7, Tryd.ntmps7
  go_wp2_with (first | (go_at_call 26; (with_reducible refine (c_fgWorks _ (HT.out.below (by exact belz)) (HE.out.below (by exact belz)) (HM.out.below (by exact belz))).mono ?_); rintro e w1 ⟨rfl, hb⟩; have hz := hb.size; (try simp only [szA, szS, szD, szN] at hz); (try (refine bcB (n := w.heap.size) hb ?_; intro h_w_0 e_w_0 d_w_0 _ _))) | (go_at_call 27; (with_reducible refine (HX.out _ (HT.out.below (by exact belz)) (HP.out.below (Nat.le_refl _) (by exact belz)) (HL.out.below (Nat.le_refl _) (by exact belz))).mono ?_); rintro e w2 ⟨rfl, hb⟩; have hz := hb.size; (try simp only [szA, szS, szD, szN] at hz); (try (refine bcB (n := w.heap.size) hb ?_; intro h_w_0 e_w_0 d_w_0 _ _))) | (go_at_call 28; (with_reducible refine (HEr.out _ (HP.out.below (Nat.le_refl _) (by exact belz)) (HL.out.below (Nat.le_refl _) (by exact belz))).mono ?_); rintro e w3 ⟨rfl, hb⟩; have hz := hb.size; (try simp only [szA, szS, szD, szN] at hz); (try (refine bcB (n := w.heap.size) hb ?_; intro h_w_0 e_w_0 d_w_0 _ _))) | (go_at_call 29; (with_reducible refine (HC.out _ (HP.out.below (Nat.le_refl _) (by exact belz)) (HL.out.below (Nat.le_refl _) (by exact belz))).mono ?_); rintro e w4 ⟨rfl, hb⟩; have hz := hb.size; (try simp only [szA, szS, szD, szN] at hz); (try (refine bcB (n := w.heap.size) hb ?_; intro h_w_0 e_w_0 d_w_0 _ _))))
  go_ret
  refine ⟨rfl, ?_⟩
  exact belz
set_option maxRecDepth 100000 in
set_option maxHeartbeats 4000000 in
theorem walk_Ftx_ok (a b : Option Addr) (ca cb : Nat) (P : List Fp) (L : List (List Int)) (w : World) (hT : NTab w) (hE : NEr w) (hM : NMx w) (hP : FpSlice w a P) (hL : MatSlice w b L) (hca : P.length ≤ ca) (hcb : L.length ≤ cb) (h : fgE P L = 0) :
    Calls Tryd.prog 7 #[.agg #[.slice a P.length ca, .slice b L.length cb]] w fun e w' => e = .returned (.bool true) ∧ Below w.heap.size w w' := by
  have HX := Lib.hid (fun w1 (h0 : NTab w1) (h1 : FpSlice w1 a P) (h2 : MatSlice w1 b L) => c_fgText_ok a b ca cb P L w1 h0 h1 h2 hca hcb h)
  have he := fun w1 (h1 : FpSlice w1 a P) (h2 : MatSlice w1 b L) => c_fgErr a b ca cb P L w1 h1 h2 hca hcb
  have hc := fun w1 (h1 : FpSlice w1 a P) (h2 : MatSlice w1 b L) => c_fgCheck a b ca cb P L w1 h1 h2 hca hcb
  rw [h] at he hc
  have HEr := Lib.hid he
  have HC := Lib.hid hc
  obtain ⟨hp60, hl40, hep, hel⟩ := fgE_ok h
  have HP := Lib.hid hP
  have HL := Lib.hid hL
  have HT := Lib.hid hT
  have HE := Lib.hid hE
  have HM := Lib.hid hM
  clear hP hL hT hE hM he hc h
  have hD0 := flat_le ptT 90 P (fun x hx => ptT_le (fe_mem0 hep hx))
  obtain ⟨W, hW⟩ : ∃ W, W = fgT P L := ⟨_, rfl⟩
  rw [← hW] at HX
  have hWl : fgT P L = P.flatMap ptT ++ L.flatMap lnT := rfl
  rw [← hW] at hWl
  have HW := Lib.hid hWl
  clear hWl hW
  have hgen := sgen; have hgen2 := sgen2; have hgen3 := sgen3; go_enter Tryd.func7, Tryd.ntmps7
  go_wp2_with (first | (go_at_call 26; (with_reducible refine (c_fgWorks _ (HT.out.below (by exact belz)) (HE.out.below (by exact belz)) (HM.out.below (by exact belz))).mono ?_); rintro e w1 ⟨rfl, hb⟩; have hz := hb.size; (try simp only [szA, szS, szD, szN] at hz); (try (refine bcB (n := w.heap.size) hb ?_; intro h_w_0 e_w_0 d_w_0 _ _))) | (go_at_call 27; (with_reducible refine (HX.out _ (HT.out.below (by exact belz)) (HP.out.below (Nat.le_refl _) (by exact belz)) (HL.out.below (Nat.le_refl _) (by exact belz))).mono ?_); rintro e w2 ⟨rfl, hb⟩; have hz := hb.size; (try simp only [szA, szS, szD, szN] at hz); (try (refine bcB (n := w.heap.size) hb ?_; intro h_w_0 e_w_0 d_w_0 _ _))) | (go_at_call 28; (with_reducible refine (HEr.out _ (HP.out.below (Nat.le_refl _) (by exact belz)) (HL.out.below (Nat.le_refl _) (by exact belz))).mono ?_); rintro e w3 ⟨rfl, hb⟩; have hz := hb.size; (try simp only [szA, szS, szD, szN] at hz); (try (refine bcB (n := w.heap.size) hb ?_; intro h_w_0 e_w_0 d_w_0 _ _))) | (go_at_call 29; (with_reducible refine (HC.out _ (HP.out.below (Nat.le_refl _) (by exact belz)) (HL.out.below (Nat.le_refl _) (by exact belz))).mono ?_); rintro e w4 ⟨rfl, hb⟩; have hz := hb.size; (try simp only [szA, szS, szD, szN] at hz); (try (refine bcB (n := w.heap.size) hb ?_; intro h_w_0 e_w_0 d_w_0 _ _))))
  have hb0 : Below w.heap.size w w4 := by exact belz
  have hs0 : w.heap.size < w4.heap.size := by (try simp only [szA, szS, szD, szN] at *); omega
  go_loopg [6, 42] P.length (fun gk x6 i wr => ∃ k : Nat, gk + k = P.length ∧ i = .int .i64 k ∧ x6 = .string (strB ((P.take k).flatMap ptT)) ∧ wr.cell? ⟨w.heap.size, 0, none⟩ = some (.slice a P.length ca) ∧ wr.cell? ⟨w.heap.size, 1, none⟩ = some (.slice b L.length cb) ∧ Below w4.heap.size w4 wr)
  case atStart => exact ⟨0, by omega, rfl, rfl, by go_simp, by go_simp, Below.refl _ _⟩
  case round =>
    obtain ⟨k, hk, rfl, rfl, d0, d1, hbel⟩ := hrel
    have hbw : Below w.heap.size w wr := hb0.trans (hbel.mono (by omega))
    have hsz := hbel.size
    by_cases hlt : k < P.length
    · obtain ⟨bb, off, ha, hb1, c0, c1, c2, c3⟩ := (HP.out.below (Nat.le_refl _) hbw) k hlt
      have ix1 := @ix_Fp a bb off P.length ca k ha hlt
      have hat := fe_zero hep k hlt
      have hlen := flat_le ptT 90 (P.take k) (fun x hx => ptT_le (fe_mem0 hep (List.mem_of_mem_take hx)))
      have hle := ptT_le hat
      have hsn := take_flat ptT P k hlt
      have htk : (P.take k).length ≤ 60 := by simp; omega
      clear ha
      generalize P[k] = x at *
      generalize (P.take k).flatMap ptT = D at *
      have x6 : ∀ w0, (Op.stringOp .add (strB D) (strB (ptT x))).run Tryd.prog w0 = .ok (.string (strB (D ++ ptT x))) w0 := fun w0 => add_str _ _ (by omega) w0
      rw [← hsn] at x6
      generalize hD2 : (P.take (k + 1)).flatMap ptT = D2 at *
      have HD2 := Lib.hid hD2
      clear hD2
      obtain ⟨xn, xd, yn, yd⟩ := x
      dsimp only at c0 c1 c2 c3
      obtain ⟨q, r⟩ := ptE_zero hat
      dsimp only at q r
      have HPX := Lib.hid (fun w1 h1 => c_fText xn xd w1 h1 q)
      have HPY := Lib.hid (fun w1 h1 => c_fText yn yd w1 h1 r)
      obtain ⟨x1, x2, x3, x4⟩ := pt_steps (showF_le q) (showF_le r)
      have x5 : ∀ w0, (Op.stringOp .add (strB ([112, 32] ++ showF xn xd ++ [32] ++ showF yn yd)) ⟨#[10]⟩).run Tryd.prog w0 = .ok (.string (strB (ptT ⟨xn, xd, yn, yd⟩))) w0 := x4
      clear x4 q r hle hlen hat hsn
      generalize strB ([112, 32] ++ showF xn xd ++ [32] ++ showF yn yd) = A4 at *
      generalize strB ([112, 32] ++ showF xn xd ++ [32]) = A3 at *
      generalize strB ([112, 32] ++ showF xn xd) = A2 at *
      generalize strB (showF xn xd) = A1 at *
      generalize strB (showF yn yd) = A0 at *
      generalize strB (ptT ⟨xn, xd, yn, yd⟩) = T at *
      generalize strB D = Ds at *
      go_upto_region 14 with (go_at_call 30; (with_reducible refine (HPX.out _ (HT.out.below (by exact belz))).mono ?_); rintro e w5 ⟨rfl, hb⟩; have hz := hb.size; (try simp only [szA, szS, szD, szN] at hz); (try (refine bcB (n := w.heap.size) hb ?_; intro h_w_0 e_w_0 d_w_0 _ _)); (try (refine bcB (n := wr.heap.size) hb ?_; intro h_wr_0 e_wr_0 d_wr_0 _ _)))
      go_wp2_with (go_at_call 30; (with_reducible refine (HPY.out _ (HT.out.below (by exact belz))).mono ?_); rintro e w6 ⟨rfl, hb⟩; have hz := hb.size; (try simp only [szA, szS, szD, szN] at hz); (try (refine bcB (n := w.heap.size) hb ?_; intro h_w_0 e_w_0 d_w_0 _ _)))
      have hw6 : Below w4.heap.size wr w6 := by (clear hbel hbw hb0; exact belz)
      go_roundg (P.length - (k + 1))
      case measure => omega
      case rel => exact ⟨k + 1, by omega, by go_num, by rw [HD2.out], (hw6.cell (p := ⟨w.heap.size, 0, none⟩) hs0).trans d0, (hw6.cell (p := ⟨w.heap.size, 1, none⟩) hs0).trans d1, hbel.trans hw6⟩
    · obtain rfl : k = P.length := by omega
      rw [List.take_of_length_le (Nat.le_refl _)]
      clear hlt
      obtain ⟨wo, rfl⟩ : ∃ wo : World, wo = wr := ⟨_, rfl⟩
      obtain ⟨Pt, hPt⟩ : ∃ Pt, Pt = P.flatMap ptT := ⟨_, rfl⟩
      have hWl := HW.out
      rw [← hPt] at hWl hD0 ⊢
      have HW2 := Lib.hid hWl
      clear hPt hWl HW
      go_wp2
      go_loopg [6, 70] L.length (fun gk x6 i wr => ∃ m : Nat, gk + m = L.length ∧ i = .int .i64 m ∧ x6 = .string (strB (Pt ++ (L.take m).flatMap lnT)) ∧ Below w4.heap.size w4 wr)
      case atStart => exact ⟨0, by omega, rfl, by simp, hbel⟩
      case round =>
        clear hbw hsz hbel d0 d1
        obtain ⟨m, hm, rfl, rfl, hbel⟩ := hrel
        have hbw : Below w.heap.size w wr := hb0.trans (hbel.mono (by omega))
        have hsz := hbel.size
        by_cases hlt : m < L.length
        · obtain ⟨bb, off, v, ha, hb1, c0w, hrow⟩ := HL.out m hlt
          have c0 := (hbw.cell (p := ⟨bb, off + m, none⟩) hb1).trans c0w
          obtain ⟨⟨ar, cr, rfl, hcr, hI⟩⟩ := hrow
          have ix1 := @ix_Row b bb off L.length cb m ha hlt
          have hat := fe_zero hel m hlt
          have hlen := flat_le lnT 1322 (L.take m) (fun x hx => lnT_le (fe_mem0 hel (List.mem_of_mem_take hx)) (by omega))
          have hsn := take_flat lnT L m hlt
          have htm : (L.take m).length ≤ 40 := by simp; omega
          clear ha
          generalize L[m] = r at *
          have hnl := nmT_le hat (by omega)
          generalize (L.take m).flatMap lnT = D at *
          have HI := Lib.hid hI
          have HS := Lib.hid hsn
          have y1 : ∀ w0, (Op.stringOp .add (strB (Pt ++ D)) ⟨#[108]⟩).run Tryd.prog w0 = .ok (.string (strB (Pt ++ D ++ [108]))) w0 := fun w0 => add_str _ [108] (by simp; omega) w0
          clear hI hsn
          go_wp2
          obtain ⟨wq, hwq⟩ : ∃ wq : World, wq = wr := ⟨_, rfl⟩
          rw [← hwq] at hbel
          go_loopg [6, 78] r.length (fun gk x6 i wr => ∃ j : Nat, gk + j = r.length ∧ i = .int .i64 j ∧ x6 = .string (strB (Pt ++ D ++ [108] ++ nmT (r.take j))) ∧ Below w4.heap.size w4 wr)
          case atStart => exact ⟨0, by omega, rfl, by simp [nmT], by rw [← hwq]; exact hbel⟩
          case round =>
            obtain ⟨j, hj, rfl, rfl, hbel3⟩ := hrel
            have hbw3 : Below w.heap.size w wr := hb0.trans (hbel3.mono (by omega))
            have hsz3 := hbel3.size
            have hnj := nmT_le hat (by omega) j
            have hr60 := (lnE_ok hat).2.1
            by_cases hlj : j < r.length
            · obtain ⟨b3, off3, ha3, hb3, c3⟩ := (HI.out.below (Nat.le_refl _) hbw3) j hlj
              have ix2 := @ix_Int ar b3 off3 r.length cr j ha3 hlj
              have hsj := take_flat (fun n => (32 : UInt8) :: Go.Lib.itoa n) r j hlj
              have hxr := (lnE_ok hat).2.2 r[j] (List.getElem_mem hlj)
              clear ha3
              generalize r[j] = x at *
              have hil := Go.Lib.itoa_length_le x (by omega) (by omega)
              have HN := Lib.hid (fun w1 => c_DigitsI x w1 (by omega) (by omega))
              have x1 : ∀ w0, (Op.stringOp .add ⟨#[32]⟩ (strB (Go.Lib.itoa x))).run Tryd.prog w0 = .ok (.string (strB (32 :: Go.Lib.itoa x))) w0 := fun w0 => add_str [32] _ (by simp; omega) w0
              have x2 : ∀ w0, (Op.stringOp .add (strB (Pt ++ D ++ [108] ++ nmT (r.take j))) (strB (32 :: Go.Lib.itoa x))).run Tryd.prog w0 = .ok (.string (strB (Pt ++ D ++ [108] ++ nmT (r.take j) ++ (32 :: Go.Lib.itoa x)))) w0 := fun w0 => add_str _ _ (by simp; omega) w0
              have HS2 := Lib.hid (show nmT (r.take (j + 1)) = nmT (r.take j) ++ (32 :: Go.Lib.itoa x) from hsj)
              clear hsj hil
              generalize hq : strB (Pt ++ D ++ [108] ++ nmT (r.take j) ++ (32 :: Go.Lib.itoa x)) = A3 at x2
              have HQ := Lib.hid hq
              clear hq
              generalize strB (32 :: Go.Lib.itoa x) = A2 at *
              generalize strB (Go.Lib.itoa x) = A1 at *
              generalize strB (Pt ++ D ++ [108] ++ nmT (r.take j)) = A0 at *
              go_wp2_with (go_at_call 19; (with_reducible refine (HN.out _).mono ?_); rintro e w7 ⟨rfl, hb⟩; have hz := hb.size; (try simp only [szA, szS, szD, szN] at hz); (try (refine bcB (n := w.heap.size) hb ?_; intro h_w_0 e_w_0 d_w_0 _ _)); (try (refine bcB (n := wr.heap.size) hb ?_; intro h_wr_0 e_wr_0 d_wr_0 _ _)))
              have hw7 : Below w4.heap.size wr w7 := by (clear hbel hbel3 hbw hbw3 hb0; exact belz)
              go_roundg (r.length - (j + 1))
              case measure => omega
              case rel => exact ⟨j + 1, by omega, by go_num, by rw [HS2.out, ← HQ.out, ← List.append_assoc], hbel3.trans hw7⟩
            · obtain rfl : j = r.length := by omega
              rw [List.take_of_length_le (Nat.le_refl _)] at hnj ⊢
              have y2 : ∀ w0, (Op.stringOp .add (strB (Pt ++ D ++ [108] ++ nmT r)) ⟨#[10]⟩).run Tryd.prog w0 = .ok (.string (strB (Pt ++ D ++ [108] ++ nmT r ++ [10]))) w0 := fun w0 => add_str _ [10] (by simp; omega) w0
              generalize hq : strB (Pt ++ D ++ [108] ++ nmT r ++ [10]) = A3 at y2
              have HQ := Lib.hid hq
              clear hq
              generalize strB (Pt ++ D ++ [108] ++ nmT r) = A0 at *
              go_wp2
              go_roundg (L.length - (m + 1))
              case measure => omega
              case rel =>
                refine ⟨m + 1, by omega, by go_num, ?_, hbel3⟩
                rw [HS.out]
                have : Pt ++ (D ++ lnT r) = Pt ++ D ++ [108] ++ nmT r ++ [10] := by unfold lnT; simp
                rw [this, HQ.out]
        · obtain rfl : m = L.length := by omega
          rw [List.take_of_length_le (Nat.le_refl _)]
          rw [← HW2.out]
          go_wp2
          go_ret
          refine ⟨rfl, ?_⟩
          exact belz
theorem walk_FigureTexts (a b : Option Addr) (ca cb : Nat) (P : List Fp) (L : List (List Int)) (w : World) (hT : NTab w) (hE : NEr w) (hM : NMx w) (hP : FpSlice w a P) (hL : MatSlice w b L) (hca : P.length ≤ ca) (hcb : L.length ≤ cb) :
    Calls Tryd.prog 7 #[.agg #[.slice a P.length ca, .slice b L.length cb]] w fun e w' => e = .returned (.bool true) ∧ Below w.heap.size w w' := by
  by_cases h : fgE P L = 0
  · exact walk_Ftx_ok a b ca cb P L w hT hE hM hP hL hca hcb h
  · exact walk_Ftx_bad a b ca cb P L w hT hE hM hP hL hca hcb h
end Go.Proofs.YtbcehnhiedbbbaaDoor
