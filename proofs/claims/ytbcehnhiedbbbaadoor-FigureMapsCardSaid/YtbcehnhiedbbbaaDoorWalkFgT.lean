/- The contract of figure.Text. -/
import Derived.Test.YtbcehnhiedbbbaaDoorWalkFg
import Derived.Test.YtbcehnhiedbbbaaDoorWalkBld
import Derived.Test.YtbcehnhiedbbbaaDoorWalkNoD
set_option linter.unusedVariables false
set_option linter.unusedSimpArgs false
namespace Go.Proofs.YtbcehnhiedbbbaaDoor
open Go.RowKit
/-- A builder of the call's own in block b that holds l. -/
def BldIs (b : Nat) (l : List UInt8) (w : World) : Prop := Lib.IsBuilderF 104 5 b b (Lib.byteCells l) w
theorem BldIs.below {b : Nat} {l : List UInt8} {w w' : World} (h : BldIs b l w) (hb : Below w.heap.size w w') : BldIs b l w' := bld_below h hb
theorem BldIs.lt {b : Nat} {l : List UInt8} {w : World} (h : BldIs b l w) : b < w.heap.size := by rcases h with h | h <;> exact h.lt
theorem bldIs_new (w : World) : BldIs w.heap.size [] (w.alloc (.cells #[.pointer none, .slice none 0 0] 104)) := Lib.IsBuilderF.of (Lib.fresh_isBuilder _ _ _)
theorem c_WriteB (b : Nat) (l s : List UInt8) (w : World) (h : BldIs b l w) (hlen : l.length + s.length ≤ 140737488355328) :
    Calls Tryd.prog 53 #[.pointer (some ⟨b, 0, none⟩), .string (strB s)] w fun e w' => (∃ v, e = .returned v) ∧ BldIs b (l ++ s) w' ∧ Below b w w' := by
  refine (c_WriteString b b (Lib.byteCells l) (strB s) w h (by rw [Lib.byteCells_length, strB_size]; exact hlen) (Nat.le_of_lt h.lt)).mono ?_
  rintro e w' ⟨rfl, h1, h2⟩
  refine ⟨⟨_, rfl⟩, .inr ?_, h2⟩
  rw [Lib.byteCells_append]
  exact h1
theorem c_BldString (b : Nat) (l : List UInt8) (w : World) (h : BldIs b l w) :
    Calls Tryd.prog 54 #[.pointer (some ⟨b, 0, none⟩)] w fun e w' => e = .returned (.string (strB l)) ∧ Below b w w' :=
  (Tryd.Builder_String_any_f b b l w h (Nat.le_of_lt h.lt)).mono fun e w' ⟨h1, h2, h3⟩ => ⟨h1, h3⟩
theorem c_fgText_bad (a b : Option Addr) (ca cb : Nat) (P : List Fp) (L : List (List Int)) (w : World) (hP : FpSlice w a P) (hL : MatSlice w b L) (hca : P.length ≤ ca) (hcb : L.length ≤ cb) (h : fgE P L ≠ 0) :
    Calls Tryd.prog 27 #[.agg #[.slice a P.length ca, .slice b L.length cb]] w fun e w' => e = .returned (.tuple #[.string ⟨#[]⟩, .int .i64 (fgE P L)]) ∧ Below w.heap.size w w' := by
  have HC := Lib.hid (fun w1 (h1 : FpSlice w1 a P) (h2 : MatSlice w1 b L) => c_fgCheck a b ca cb P L w1 h1 h2 hca hcb)
  generalize fgE P L = x at *
  have g : (x == 0) = false := by simpa using h
  have g2 : (x != 0) = true := by simpa using h
  have HP := Lib.hid hP
  have HL := Lib.hid hL
  clear hP hL
  have hgen := sgen; have hgen2 := sgen2; have hgen3 := sgen3; go_enter Tryd.func27, Tryd.ntmps27
  go_wp2_with (go_at_call 29; (with_reducible refine (HC.out _ (HP.out.below (Nat.le_refl _) (by exact belz)) (HL.out.below (Nat.le_refl _) (by exact belz))).mono ?_); rintro e w1 ⟨rfl, hb⟩; have hz := hb.size; (try simp only [szA, szS, szD, szN] at hz); (try (refine bcB (n := w.heap.size) hb ?_; intro h_w_0 e_w_0 d_w_0 _ _)); (try (refine bcB (n := w.heap.size + 1) hb ?_; intro h_w_1 e_w_1 d_w_1 _ _)))
  refine bodyPost_ret (v := .tuple #[.string ⟨#[]⟩, .int .i64 x]) (by simp only [results, Tryd.results27]; go_simp) rfl ⟨rfl, ?_⟩
  exact belz
theorem pt_steps {X Y : List UInt8} (h1 : X.length ≤ 43) (h2 : Y.length ≤ 43) :
    (∀ w0, (Op.stringOp .add ⟨#[112, 32]⟩ (strB X)).run Tryd.prog w0 = .ok (.string (strB ([112, 32] ++ X))) w0) ∧
    (∀ w0, (Op.stringOp .add (strB ([112, 32] ++ X)) ⟨#[32]⟩).run Tryd.prog w0 = .ok (.string (strB ([112, 32] ++ X ++ [32]))) w0) ∧
    (∀ w0, (Op.stringOp .add (strB ([112, 32] ++ X ++ [32])) (strB Y)).run Tryd.prog w0 = .ok (.string (strB ([112, 32] ++ X ++ [32] ++ Y))) w0) ∧
    (∀ w0, (Op.stringOp .add (strB ([112, 32] ++ X ++ [32] ++ Y)) ⟨#[10]⟩).run Tryd.prog w0 = .ok (.string (strB ([112, 32] ++ X ++ [32] ++ Y ++ [10]))) w0) := by
  refine ⟨fun w0 => add_str [112, 32] X ?_ w0, fun w0 => add_str _ [32] ?_ w0, fun w0 => add_str _ _ ?_ w0, fun w0 => add_str _ [10] ?_ w0⟩ <;> (simp; omega)
set_option maxRecDepth 100000 in
set_option maxHeartbeats 4000000 in
theorem c_fgText_ok (a b : Option Addr) (ca cb : Nat) (P : List Fp) (L : List (List Int)) (w : World) (hT : NTab w) (hP : FpSlice w a P) (hL : MatSlice w b L) (hca : P.length ≤ ca) (hcb : L.length ≤ cb) (h : fgE P L = 0) :
    Calls Tryd.prog 27 #[.agg #[.slice a P.length ca, .slice b L.length cb]] w fun e w' => e = .returned (.tuple #[.string (strB (fgT P L)), .int .i64 0]) ∧ Below w.heap.size w w' := by
  have hc := fun w1 (h1 : FpSlice w1 a P) (h2 : MatSlice w1 b L) => c_fgCheck a b ca cb P L w1 h1 h2 hca hcb
  rw [h] at hc
  have HC := Lib.hid hc
  obtain ⟨hp60, hl40, hep, hel⟩ := fgE_ok h
  have HP := Lib.hid hP
  have HL := Lib.hid hL
  have HT := Lib.hid hT
  clear hP hL hc h hT
  have hgen := sgen; have hgen2 := sgen2; have hgen3 := sgen3; go_enter Tryd.func27, Tryd.ntmps27
  go_wp2_with (go_at_call 29; (with_reducible refine (HC.out _ (HP.out.below (Nat.le_refl _) (by exact belz)) (HL.out.below (Nat.le_refl _) (by exact belz))).mono ?_); rintro e w1 ⟨rfl, hb⟩; have hz := hb.size; (try simp only [szA, szS, szD, szN] at hz); (try (refine bcB (n := w.heap.size) hb ?_; intro h_w_0 e_w_0 d_w_0 _ _)); (try (refine bcB (n := w.heap.size + 1) hb ?_; intro h_w_1 e_w_1 d_w_1 _ _)))
  have hb0 : Below w.heap.size w w1 := by exact belz
  have hs0 : w.heap.size < w1.heap.size := by have := hb.size; simp only [szA] at this; omega
  go_loopg [24] P.length (fun gk i wr => ∃ k : Nat, gk + k = P.length ∧ i = .int .i64 k ∧ wr.cell? ⟨w.heap.size, 0, none⟩ = some (.slice a P.length ca) ∧ wr.cell? ⟨w.heap.size, 1, none⟩ = some (.slice b L.length cb) ∧ BldIs w1.heap.size ((P.take k).flatMap ptT) wr ∧ Below w1.heap.size w1 wr)
  case atStart =>
    refine ⟨0, by omega, rfl, by go_simp, by go_simp, bldIs_new _, ?_⟩
    exact belz
  case round =>
    obtain ⟨k, hk, rfl, d0, d1, hB, hbel⟩ := hrel
    have hbw : Below w.heap.size w wr := hb0.trans (hbel.mono (by omega))
    have hsz := hbel.size
    have hlb := hB.lt
    by_cases hlt : k < P.length
    · obtain ⟨bb, off, ha, hb1, c0, c1, c2, c3⟩ := (HP.out.below (Nat.le_refl _) hbw) k hlt
      have ix1 := @ix_Fp a bb off P.length ca k ha hlt
      have hat := fe_zero hep k hlt
      have hlen := flat_le ptT 90 (P.take k) (fun x hx => ptT_le (fe_mem0 hep (List.mem_of_mem_take hx)))
      have hle := ptT_le hat
      have hsn := take_flat ptT P k hlt
      have htk : (P.take k).length ≤ 60 := by simp; omega
      clear ha
      generalize P[k] = x at *
      generalize (P.take k).flatMap ptT = D at *
      have HZ := Lib.hid (show D.length + (ptT x).length ≤ 140737488355328 by omega)
      have HB := Lib.hid hB
      have HS := Lib.hid hsn
      clear hB hsn
      obtain ⟨xn, xd, yn, yd⟩ := x
      dsimp only at c0 c1 c2 c3
      obtain ⟨q, r⟩ := ptE_zero hat
      dsimp only at q r
      have HX := Lib.hid (fun w1 h1 => c_fText xn xd w1 h1 q)
      have HY := Lib.hid (fun w1 h1 => c_fText yn yd w1 h1 r)
      obtain ⟨x1, x2, x3, x4⟩ := pt_steps (showF_le q) (showF_le r)
      have x5 : ∀ w0, (Op.stringOp .add (strB ([112, 32] ++ showF xn xd ++ [32] ++ showF yn yd)) ⟨#[10]⟩).run Tryd.prog w0 = .ok (.string (strB (ptT ⟨xn, xd, yn, yd⟩))) w0 := x4
      clear x4 q r hle hlen hat
      generalize strB ([112, 32] ++ showF xn xd ++ [32] ++ showF yn yd) = A4 at *
      generalize strB ([112, 32] ++ showF xn xd ++ [32]) = A3 at *
      generalize strB ([112, 32] ++ showF xn xd) = A2 at *
      generalize strB (showF xn xd) = A1 at *
      generalize strB (showF yn yd) = A0 at *
      generalize ptT ⟨xn, xd, yn, yd⟩ = T at *
      go_wp2_with (first | (go_at_call 30; (with_reducible refine (HX.out _ (HT.out.below (by exact belz))).mono ?_); rintro e w2 ⟨rfl, hb⟩; have hz := hb.size; (try simp only [szA, szS, szD, szN] at hz); (try (refine bcB (n := wr.heap.size) hb ?_; intro h_wr_0 e_wr_0 d_wr_0 _ _)); (try (refine bcB (n := wr.heap.size + 1) hb ?_; intro h_wr_1 e_wr_1 d_wr_1 _ _))) | (go_at_call 30; (with_reducible refine (HY.out _ (HT.out.below (by exact belz))).mono ?_); rintro e w3 ⟨rfl, hb⟩; have hz := hb.size; (try simp only [szA, szS, szD, szN] at hz); (try (refine bcB (n := wr.heap.size) hb ?_; intro h_wr_0 e_wr_0 d_wr_0 _ _)); (try (refine bcB (n := w2.heap.size) hb ?_; intro h_w2_0 e_w2_0 d_w2_0 _ _))) | (go_at_call 53; (refine (c_WriteB w1.heap.size _ _ _ (HB.out.below (by exact belz)) HZ.out).mono ?_); rintro e w4 ⟨⟨v, rfl⟩, hB4, hb4⟩; have hz4 := hb4.size))
      have hw4 : Below w1.heap.size wr w4 := Below.trans (by exact belz) hb4
      go_roundg (P.length - (k + 1))
      case measure => omega
      case rel => exact ⟨k + 1, by omega, by go_num, (hw4.cell (p := ⟨w.heap.size, 0, none⟩) hs0).trans d0, (hw4.cell (p := ⟨w.heap.size, 1, none⟩) hs0).trans d1, by rw [HS.out]; exact hB4, hbel.trans hw4⟩
    · obtain rfl : k = P.length := by omega
      rw [List.take_of_length_le (Nat.le_refl _)] at hB
      clear hlt
      have hD := flat_le ptT 90 P (fun x hx => ptT_le (fe_mem0 hep hx))
      obtain ⟨wo, rfl⟩ : ∃ wo : World, wo = wr := ⟨_, rfl⟩
      obtain ⟨Pt, hPt⟩ : ∃ Pt, Pt = P.flatMap ptT := ⟨_, rfl⟩
      have HR := Lib.hid (show fgT P L = Pt ++ L.flatMap lnT by rw [hPt]; rfl)
      rw [← hPt] at hB hD
      clear hPt
      have HB := Lib.hid hB
      clear hB
      go_wp2
      go_loopg [51] L.length (fun gk i wr => ∃ m : Nat, gk + m = L.length ∧ i = .int .i64 m ∧ BldIs w1.heap.size (Pt ++ (L.take m).flatMap lnT) wr ∧ Below w1.heap.size w1 wr)
      case atStart => exact ⟨0, by omega, rfl, by simpa using HB.out, hbel⟩
      case round =>
        clear HB hbw hsz hlb
        obtain ⟨m, hm, rfl, hB, hbel⟩ := hrel
        have hbw : Below w.heap.size w wr := hb0.trans (hbel.mono (by omega))
        have hsz := hbel.size
        have hlb := hB.lt
        have HB := Lib.hid hB
        clear hB
        by_cases hlt : m < L.length
        · obtain ⟨bb, off, v, ha, hb1, c0w, hrow⟩ := HL.out m hlt
          have c0 := (hbw.cell (p := ⟨bb, off + m, none⟩) hb1).trans c0w
          obtain ⟨⟨ar, cr, rfl, hcr, hI⟩⟩ := hrow
          have ix1 := @ix_Row b bb off L.length cb m ha hlt
          have hat := fe_zero hel m hlt
          have hlen := flat_le lnT 1322 (L.take m) (fun x hx => lnT_le (fe_mem0 hel (List.mem_of_mem_take hx)) (by omega))
          have hsn := take_flat lnT L m hlt
          have htm : (L.take m).length ≤ 40 := by simp; omega
          clear ha
          generalize L[m] = r at *
          have hnl := nmT_le hat (by omega)
          generalize (L.take m).flatMap lnT = D at *
          have HI := Lib.hid hI
          have HS := Lib.hid hsn
          have HZ := Lib.hid (show (Pt ++ D).length + [(108 : UInt8)].length ≤ 140737488355328 by simp; omega)
          clear hI hsn
          go_wp2_with (go_at_call 53; (refine (c_WriteB w1.heap.size (Pt ++ D) [108] _ (HB.out.below (by exact belz)) HZ.out).mono ?_); rintro e w4 ⟨⟨v, rfl⟩, hB4, hb4⟩; have hz4 := hb4.size)
          have hbe := hbel.trans hb4
          have HB4 := Lib.hid hB4
          clear hB4
          obtain ⟨wq, hwq⟩ : ∃ wq : World, wq = wr := ⟨_, rfl⟩
          go_loopg [58] r.length (fun gk i wr => ∃ j : Nat, gk + j = r.length ∧ i = .int .i64 j ∧ BldIs w1.heap.size (Pt ++ D ++ [108] ++ nmT (r.take j)) wr ∧ Below w1.heap.size w1 wr)
          case atStart => exact ⟨0, by omega, rfl, by simpa [nmT] using HB4.out, hbe⟩
          case round =>
            clear HB HB4
            obtain ⟨j, hj, rfl, hB, hbel3⟩ := hrel
            have hbw3 : Below w.heap.size w wr := hb0.trans (hbel3.mono (by omega))
            have hsz3 := hbel3.size
            have hlb3 := hB.lt
            have hnj := nmT_le hat (by omega) j
            have hr60 := (lnE_ok hat).2.1
            by_cases hlj : j < r.length
            · obtain ⟨b3, off3, ha3, hb3, c3⟩ := (HI.out.below (Nat.le_refl _) hbw3) j hlj
              have ix2 := @ix_Int ar b3 off3 r.length cr j ha3 hlj
              have hsj := take_flat (fun n => (32 : UInt8) :: Go.Lib.itoa n) r j hlj
              have hxr := (lnE_ok hat).2.2 r[j] (List.getElem_mem hlj)
              clear ha3
              generalize r[j] = x at *
              have hil := Go.Lib.itoa_length_le x (by omega) (by omega)
              have HZ2 := Lib.hid (show (Pt ++ D ++ [108] ++ nmT (r.take j)).length + (32 :: Go.Lib.itoa x).length ≤ 140737488355328 by simp; omega)
              have HB := Lib.hid hB
              have HN := Lib.hid (fun w1 h1 => c_ItoaB x w1 h1 (by omega) (by omega))
              have x1 : ∀ w0, (Op.stringOp .add ⟨#[32]⟩ (strB (Go.Lib.itoa x))).run Tryd.prog w0 = .ok (.string (strB (32 :: Go.Lib.itoa x))) w0 := fun w0 => add_str [32] _ (by simp; omega) w0
              have HS2 := Lib.hid (show nmT (r.take (j + 1)) = nmT (r.take j) ++ (32 :: Go.Lib.itoa x) from hsj)
              clear hB hsj hil
              generalize strB (Go.Lib.itoa x) = A1 at *
              generalize 32 :: Go.Lib.itoa x = A2 at *
              generalize nmT (r.take j) = N at *
              go_wp2_with (first | (go_at_call 40; (with_reducible refine (HN.out _ (HT.out.below (by exact belz))).mono ?_); rintro e w3 ⟨rfl, hb⟩; have hz := hb.size; (try simp only [szA, szS, szD, szN] at hz); (try (refine bcB (n := wr.heap.size) hb ?_; intro h_wr_0 e_wr_0 d_wr_0 _ _))) | (go_at_call 53; (refine (c_WriteB w1.heap.size (Pt ++ D ++ [108] ++ N) A2 _ (HB.out.below (by exact belz)) HZ2.out).mono ?_); rintro e w5 ⟨⟨v, rfl⟩, hB5, hb5⟩; have hz5 := hb5.size))
              have hw5 : Below w1.heap.size wr w5 := Below.trans (by exact belz) hb5
              go_roundg (r.length - (j + 1))
              case measure => omega
              case rel => exact ⟨j + 1, by omega, by go_num, by rw [HS2.out, ← List.append_assoc]; exact hB5, hbel3.trans hw5⟩
            · obtain rfl : j = r.length := by omega
              rw [List.take_of_length_le (Nat.le_refl _)] at hB hnj
              have HB := Lib.hid hB
              have HZ2 := Lib.hid (show (Pt ++ D ++ [108] ++ nmT r).length + [(10 : UInt8)].length ≤ 140737488355328 by simp only [List.length_append, List.length_cons, List.length_nil]; omega)
              clear hB
              go_wp2_with (go_at_call 53; (refine (c_WriteB w1.heap.size (Pt ++ D ++ [108] ++ nmT r) [10] _ HB.out HZ2.out).mono ?_); rintro e w5 ⟨⟨v, rfl⟩, hB5, hb5⟩; have hz5 := hb5.size)
              go_roundg (L.length - (m + 1))
              case measure => omega
              case rel =>
                refine ⟨m + 1, by omega, by go_num, ?_, hbel3.trans (Below.trans (by exact belz) hb5)⟩
                rw [HS.out]
                have : Pt ++ (D ++ lnT r) = Pt ++ D ++ [108] ++ nmT r ++ [10] := by unfold lnT; simp
                rw [this]
                exact hB5
        · obtain rfl : m = L.length := by omega
          rw [List.take_of_length_le (Nat.le_refl _)] at HB
          rw [← HR.out] at HB
          go_wp2_with (go_at_call 54; (refine (c_BldString w1.heap.size (fgT P L) _ HB.out).mono ?_); rintro e w6 ⟨rfl, hb6⟩)
          refine bodyPost_ret (v := .tuple #[.string (strB (fgT P L)), .int .i64 0]) (by simp only [results, Tryd.results27]; go_simp) rfl ⟨rfl, ?_⟩
          exact hb0.trans ((hbel.trans hb6).mono (by omega))
end Go.Proofs.YtbcehnhiedbbbaaDoor
