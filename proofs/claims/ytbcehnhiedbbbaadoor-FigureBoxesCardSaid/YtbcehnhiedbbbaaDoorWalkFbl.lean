/- The walk through the law FigureBoxes. -/
import Derived.Test.YtbcehnhiedbbbaaDoorWalkFgW
import Derived.Test.YtbcehnhiedbbbaaDoorWalkFgE
import Derived.Test.YtbcehnhiedbbbaaDoorPlainFbl
set_option linter.unusedVariables false
set_option linter.unusedSimpArgs false
namespace Go.Proofs.YtbcehnhiedbbbaaDoor
open Go.RowKit
set_option maxRecDepth 100000 in
set_option maxHeartbeats 4000000 in
theorem walk_Fbl_bad (a b : Option Addr) (ca cb : Nat) (P : List Fp) (L : List (List Int)) (w : World) (hT : NTab w) (hE : NEr w) (hM : NMx w) (hP : FpSlice w a P) (hL : MatSlice w b L) (hca : P.length ≤ ca) (hcb : L.length ≤ cb) (h : fgE P L ≠ 0) :
    Calls Tryd.prog 9 #[.agg #[.slice a P.length ca, .slice b L.length cb]] w fun e w' => e = .returned (.bool true) ∧ Below w.heap.size w w' := by
  have HX := Lib.hid (fun w1 (h1 : FpSlice w1 a P) (h2 : MatSlice w1 b L) => c_Box_bad a b ca cb P L w1 h1 h2 hca hcb h)
  have HEr := Lib.hid (fun w1 (h1 : FpSlice w1 a P) (h2 : MatSlice w1 b L) => c_fgErr a b ca cb P L w1 h1 h2 hca hcb)
  generalize fgE P L = x at *
  have g : (x == 0) = false := by simpa using h
  have g2 : (x != 0) = true := by simpa using h
  have HP := Lib.hid hP
  have HL := Lib.hid hL
  have HT := Lib.hid hT
  have HE := Lib.hid hE
  have HM := Lib.hid hM
  clear hP hL hT hE hM
  have hgen := sgen; have hgen2 := sgen2; have hgen3 := sgen3; go_enter Tryd.func9, Tryd.ntmps9
  go_upto_region 5 with (first | (go_at_call 26; (with_reducible refine (c_fgWorks _ (HT.out.below (by exact belz)) (HE.out.below (by exact belz)) (HM.out.below (by exact belz))).mono ?_); rintro e w1 ⟨rfl, hb⟩; have hz := hb.size; (try simp only [szA, szS, szD, szN] at hz); (try (refine bcB (n := w.heap.size) hb ?_; intro h_w_0 e_w_0 d_w_0 _ _))) | (go_at_call 33; (with_reducible refine (HX.out _ (HP.out.below (Nat.le_refl _) (by exact belz)) (HL.out.below (Nat.le_refl _) (by exact belz))).mono ?_); rintro e w2 ⟨rfl, hb⟩; have hz := hb.size; (try simp only [szA, szS, szD, szN] at hz); (try (refine bcB (n := w.heap.size) hb ?_; intro h_w_0 e_w_0 d_w_0 _ _))) | (go_at_call 28; (with_reducible refine (HEr.out _ (HP.out.below (Nat.le_refl _) (by exact belz)) (HL.out.below (Nat.le_refl _) (by exact belz))).mono ?_); rintro e w3 ⟨rfl, hb⟩; have hz := hb.size; (try simp only [szA, szS, szD, szN] at hz); (try (refine bcB (n := w.heap.size) hb ?_; intro h_w_0 e_w_0 d_w_0 _ _)); (try (refine bcB (n := w2.heap.size) hb ?_; intro h_w2_0 e_w2_0 d_w2_0 _ _)); (try (refine bcB (n := w2.heap.size + 1) hb ?_; intro h_w2_1 e_w2_1 d_w2_1 _ _))))
  go_wp2_with fail
  go_ret
  refine ⟨rfl, ?_⟩
  exact belz
set_option maxRecDepth 100000 in
set_option maxHeartbeats 4000000 in
theorem walk_Fbl_none (a b : Option Addr) (ca cb : Nat) (P : List Fp) (L : List (List Int)) (w : World) (hT : NTab w) (hE : NEr w) (hM : NMx w) (hP : FpSlice w a P) (hL : MatSlice w b L) (hca : P.length ≤ ca) (hcb : L.length ≤ cb) (h : fgE P L = 0) (h0 : P.length = 0) :
    Calls Tryd.prog 9 #[.agg #[.slice a P.length ca, .slice b L.length cb]] w fun e w' => e = .returned (.bool true) ∧ Below w.heap.size w w' := by
  have HX := Lib.hid (fun w1 (h1 : FpSlice w1 a P) (h2 : MatSlice w1 b L) => c_Box_none a b ca cb P L w1 h1 h2 hca hcb h h0)
  have he := fun w1 (h1 : FpSlice w1 a P) (h2 : MatSlice w1 b L) => c_fgErr a b ca cb P L w1 h1 h2 hca hcb
  rw [h] at he
  have HEr := Lib.hid he
  have g : ((P.length : Int) == 0) = true := by rw [h0]; rfl
  clear h0 h
  have HP := Lib.hid hP
  have HL := Lib.hid hL
  have HT := Lib.hid hT
  have HE := Lib.hid hE
  have HM := Lib.hid hM
  clear hP hL hT hE hM he
  have hgen := sgen; have hgen2 := sgen2; have hgen3 := sgen3; go_enter Tryd.func9, Tryd.ntmps9
  go_upto_region 5 with (first | (go_at_call 26; (with_reducible refine (c_fgWorks _ (HT.out.below (by exact belz)) (HE.out.below (by exact belz)) (HM.out.below (by exact belz))).mono ?_); rintro e w1 ⟨rfl, hb⟩; have hz := hb.size; (try simp only [szA, szS, szD, szN] at hz); (try (refine bcB (n := w.heap.size) hb ?_; intro h_w_0 e_w_0 d_w_0 _ _))) | (go_at_call 33; (with_reducible refine (HX.out _ (HP.out.below (Nat.le_refl _) (by exact belz)) (HL.out.below (Nat.le_refl _) (by exact belz))).mono ?_); rintro e w2 ⟨rfl, hb⟩; have hz := hb.size; (try simp only [szA, szS, szD, szN] at hz); (try (refine bcB (n := w.heap.size) hb ?_; intro h_w_0 e_w_0 d_w_0 _ _))) | (go_at_call 28; (with_reducible refine (HEr.out _ (HP.out.below (Nat.le_refl _) (by exact belz)) (HL.out.below (Nat.le_refl _) (by exact belz))).mono ?_); rintro e w3 ⟨rfl, hb⟩; have hz := hb.size; (try simp only [szA, szS, szD, szN] at hz); (try (refine bcB (n := w.heap.size) hb ?_; intro h_w_0 e_w_0 d_w_0 _ _)); (try (refine bcB (n := w2.heap.size) hb ?_; intro h_w2_0 e_w2_0 d_w2_0 _ _)); (try (refine bcB (n := w2.heap.size + 1) hb ?_; intro h_w2_1 e_w2_1 d_w2_1 _ _))))
  go_wp2_with fail
  go_ret
  refine ⟨rfl, ?_⟩
  exact belz
structure HtAt (w : World) (h : Nat) (b0 b1 b2 b3 : Bool) : Prop where
  c0 : w.cell? ⟨h, 0, none⟩ = some (.bool b0)
  c1 : w.cell? ⟨h, 1, none⟩ = some (.bool b1)
  c2 : w.cell? ⟨h, 2, none⟩ = some (.bool b2)
  c3 : w.cell? ⟨h, 3, none⟩ = some (.bool b3)
  f0 : w.frozen? ⟨h, 0, none⟩ = false
  f1 : w.frozen? ⟨h, 1, none⟩ = false
  f2 : w.frozen? ⟨h, 2, none⟩ = false
  f3 : w.frozen? ⟨h, 3, none⟩ = false
  lt : h < w.heap.size
theorem ixA0 (x0 x1 x2 x3 x4 x5 x6 x7 x8 x9 x10 x11 x12 x13 x14 x15 : Int) : ∀ w, (Instr.index 74 (.agg #[.int .i64 x0, .int .i64 x1, .int .i64 x2, .int .i64 x3, .int .i64 x4, .int .i64 x5, .int .i64 x6, .int .i64 x7, .int .i64 x8, .int .i64 x9, .int .i64 x10, .int .i64 x11, .int .i64 x12, .int .i64 x13, .int .i64 x14, .int .i64 x15]) (.int .i64 0)).run Tryd.prog w = .ok (.agg #[.int .i64 x0, .int .i64 x1, .int .i64 x2, .int .i64 x3]) w := fun w => by kernel_rfl
theorem ixA1 (x0 x1 x2 x3 x4 x5 x6 x7 x8 x9 x10 x11 x12 x13 x14 x15 : Int) : ∀ w, (Instr.index 74 (.agg #[.int .i64 x0, .int .i64 x1, .int .i64 x2, .int .i64 x3, .int .i64 x4, .int .i64 x5, .int .i64 x6, .int .i64 x7, .int .i64 x8, .int .i64 x9, .int .i64 x10, .int .i64 x11, .int .i64 x12, .int .i64 x13, .int .i64 x14, .int .i64 x15]) (.int .i64 1)).run Tryd.prog w = .ok (.agg #[.int .i64 x4, .int .i64 x5, .int .i64 x6, .int .i64 x7]) w := fun w => by kernel_rfl
theorem ixA2 (x0 x1 x2 x3 x4 x5 x6 x7 x8 x9 x10 x11 x12 x13 x14 x15 : Int) : ∀ w, (Instr.index 74 (.agg #[.int .i64 x0, .int .i64 x1, .int .i64 x2, .int .i64 x3, .int .i64 x4, .int .i64 x5, .int .i64 x6, .int .i64 x7, .int .i64 x8, .int .i64 x9, .int .i64 x10, .int .i64 x11, .int .i64 x12, .int .i64 x13, .int .i64 x14, .int .i64 x15]) (.int .i64 2)).run Tryd.prog w = .ok (.agg #[.int .i64 x8, .int .i64 x9, .int .i64 x10, .int .i64 x11]) w := fun w => by kernel_rfl
theorem ixA3 (x0 x1 x2 x3 x4 x5 x6 x7 x8 x9 x10 x11 x12 x13 x14 x15 : Int) : ∀ w, (Instr.index 74 (.agg #[.int .i64 x0, .int .i64 x1, .int .i64 x2, .int .i64 x3, .int .i64 x4, .int .i64 x5, .int .i64 x6, .int .i64 x7, .int .i64 x8, .int .i64 x9, .int .i64 x10, .int .i64 x11, .int .i64 x12, .int .i64 x13, .int .i64 x14, .int .i64 x15]) (.int .i64 3)).run Tryd.prog w = .ok (.agg #[.int .i64 x12, .int .i64 x13, .int .i64 x14, .int .i64 x15]) w := fun w => by kernel_rfl
theorem eqB4 : ∀ w, (Op.equalIn 10000 72 (.agg #[.bool true, .bool true, .bool true, .bool true]) (.agg #[.bool true, .bool true, .bool true, .bool true])).run Tryd.prog w = .ok true w := fun w => by kernel_rfl
set_option maxRecDepth 100000 in
set_option maxHeartbeats 4000000 in
theorem walk_Fbl_ok (a b : Option Addr) (ca cb : Nat) (P : List Fp) (L : List (List Int)) (w : World) (hT : NTab w) (hE : NEr w) (hM : NMx w) (hP : FpSlice w a P) (hL : MatSlice w b L) (hca : P.length ≤ ca) (hcb : L.length ≤ cb) (h : fgE P L = 0) (h0 : P.length ≠ 0) :
    Calls Tryd.prog 9 #[.agg #[.slice a P.length ca, .slice b L.length cb]] w fun e w' => e = .returned (.bool true) ∧ Below w.heap.size w w' := by
  have HX := Lib.hid (fun w1 (h1 : FpSlice w1 a P) (h2 : MatSlice w1 b L) => c_Box_ok a b ca cb P L w1 h1 h2 hca hcb h h0)
  have he := fun w1 (h1 : FpSlice w1 a P) (h2 : MatSlice w1 b L) => c_fgErr a b ca cb P L w1 h1 h2 hca hcb
  rw [h] at he
  have HEr := Lib.hid he
  obtain ⟨hp60, hl40, hep, hel⟩ := fgE_ok h
  have hok : ∀ p ∈ P, ptOk p := fun p hp => ptE_zero (fe_mem0 hep hp)
  have hhd : P.head! ∈ P := by cases P with
    | nil => exact absurd rfl h0
    | cons p l => exact List.mem_cons_self
  have hlo : ptOk (lows P) := fold_ok low low_ok P P.head! (hok _ hhd) hok
  have hhi : ptOk (highs P) := fold_ok high high_ok P P.head! (hok _ hhd) hok
  obtain ⟨bl1, bl2⟩ := box_law h0 hok
  have HB1 := Lib.hid bl1
  have HB2 := Lib.hid bl2
  have g : ((P.length : Int) == 0) = false := by simpa using h0
  have HP := Lib.hid hP
  have HL := Lib.hid hL
  have HT := Lib.hid hT
  have HE := Lib.hid hE
  have HM := Lib.hid hM
  clear hP hL hT hE hM he bl1 bl2 hhd h
  generalize lows P = lo at *
  generalize highs P = hi at *
  obtain ⟨l0, l1, l2, l3⟩ := lo
  obtain ⟨y0, y1, y2, y3⟩ := hi
  dsimp only at HX
  have hgen := sgen; have hgen2 := sgen2; have hgen3 := sgen3; go_enter Tryd.func9, Tryd.ntmps9
  go_upto_region 5 with (first | (go_at_call 26; (with_reducible refine (c_fgWorks _ (HT.out.below (by exact belz)) (HE.out.below (by exact belz)) (HM.out.below (by exact belz))).mono ?_); rintro e w1 ⟨rfl, hb⟩; have hz := hb.size; (try simp only [szA, szS, szD, szN] at hz); (try (refine bcB (n := w.heap.size) hb ?_; intro h_w_0 e_w_0 d_w_0 _ _))) | (go_at_call 33; (with_reducible refine (HX.out _ (HP.out.below (Nat.le_refl _) (by exact belz)) (HL.out.below (Nat.le_refl _) (by exact belz))).mono ?_); rintro e w2 ⟨rfl, hb⟩; have hz := hb.size; (try simp only [szA, szS, szD, szN] at hz); (try (refine bcB (n := w.heap.size) hb ?_; intro h_w_0 e_w_0 d_w_0 _ _))) | (go_at_call 28; (with_reducible refine (HEr.out _ (HP.out.below (Nat.le_refl _) (by exact belz)) (HL.out.below (Nat.le_refl _) (by exact belz))).mono ?_); rintro e w3 ⟨rfl, hb⟩; have hz := hb.size; (try simp only [szA, szS, szD, szN] at hz); (try (refine bcB (n := w.heap.size) hb ?_; intro h_w_0 e_w_0 d_w_0 _ _)); (try (refine bcB (n := w2.heap.size) hb ?_; intro h_w2_0 e_w2_0 d_w2_0 _ _)); (try (refine bcB (n := w2.heap.size + 1) hb ?_; intro h_w2_1 e_w2_1 d_w2_1 _ _))))
  have hb0 : Below w.heap.size w w3 := by exact belz
  have hs0 : w.heap.size < w3.heap.size := by (try simp only [szA, szS, szD, szN] at *); omega
  have hs2 : w2.heap.size + 1 < w3.heap.size := by (try simp only [szA, szS, szD, szN] at *); omega
  have e0 : w3.cell? ⟨w2.heap.size, 0, none⟩ = some (.int .i64 l0) := by rw [hb.cell (p := ⟨w2.heap.size, 0, none⟩) (by simp; omega)]; go_simp
  have e1 : w3.cell? ⟨w2.heap.size, 1, none⟩ = some (.int .i64 l1) := by rw [hb.cell (p := ⟨w2.heap.size, 1, none⟩) (by simp; omega)]; go_simp
  have e2 : w3.cell? ⟨w2.heap.size, 2, none⟩ = some (.int .i64 l2) := by rw [hb.cell (p := ⟨w2.heap.size, 2, none⟩) (by simp; omega)]; go_simp
  have e3 : w3.cell? ⟨w2.heap.size, 3, none⟩ = some (.int .i64 l3) := by rw [hb.cell (p := ⟨w2.heap.size, 3, none⟩) (by simp; omega)]; go_simp
  have i0 : w3.cell? ⟨w2.heap.size + 1, 0, none⟩ = some (.int .i64 y0) := by rw [hb.cell (p := ⟨w2.heap.size + 1, 0, none⟩) (by simp)]; go_simp
  have i1 : w3.cell? ⟨w2.heap.size + 1, 1, none⟩ = some (.int .i64 y1) := by rw [hb.cell (p := ⟨w2.heap.size + 1, 1, none⟩) (by simp)]; go_simp
  have i2 : w3.cell? ⟨w2.heap.size + 1, 2, none⟩ = some (.int .i64 y2) := by rw [hb.cell (p := ⟨w2.heap.size + 1, 2, none⟩) (by simp)]; go_simp
  have i3 : w3.cell? ⟨w2.heap.size + 1, 3, none⟩ = some (.int .i64 y3) := by rw [hb.cell (p := ⟨w2.heap.size + 1, 3, none⟩) (by simp)]; go_simp
  go_wp2_with fail
  go_loopg [50] P.length (fun gk i wr => ∃ k : Nat, gk + k = P.length ∧ i = .int .i64 k ∧ HtAt wr w3.heap.size (hitB ⟨l0, l1, l2, l3⟩ ⟨y0, y1, y2, y3⟩ (P.take k) 0) (hitB ⟨l0, l1, l2, l3⟩ ⟨y0, y1, y2, y3⟩ (P.take k) 1) (hitB ⟨l0, l1, l2, l3⟩ ⟨y0, y1, y2, y3⟩ (P.take k) 2) (hitB ⟨l0, l1, l2, l3⟩ ⟨y0, y1, y2, y3⟩ (P.take k) 3) ∧ Below w3.heap.size w3 wr)
  case atStart =>
    refine ⟨0, by omega, rfl, ?_, by exact belz⟩
    constructor
    case lt => simp
    all_goals (try simp only [List.take_zero, hitB_nil])
    all_goals first | (go_simp; done) | go_keep
  case round =>
    obtain ⟨k, hk, rfl, hH, hbel⟩ := hrel
    have hbw : Below w.heap.size w wr := hb0.trans (hbel.mono (by omega))
    have hsz := hbel.size
    by_cases hlt : k < P.length
    · obtain ⟨bb, off, ha, hb1, c0, c1, c2, c3⟩ := (HP.out.below (Nat.le_refl _) hbw) k hlt
      have ix1 := @ix_Fp a bb off P.length ca k ha hlt
      have hat := ptE_zero (fe_zero hep k hlt)
      have hm := HB1.out P[k] (List.getElem_mem hlt)
      have hsn : ∀ q, hitB ⟨l0, l1, l2, l3⟩ ⟨y0, y1, y2, y3⟩ (P.take (k + 1)) q = (hitB ⟨l0, l1, l2, l3⟩ ⟨y0, y1, y2, y3⟩ (P.take k) q || (od ⟨l0, l1, l2, l3⟩ ⟨y0, y1, y2, y3⟩ P[k] q == 0)) := fun q => by
        rw [List.take_succ_eq_append_getElem hlt]; exact hitB_snoc _ _ _ _ q
      clear ha
      have hcm := c_Cmp
      generalize P[k] = x at *
      obtain ⟨xn, xd, yn, yd⟩ := x
      dsimp only at c0 c1 c2 c3
      obtain ⟨pv, qv⟩ := hat
      obtain ⟨lv, lv2⟩ := hlo
      obtain ⟨hv, hv2⟩ := hhi
      dsimp only at pv qv lv lv2 hv hv2
      have C0 := Lib.hid (fun w1 => c_Cmp l0 l1 xn xd w1 lv pv)
      have C1 := Lib.hid (fun w1 => c_Cmp xn xd y0 y1 w1 pv hv)
      have C2 := Lib.hid (fun w1 => c_Cmp l2 l3 yn yd w1 lv2 qv)
      have C3 := Lib.hid (fun w1 => c_Cmp yn yd y2 y3 w1 qv hv2)
      have m0 := hm 0
      have m1 := hm 1
      have m2 := hm 2
      have m3 := hm 3
      have n0 := hsn 0
      have n1 := hsn 1
      have n2 := hsn 2
      have n3 := hsn 3
      change decide (0 < ordF l0 l1 xn xd) = false at m0
      change decide (0 < ordF xn xd y0 y1) = false at m1
      change decide (0 < ordF l2 l3 yn yd) = false at m2
      change decide (0 < ordF yn yd y2 y3) = false at m3
      change _ = (_ || (ordF l0 l1 xn xd == 0)) at n0
      change _ = (_ || (ordF xn xd y0 y1 == 0)) at n1
      change _ = (_ || (ordF l2 l3 yn yd == 0)) at n2
      change _ = (_ || (ordF yn yd y2 y3 == 0)) at n3
      clear hm hsn pv qv lv lv2 hv hv2 hcm
      generalize ordF l0 l1 xn xd = o0 at *
      generalize ordF xn xd y0 y1 = o1 at *
      generalize ordF l2 l3 yn yd = o2 at *
      generalize ordF yn yd y2 y3 = o3 at *
      have HN := Lib.hid (And.intro n0 (And.intro n1 (And.intro n2 n3)))
      clear n0 n1 n2 n3
      rw [← hbel.cell (p := ⟨w2.heap.size, 0, none⟩) (by show w2.heap.size < w3.heap.size; omega)] at e0
      rw [← hbel.cell (p := ⟨w2.heap.size, 1, none⟩) (by show w2.heap.size < w3.heap.size; omega)] at e1
      rw [← hbel.cell (p := ⟨w2.heap.size, 2, none⟩) (by show w2.heap.size < w3.heap.size; omega)] at e2
      rw [← hbel.cell (p := ⟨w2.heap.size, 3, none⟩) (by show w2.heap.size < w3.heap.size; omega)] at e3
      rw [← hbel.cell (p := ⟨w2.heap.size + 1, 0, none⟩) (by show w2.heap.size + 1 < w3.heap.size; omega)] at i0
      rw [← hbel.cell (p := ⟨w2.heap.size + 1, 1, none⟩) (by show w2.heap.size + 1 < w3.heap.size; omega)] at i1
      rw [← hbel.cell (p := ⟨w2.heap.size + 1, 2, none⟩) (by show w2.heap.size + 1 < w3.heap.size; omega)] at i2
      rw [← hbel.cell (p := ⟨w2.heap.size + 1, 3, none⟩) (by show w2.heap.size + 1 < w3.heap.size; omega)] at i3
      generalize hitB ⟨l0, l1, l2, l3⟩ ⟨y0, y1, y2, y3⟩ (P.take k) 0 = B0 at *
      generalize hitB ⟨l0, l1, l2, l3⟩ ⟨y0, y1, y2, y3⟩ (P.take k) 1 = B1 at *
      generalize hitB ⟨l0, l1, l2, l3⟩ ⟨y0, y1, y2, y3⟩ (P.take k) 2 = B2 at *
      generalize hitB ⟨l0, l1, l2, l3⟩ ⟨y0, y1, y2, y3⟩ (P.take k) 3 = B3 at *
      have hhl := hH.lt
      have q1 : w2.heap.size < wr.heap.size := by omega
      have q2 : ¬ w2.heap.size = wr.heap.size := by omega
      have q3 : ¬ wr.heap.size = w2.heap.size := by omega
      have q4 : w2.heap.size + 1 < wr.heap.size := by omega
      have q5 : ¬ w2.heap.size + 1 = wr.heap.size := by omega
      have q6 : ¬ wr.heap.size = w2.heap.size + 1 := by omega
      have q7 : ¬ w3.heap.size = wr.heap.size := by omega
      have q8 : ¬ wr.heap.size = w3.heap.size := by omega
      have HH := Lib.hid hH
      clear hH
      obtain ⟨wo, hwo⟩ : ∃ wo : World, wo = wr := ⟨_, rfl⟩
      go_wp2_with fail
      go_loopg [75] 4 (fun gj i wr => ∃ j : Nat, gj + j = 4 ∧ i = .int .i64 j ∧ HtAt wr w3.heap.size (if 0 < j then (B0 || (o0 == 0)) else B0) (if 1 < j then (B1 || (o1 == 0)) else B1) (if 2 < j then (B2 || (o2 == 0)) else B2) (if 3 < j then (B3 || (o3 == 0)) else B3) ∧ Below w3.heap.size w3 wr)
      case atStart =>
        refine ⟨0, by omega, rfl, ?_, ?_⟩
        · have hH := HH.out
          obtain ⟨h1, h2, h3, h4, f1, f2, f3, f4, hl⟩ := hH
          constructor
          case lt => simp; omega
          all_goals (try simp only [Nat.not_lt_zero, if_false])
          all_goals first | (go_simp; done) | go_keep
        · clear hbw hb0
          exact belz
      case round =>
        clear HH hsz q1 q2 q3 q4 q5 q6 q7 q8 e0 e1 e2 e3 i0 i1 i2 i3 c0 c1 c2 c3 hbel hbw hhl hwo
        obtain ⟨j, hj, rfl, hH, hbel⟩ := hrel
        obtain ⟨h1, h2, h3, h4, f1, f2, f3, f4, hl⟩ := hH
        have hbw : Below w.heap.size w wr := hb0.trans (hbel.mono (by omega))
        have q7 : ¬ w3.heap.size = wr.heap.size := by omega
        have q8 : ¬ wr.heap.size = w3.heap.size := by omega
        have hj4 : j = 0 ∨ j = 1 ∨ j = 2 ∨ j = 3 ∨ j = 4 := by omega
        rcases hj4 with rfl | rfl | rfl | rfl | rfl
        · simp only [Nat.lt_irrefl, Nat.not_lt_zero, if_false, if_true, Nat.reduceLT] at h1 h2 h3 h4
          have HCm := C0
          have ixa := ixA0 l0 l1 xn xd xn xd y0 y1 l2 l3 yn yd yn yd y2 y3
          cases B0
          all_goals
            go_wp2_with (go_at_call 34; (with_reducible refine (HCm.out _).mono ?_); rintro e w5 ⟨rfl, hb⟩; have hz := hb.size; (try simp only [szA, szS, szD, szN] at hz); (try (refine bcB (n := w3.heap.size) hb ?_; intro h_w3_0 e_w3_0 d_w3_0 _ _)); (try (refine bcB (n := wr.heap.size) hb ?_; intro h_wr_0 e_wr_0 d_wr_0 _ _)))
            go_roundg 3
            case measure => omega
            case rel =>
              refine ⟨1, by omega, by go_num, ?_, ?_⟩
              · constructor
                case lt => simp; omega
                all_goals (try simp only [Nat.lt_irrefl, Nat.not_lt_zero, if_false, if_true, Nat.reduceLT, Bool.true_or, Bool.false_or])
                all_goals first | (go_simp; done) | go_keep
              · clear hbw hb0
                exact belz
        · simp only [Nat.lt_irrefl, Nat.not_lt_zero, if_false, if_true, Nat.reduceLT] at h1 h2 h3 h4
          have HCm := C1
          have ixa := ixA1 l0 l1 xn xd xn xd y0 y1 l2 l3 yn yd yn yd y2 y3
          cases B1
          all_goals
            go_wp2_with (go_at_call 34; (with_reducible refine (HCm.out _).mono ?_); rintro e w5 ⟨rfl, hb⟩; have hz := hb.size; (try simp only [szA, szS, szD, szN] at hz); (try (refine bcB (n := w3.heap.size) hb ?_; intro h_w3_0 e_w3_0 d_w3_0 _ _)); (try (refine bcB (n := wr.heap.size) hb ?_; intro h_wr_0 e_wr_0 d_wr_0 _ _)))
            go_roundg 2
            case measure => omega
            case rel =>
              refine ⟨2, by omega, by go_num, ?_, ?_⟩
              · constructor
                case lt => simp; omega
                all_goals (try simp only [Nat.lt_irrefl, Nat.not_lt_zero, if_false, if_true, Nat.reduceLT, Bool.true_or, Bool.false_or])
                all_goals first | (go_simp; done) | go_keep
              · clear hbw hb0
                exact belz
        · simp only [Nat.lt_irrefl, Nat.not_lt_zero, if_false, if_true, Nat.reduceLT] at h1 h2 h3 h4
          have HCm := C2
          have ixa := ixA2 l0 l1 xn xd xn xd y0 y1 l2 l3 yn yd yn yd y2 y3
          cases B2
          all_goals
            go_wp2_with (go_at_call 34; (with_reducible refine (HCm.out _).mono ?_); rintro e w5 ⟨rfl, hb⟩; have hz := hb.size; (try simp only [szA, szS, szD, szN] at hz); (try (refine bcB (n := w3.heap.size) hb ?_; intro h_w3_0 e_w3_0 d_w3_0 _ _)); (try (refine bcB (n := wr.heap.size) hb ?_; intro h_wr_0 e_wr_0 d_wr_0 _ _)))
            go_roundg 1
            case measure => omega
            case rel =>
              refine ⟨3, by omega, by go_num, ?_, ?_⟩
              · constructor
                case lt => simp; omega
                all_goals (try simp only [Nat.lt_irrefl, Nat.not_lt_zero, if_false, if_true, Nat.reduceLT, Bool.true_or, Bool.false_or])
                all_goals first | (go_simp; done) | go_keep
              · clear hbw hb0
                exact belz
        · simp only [Nat.lt_irrefl, Nat.not_lt_zero, if_false, if_true, Nat.reduceLT] at h1 h2 h3 h4
          have HCm := C3
          have ixa := ixA3 l0 l1 xn xd xn xd y0 y1 l2 l3 yn yd yn yd y2 y3
          cases B3
          all_goals
            go_wp2_with (go_at_call 34; (with_reducible refine (HCm.out _).mono ?_); rintro e w5 ⟨rfl, hb⟩; have hz := hb.size; (try simp only [szA, szS, szD, szN] at hz); (try (refine bcB (n := w3.heap.size) hb ?_; intro h_w3_0 e_w3_0 d_w3_0 _ _)); (try (refine bcB (n := wr.heap.size) hb ?_; intro h_wr_0 e_wr_0 d_wr_0 _ _)))
            go_roundg 0
            case measure => omega
            case rel =>
              refine ⟨4, by omega, by go_num, ?_, ?_⟩
              · constructor
                case lt => simp; omega
                all_goals (try simp only [Nat.lt_irrefl, Nat.not_lt_zero, if_false, if_true, Nat.reduceLT, Bool.true_or, Bool.false_or])
                all_goals first | (go_simp; done) | go_keep
              · clear hbw hb0
                exact belz
        · simp only [Nat.reduceLT, if_true] at h1 h2 h3 h4
          go_wp2_with fail
          go_roundg (P.length - (k + 1))
          case measure => omega
          case rel =>
            refine ⟨k + 1, by omega, by go_num, ?_, hbel⟩
            rw [HN.out.1, HN.out.2.1, HN.out.2.2.1, HN.out.2.2.2]
            exact ⟨h1, h2, h3, h4, f1, f2, f3, f4, hl⟩
    · obtain rfl : k = P.length := by omega
      rw [List.take_of_length_le (Nat.le_refl _), HB2.out 0, HB2.out 1, HB2.out 2, HB2.out 3] at hH
      obtain ⟨h1, h2, h3, h4, f1, f2, f3, f4, hl⟩ := hH
      clear hlt hlo hhi hok
      have eqb := eqB4
      go_wp2_with fail
      go_ret
      refine ⟨rfl, ?_⟩
      exact belz
theorem walk_FigureBoxes (a b : Option Addr) (ca cb : Nat) (P : List Fp) (L : List (List Int)) (w : World) (hT : NTab w) (hE : NEr w) (hM : NMx w) (hP : FpSlice w a P) (hL : MatSlice w b L) (hca : P.length ≤ ca) (hcb : L.length ≤ cb) :
    Calls Tryd.prog 9 #[.agg #[.slice a P.length ca, .slice b L.length cb]] w fun e w' => e = .returned (.bool true) ∧ Below w.heap.size w w' := by
  by_cases h : fgE P L = 0
  · by_cases h0 : P.length = 0
    · exact walk_Fbl_none a b ca cb P L w hT hE hM hP hL hca hcb h h0
    · exact walk_Fbl_ok a b ca cb P L w hT hE hM hP hL hca hcb h h0
  · exact walk_Fbl_bad a b ca cb P L w hT hE hM hP hL hca hcb h
end Go.Proofs.YtbcehnhiedbbbaaDoor
