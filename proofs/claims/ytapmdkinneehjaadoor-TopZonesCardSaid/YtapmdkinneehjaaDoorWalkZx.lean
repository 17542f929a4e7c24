/- The contract of zonetext.Parse at the text of a zone that zone.Check takes. -/
import Derived.Test.YtapmdkinneehjaaDoorZnD
import Derived.Test.YtapmdkinneehjaaDoorZnB
set_option linter.unusedVariables false
set_option linter.unusedSimpArgs false
namespace Go.Proofs.YtapmdkinneehjaaDoor
open Go.RowKit
theorem zcs_at (P : List Zc) (k : Nat) (h : k < P.length) : ∀ j, j < 3 → (zcs P)[k * 3 + j]? = (zc3 P[k])[j]? := by
  induction P generalizing k with
  | nil => simp at h
  | cons p P ih =>
    intro j hj
    rw [show zcs (p :: P) = zc3 p ++ zcs P by simp [zcs]]
    cases k with
    | zero =>
      rw [List.getElem?_append_left (by simp [zc3]; omega)]
      simp
    | succ k =>
      rw [List.getElem?_append_right (by simp [zc3]; omega)]
      rw [show (k + 1) * 3 + j - (zc3 p).length = k * 3 + j by simp [zc3]; omega]
      exact ih k (by simpa using h) j hj
theorem own_Zc {w : World} {B : Nat} {v : Value} {P : List Zc} (h : w.ownsRow B 50 3 v P.length (zcs P)) : ∃ a cap, v = .slice a P.length cap ∧ P.length ≤ cap ∧ ZcSlice w a P := by
  rcases own_form h with ⟨rfl, h0⟩ | ⟨g, cap, rfl, h1, _, _, h4, h5, _⟩
  · exact ⟨none, 0, by rw [h0], by omega, fun k hk => by omega⟩
  · refine ⟨_, cap, rfl, h1, fun k hk => ⟨g, 0, rfl, h4, ?_, ?_, ?_⟩⟩
    · rw [Nat.zero_add, h5 _ (by omega)]; exact zcs_at P k hk 0 (by omega)
    · rw [Nat.zero_add, h5 _ (by omega)]; exact zcs_at P k hk 1 (by omega)
    · rw [Nat.zero_add, h5 _ (by omega)]; exact zcs_at P k hk 2 (by omega)
/-- The result's block: nothing yet. -/
structure R3At (w : World) (q : Nat) : Prop where
  c0 : w.cell? ⟨q, 0, none⟩ = some (.string ⟨#[]⟩)
  c1 : w.cell? ⟨q, 1, none⟩ = some (.int .i64 0)
  c2 : w.cell? ⟨q, 2, none⟩ = some (.slice none 0 0)
  f0 : w.frozen? ⟨q, 0, none⟩ = false
  f1 : w.frozen? ⟨q, 1, none⟩ = false
  f2 : w.frozen? ⟨q, 2, none⟩ = false
  lt : q < w.heap.size
theorem R3At.below {w w' : World} {q B : Nat} (h : R3At w q) (hq : q < B) (hb : Below B w w') : R3At w' q :=
  ⟨(hb.cell (p := ⟨q, 0, none⟩) hq).trans h.c0, (hb.cell (p := ⟨q, 1, none⟩) hq).trans h.c1, (hb.cell (p := ⟨q, 2, none⟩) hq).trans h.c2, (hb.frozen (p := ⟨q, 0, none⟩) hq).trans h.f0, (hb.frozen (p := ⟨q, 1, none⟩) hq).trans h.f1, (hb.frozen (p := ⟨q, 2, none⟩) hq).trans h.f2, Nat.lt_of_lt_of_le h.lt hb.size⟩
/-- What is left of the text when k rows are read. -/
def rstZ (nm : ByteArray) (f : Int) (l : List Zc) (k : Nat) : List UInt8 := if k = 0 then zT nm f l else zrsT (l.drop (k - 1))
theorem zT_ne (nm : ByteArray) (f : Int) (l : List Zc) : (strB (zT nm f l)).toList.isEmpty = false := by
  rw [ByteArray.toList_eq, strB_l]
  simp [zT, zhT]
theorem zr_ne (c : Zc) (r : List UInt8) : (strB (zrT c ++ r)).toList.isEmpty = false := by
  rw [ByteArray.toList_eq, strB_l]
  simp [zrT]
set_option maxRecDepth 100000 in
set_option maxHeartbeats 4000000 in
theorem c_zParse (nm : ByteArray) (f : Int) (l : List Zc) (w : World) (hM : NMx w) (hT : NTab w) (h : zE nm f l = 0) :
    Calls Tryd.prog 5 #[.string (strB (zT nm f l))] w fun e w' => ∃ a cap, e = .returned (.tuple #[.agg #[.string nm, .int .i64 f, .slice a l.length cap], .int .i64 0, .int .i64 0]) ∧ l.length ≤ cap ∧ ZcSlice w' a l ∧ Below w.heap.size w w' := by
  obtain ⟨k1, k2, k3, k4, k5⟩ := zE_ok h
  have hall : ∀ c ∈ l, zcOk c := k4
  have hTl : (zT nm f l).length ≤ 16000 := by
    have a1 := zh_len (f := f) k1
    have a2 := zrs_len hall
    unfold zT
    rw [List.length_append]
    omega
  have hsz : nm.size ≤ 12 := by have := name_le k1; simpa using this
  have g0 : decide ((20000 : Int) < ((strB (zT nm f l)).size : Int)) = false := decide_eq_false (by rw [strB_size]; omega)
  have HM := Lib.hid hM
  have HT := Lib.hid hT
  have HAll := Lib.hid hall
  have HE := Lib.hid h
  obtain ⟨S0, hS0⟩ : ∃ S0, S0 = strB (zT nm f l) := ⟨_, rfl⟩
  rw [← hS0] at g0 ⊢
  have HS0 := Lib.hid hS0
  clear hM hT hall k4 k5 h hS0
  have hgen := sgen; have hgen2 := sgen2; have hgen3 := sgen3; go_enter Tryd.func5, Tryd.ntmps5
  go_wp2
  go_loopg [6, 7, 8] (l.length + 1) (fun gk x6 x7 x8 wr => ∃ k : Nat, gk + k = l.length + 1 ∧ x6 = .int .i64 k ∧ x7 = .bool (decide (0 < k)) ∧ x8 = .string (strB (rstZ nm f l k)) ∧ ZPr wr (w.heap.size + 1) (if k = 0 then ⟨#[]⟩ else nm) (if k = 0 then 0 else f) (l.take (k - 1)) ∧ R3At wr w.heap.size ∧ Below w.heap.size w wr)
  case atStart =>
    refine ⟨0, by omega, rfl, rfl, by rw [HS0.out]; rfl, ?_, ?_, by exact belz⟩
    · refine ⟨?_, ?_, ?_, ?_, ?_, ?_, none, 0, ?_, ?_⟩
      case refine_6 => simp
      case refine_8 => exact World.ownsRow_nil _ _ _ _
      all_goals first | (go_simp; done) | go_keep
    · constructor
      case lt => simp; omega
      all_goals first | (go_simp; done) | go_keep
  case round =>
    obtain ⟨k, hk, rfl, rfl, rfl, hZ, hR, hbel⟩ := hrel
    have hszr := hbel.size
    have hzlt := hZ.lt
    by_cases hk0 : k = 0
    · subst hk0
      have hC := fun w1 => c_CutC 10 (strB (rstZ nm f l 0)) w1 (by rw [strB_size]; show (zT nm f l).length ≤ _; omega)
      rw [strB_l] at hC
      change ∀ w1, Calls _ _ _ w1 fun e w' => e = .returned (.tuple #[.string (strB (Go.Lib.cut (zhT nm f ++ zrsT l) [10]).1), .string (strB (Go.Lib.cut (zhT nm f ++ zrsT l) [10]).2.1), .bool (Go.Lib.cut (zhT nm f ++ zrsT l) [10]).2.2]) ∧ Below w1.heap.size w1 w' at hC
      rw [cut_zh k1 k2] at hC
      dsimp only at hC
      have gz : (strB (rstZ nm f l 0)).toList.isEmpty = false := zT_ne nm f l
      have HC := Lib.hid hC
      have HRow := Lib.hid (fun w1 m z => c_row_head (w.heap.size + 1) ⟨#[]⟩ nm 0 f w1 m z k1 k2)
      have HZ := Lib.hid hZ
      have HR := Lib.hid hR
      clear hC hZ hR
      generalize strB (rstZ nm f l 0) = R at *
      generalize strB (zhL nm f) = H at *
      obtain ⟨Q, hQ⟩ : ∃ Q, Q = strB (zrsT l) := ⟨_, rfl⟩
      rw [← hQ] at HC
      have HQ := Lib.hid hQ
      clear hQ
      go_wp2_with (first | (go_at_call 16; (with_reducible refine (HC.out _).mono ?_); rintro e w1 ⟨rfl, hb⟩; have hz := hb.size; (try simp only [szA, szS, szD, szN] at hz); (try (refine bcB (n := wr.heap.size) hb ?_; intro h_wr_0 e_wr_0 d_wr_0 _ _)); (try (refine bcB (n := w.heap.size) hb ?_; intro h_w_0 e_w_0 d_w_0 _ _)); (try (refine bcB (n := w.heap.size + 1) hb ?_; intro h_w_1 e_w_1 d_w_1 _ _))) | (go_at_call 17; (refine (HRow.out _ (HM.out.below (by exact belz)) (HZ.out.below (by (clear hbel; exact belz)))).mono ?_); rintro e w2 ⟨rfl, hZ2, hb2⟩; have hz2 := hb2.size))
      have hb01 : Below wr.heap.size wr w1 := by (clear hbel; exact belz)
      have hR2 : R3At w2 w.heap.size := (HR.out.below (by omega) hb01).below (Nat.lt_succ_self _) hb2
      have hbe : Below w.heap.size w w2 := hbel.trans ((hb01.mono (by omega)).trans (hb2.mono (Nat.le_succ _)))
      go_roundg l.length
      case measure => omega
      case rel => exact ⟨1, by omega, by go_num, rfl, by rw [HQ.out]; rfl, by simpa using hZ2, hR2, hbe⟩
    · obtain ⟨j, rfl⟩ : ∃ j, k = j + 1 := ⟨k - 1, by omega⟩
      have e7 : decide (0 < j + 1) = true := decide_eq_true (by omega)
      rw [e7]
      rw [if_neg hk0, if_neg hk0, Nat.add_sub_cancel] at hZ
      by_cases hj : j < l.length
      · have hrest : rstZ nm f l (j + 1) = zrT l[j] ++ zrsT (l.drop (j + 1)) := by
          unfold rstZ
          rw [if_neg hk0, Nat.add_sub_cancel, zrs_drop hj]
        have hcj := HAll.out l[j] (List.getElem_mem hj)
        have hlen : (zrT l[j] ++ zrsT (l.drop (j + 1))).length ≤ 16000 := by
          have a2 := zrs_len (l := l.drop j) (fun c hc => HAll.out c (List.mem_of_mem_drop hc))
          rw [zrs_drop hj] at a2
          have : (l.drop j).length ≤ 200 := by simp; omega
          omega
        rw [hrest]
        have hC := fun w1 => c_CutC 10 (strB (zrT l[j] ++ zrsT (l.drop (j + 1)))) w1 (by rw [strB_size]; omega)
        rw [strB_l, cut_zr hcj] at hC
        dsimp only at hC
        have gz := zr_ne l[j] (zrsT (l.drop (j + 1)))
        have htk : l.take (j + 1) = l.take j ++ [l[j]] := List.take_succ_eq_append_getElem hj
        have hnx : zrsT (l.drop (j + 1)) = rstZ nm f l (j + 1 + 1) := by unfold rstZ; rw [if_neg (by omega), Nat.add_sub_cancel]
        rw [hnx] at hC gz ⊢
        have HC := Lib.hid hC
        have HRow := Lib.hid (fun w1 m t z => c_row_at (w.heap.size + 1) nm f (l.take j) l[j] w1 m t z (by simp; omega) hcj)
        rw [← htk] at HRow
        have HZ := Lib.hid hZ
        have HR := Lib.hid hR
        clear hC hZ hR hcj hrest hlen htk hnx
        generalize strB (zrT l[j] ++ rstZ nm f l (j + 1 + 1)) = R at *
        generalize strB (zlT l[j]) = H at *
        generalize hQ : strB (rstZ nm f l (j + 1 + 1)) = Q at *
        have HQ := Lib.hid hQ
        clear hQ
        have d0 : ((j : Int) + 1 == 0) = false := beq_eq_false_iff_ne.2 (by omega)
        go_wp2_with (first | (go_at_call 16; (with_reducible refine (HC.out _).mono ?_); rintro e w1 ⟨rfl, hb⟩; have hz := hb.size; (try simp only [szA, szS, szD, szN] at hz); (try (refine bcB (n := wr.heap.size) hb ?_; intro h_wr_0 e_wr_0 d_wr_0 _ _)); (try (refine bcB (n := w.heap.size) hb ?_; intro h_w_0 e_w_0 d_w_0 _ _)); (try (refine bcB (n := w.heap.size + 1) hb ?_; intro h_w_1 e_w_1 d_w_1 _ _))) | (go_at_call 17; (refine (HRow.out _ (HM.out.below (by exact belz)) (HT.out.below (by exact belz)) (HZ.out.below (by (clear hbel; exact belz)))).mono ?_); rintro e w2 ⟨rfl, hZ2, hb2⟩; have hz2 := hb2.size))
        have hb01 : Below wr.heap.size wr w1 := by (clear hbel; exact belz)
        have hR2 : R3At w2 w.heap.size := (HR.out.below (by omega) hb01).below (Nat.lt_succ_self _) hb2
        have hbe : Below w.heap.size w w2 := hbel.trans ((hb01.mono (by omega)).trans (hb2.mono (Nat.le_succ _)))
        go_roundg (l.length - (j + 1))
        case measure => omega
        case rel => exact ⟨j + 1 + 1, by omega, by go_num, by rw [decide_eq_true (show 0 < j + 1 + 1 by omega)], by rw [HQ.out], by simpa using hZ2, hR2, hbe⟩
      · obtain rfl : j = l.length := by omega
        have hrest : rstZ nm f l (l.length + 1) = [] := by
          unfold rstZ
          rw [if_neg hk0, Nat.add_sub_cancel, List.drop_length]
          rfl
        rw [hrest, show strB [] = ⟨#[]⟩ from rfl]
        rw [List.take_of_length_le (Nat.le_refl _)] at hZ
        obtain ⟨z0, z1, y0, y1, y2, zlt, ra, rc, z2, hro⟩ := hZ
        obtain ⟨r0, r1, r2, q0, q1, q2, rlt⟩ := hR
        obtain ⟨a, cap, e1, hcap, hzs⟩ := own_Zc hro
        injection e1 with e1 _ e2
        subst e1 e2
        have hk := fun w1 (h1 : ZcSlice w1 ra l) => c_zCheck nm f ra rc l w1 (by omega) hcap h1 (fun y hy => by
          obtain ⟨i1, i2, i3⟩ := HAll.out y hy
          obtain ⟨j1, j2⟩ := inst_le i1
          have j3 := lab_le i3
          have j4 : y.lb.data.toList.length = y.lb.size := Array.length_toList
          exact ⟨by omega, by omega⟩)
        rw [HE.out] at hk
        have HK := Lib.hid hk
        have HS := Lib.hid hzs
        have HO := Lib.hid hro
        clear hk hzs hro hrest
        go_wp2_with (go_at_call 10; (with_reducible refine (HK.out _ (HS.out.below (Nat.le_refl _) (by (clear hbel; exact belz)))).mono ?_); rintro e w1 ⟨rfl, hb⟩; have hz := hb.size; (try simp only [szA, szS, szD, szN] at hz); (try (refine bcB (n := wr.heap.size) hb ?_; intro h_wr_0 e_wr_0 d_wr_0 _ _)); (try (refine bcB (n := w.heap.size) hb ?_; intro h_w_0 e_w_0 d_w_0 _ _)); (try (refine bcB (n := w.heap.size + 1) hb ?_; intro h_w_1 e_w_1 d_w_1 _ _)))
        have hb1 : Below wr.heap.size wr w1 := by (clear hbel; exact belz)
        have hbw : Below w.heap.size w w1 := hbel.trans (hb1.mono (by omega))
        refine bodyPost_ret (v := .tuple #[.agg #[.string nm, .int .i64 f, .slice ra l.length rc], .int .i64 0, .int .i64 0]) (by simp only [results, Tryd.results5]; go_simp) rfl ⟨ra, rc, rfl, hcap, ?_, by exact belz⟩
        have hW := ownK (own_below HO.out hb1) (w' := ((w1.setCell ⟨w.heap.size, 0, none⟩ (.string nm)).setCell ⟨w.heap.size, 1, none⟩ (.int .i64 f)).setCell ⟨w.heap.size, 2, none⟩ (.slice ra l.length rc)) (fun g h1 _ => by
          rw [setCell_heap _ _ _ _ (by show g ≠ w.heap.size; omega), setCell_heap _ _ _ _ (by show g ≠ w.heap.size; omega), setCell_heap _ _ _ _ (by show g ≠ w.heap.size; omega)])
        obtain ⟨a, cap, e1, _, hzs⟩ := own_Zc hW
        injection e1 with e1 _ e2
        subst e1
        exact hzs
end Go.Proofs.YtapmdkinneehjaaDoor
