/- Contracts of zonetext.readOffset and zonetext.number at texts that were written. The contracts of zonetext.row at a row that was written. The contract of zonetext.row at a change that was written. -/
import Derived.Test.YtapmdkinneehjaaDoorZnB
import Derived.Test.YtapmdkinneehjaaDoorZnA
import Derived.Test.YtapmdkinneehjaaDoorWalkFr
import Derived.Test.YtapmdkinneehjaaDoorWalkRd2
import Derived.Deep.AppendLies
import Derived.Deep.RegionLaw
set_option linter.unusedVariables false
set_option linter.unusedSimpArgs false
namespace Go.Proofs.YtapmdkinneehjaaDoor
section
open Go.RowKit
theorem off_mod {n : Int} (h : offB n = true) : n.tmod 1000 = 0 := by
  unfold offB at h
  simp only [Bool.and_eq_true, decide_eq_true_eq] at h
  exact h.1
set_option maxRecDepth 100000 in
set_option maxHeartbeats 4000000 in
theorem c_readOff (n : Int) (w : World) (h : offB n = true) : Calls Tryd.prog 32 #[.string (strB (offT n))] w fun e w' => e = .returned (.tuple #[.int .i64 n, .bool true]) ∧ Below w.heap.size w w' := by
  obtain ⟨o1, o2⟩ := off_le h
  have o3 := off_mod h
  obtain ⟨a, ha⟩ : ∃ a : Nat, a = n.natAbs / 1000 / 3600 := ⟨_, rfl⟩
  obtain ⟨b, hb⟩ : ∃ b : Nat, b = n.natAbs / 1000 / 60 % 60 := ⟨_, rfl⟩
  obtain ⟨c, hc⟩ : ∃ c : Nat, c = n.natAbs / 1000 % 60 := ⟨_, rfl⟩
  have hN : ((a : Int) * 60 + b) * 60 + c = (n.natAbs : Int) / 1000 := by omega
  have hM : (n.natAbs : Int) / 1000 * 1000 = n.natAbs := by
    have : (n.natAbs : Int) % 1000 = 0 := by
      rcases Int.natAbs_eq n with e | e
      · rw [← e, ← Int.tmod_eq_emod_of_nonneg (by omega)]; exact o3
      · have e2 : (n.natAbs : Int) = -n := by omega
        rw [e2, ← Int.tmod_eq_emod_of_nonneg (by omega), Int.neg_tmod, o3]; rfl
    omega
  have sz : (strB (offT n)).size = 9 := by rw [strB_size, offT_len]
  obtain ⟨q1, q2, q3⟩ := off_parts n a b c ha.symm hb.symm hc.symm
  have hs := off_sign n
  have ka : a < 100 := by omega
  have kb : b < 100 := by omega
  have kc : c < 100 := by omega
  have HA := Lib.hid (fun w1 => c_AtoiOk ((strB (offT n)).extract 1 3) w1 (by rw [ByteArray.size_extract]; omega) (v := a) (by rw [q1]; exact two_atoi a ka))
  have HB := Lib.hid (fun w1 => c_AtoiOk ((strB (offT n)).extract 4 6) w1 (by rw [ByteArray.size_extract]; omega) (v := b) (by rw [q2]; exact two_atoi b kb))
  have HC := Lib.hid (fun w1 => c_AtoiOk ((strB (offT n)).extract 7 9) w1 (by rw [ByteArray.size_extract]; omega) (v := c) (by rw [q3]; exact two_atoi c kc))
  have HO := Lib.hid (fun w1 => c_off n w1 o1 o2)
  clear q1 q2 q3
  generalize strB (offT n) = S at *
  have szi : (S.size : Int) = 9 := by omega
  have g9 : decide ((9 : Int) ≤ (S.size : Int)) = true := decide_eq_true (by omega)
  have g6 : (6 : Int) ≤ (S.size : Int) := by omega
  have g3 : (3 : Int) ≤ (S.size : Int) := by omega
  have g99 : (9 : Int) ≤ (S.size : Int) := by omega
  have gn : ((S.size : Int) != 9) = false := by rw [szi]; rfl
  have d1 : decide ((0 : Int) ≤ (a : Int)) = true := decide_eq_true (by omega)
  have d2 : decide ((0 : Int) ≤ (b : Int)) = true := decide_eq_true (by omega)
  have d3 : decide ((0 : Int) ≤ (c : Int)) = true := decide_eq_true (by omega)
  have d4 : decide ((a : Int) < 100) = true := decide_eq_true (by omega)
  have d5 : decide (a < 100) = true := decide_eq_true ka
  by_cases hn : n < 0
  · rw [if_pos hn] at hs
    have ix : ∀ w, (Instr.index 9 (.string S) (.int .i64 0)).run Tryd.prog w = .ok (.int .u8 45) w := fun w => str_ix S 0 45 hs w
    have e : n = -((((a : Int) * 60 + b) * 60 + c) * 1000) := by omega
    clear hs o3 h ha hb hc hN hM hn
    subst e
    have hgen := sgen; have hgen2 := sgen2; have hgen3 := sgen3; go_enter Tryd.func32, Tryd.ntmps32
    go_wp2_with (first | (go_at_call 39; (with_reducible refine (HA.out _).mono ?_); rintro e w1 ⟨rfl, hb⟩; have hz := hb.size; (try simp only [szA, szS, szD, szN] at hz); (try (refine bcB (n := w.heap.size) hb ?_; intro h_w_0 e_w_0 d_w_0 _ _))) | (go_at_call 39; (with_reducible refine (HB.out _).mono ?_); rintro e w2 ⟨rfl, hb⟩; have hz := hb.size; (try simp only [szA, szS, szD, szN] at hz); (try (refine bcB (n := w.heap.size) hb ?_; intro h_w_0 e_w_0 d_w_0 _ _)); (try (refine bcB (n := w1.heap.size) hb ?_; intro h_w1_0 e_w1_0 d_w1_0 _ _))) | (go_at_call 39; (with_reducible refine (HC.out _).mono ?_); rintro e w3 ⟨rfl, hb⟩; have hz := hb.size; (try simp only [szA, szS, szD, szN] at hz); (try (refine bcB (n := w.heap.size) hb ?_; intro h_w_0 e_w_0 d_w_0 _ _)); (try (refine bcB (n := w1.heap.size) hb ?_; intro h_w1_0 e_w1_0 d_w1_0 _ _)); (try (refine bcB (n := w2.heap.size) hb ?_; intro h_w2_0 e_w2_0 d_w2_0 _ _))) | (go_at_call 12; (with_reducible refine (HO.out _).mono ?_); rintro e w4 ⟨rfl, hb⟩; have hz := hb.size; (try simp only [szA, szS, szD, szN] at hz); (try (refine bcB (n := w.heap.size) hb ?_; intro h_w_0 e_w_0 d_w_0 _ _)); (try (refine bcB (n := w1.heap.size) hb ?_; intro h_w1_0 e_w1_0 d_w1_0 _ _)); (try (refine bcB (n := w2.heap.size) hb ?_; intro h_w2_0 e_w2_0 d_w2_0 _ _)); (try (refine bcB (n := w3.heap.size) hb ?_; intro h_w3_0 e_w3_0 d_w3_0 _ _))))
    refine bodyPost_ret (v := .tuple #[.int .i64 (-((((a : Int) * 60 + b) * 60 + c) * 1000)), .bool true]) (by simp only [results, Tryd.results32]; go_simp) rfl ⟨rfl, ?_⟩
    exact belz
  · rw [if_neg hn] at hs
    have ix : ∀ w, (Instr.index 9 (.string S) (.int .i64 0)).run Tryd.prog w = .ok (.int .u8 43) w := fun w => str_ix S 0 43 hs w
    have e : n = ((((a : Int) * 60 + b) * 60 + c) * 1000) := by omega
    clear hs o3 h ha hb hc hN hM hn
    subst e
    have hgen := sgen; have hgen2 := sgen2; have hgen3 := sgen3; go_enter Tryd.func32, Tryd.ntmps32
    go_wp2_with (first | (go_at_call 39; (with_reducible refine (HA.out _).mono ?_); rintro e w1 ⟨rfl, hb⟩; have hz := hb.size; (try simp only [szA, szS, szD, szN] at hz); (try (refine bcB (n := w.heap.size) hb ?_; intro h_w_0 e_w_0 d_w_0 _ _))) | (go_at_call 39; (with_reducible refine (HB.out _).mono ?_); rintro e w2 ⟨rfl, hb⟩; have hz := hb.size; (try simp only [szA, szS, szD, szN] at hz); (try (refine bcB (n := w.heap.size) hb ?_; intro h_w_0 e_w_0 d_w_0 _ _)); (try (refine bcB (n := w1.heap.size) hb ?_; intro h_w1_0 e_w1_0 d_w1_0 _ _))) | (go_at_call 39; (with_reducible refine (HC.out _).mono ?_); rintro e w3 ⟨rfl, hb⟩; have hz := hb.size; (try simp only [szA, szS, szD, szN] at hz); (try (refine bcB (n := w.heap.size) hb ?_; intro h_w_0 e_w_0 d_w_0 _ _)); (try (refine bcB (n := w1.heap.size) hb ?_; intro h_w1_0 e_w1_0 d_w1_0 _ _)); (try (refine bcB (n := w2.heap.size) hb ?_; intro h_w2_0 e_w2_0 d_w2_0 _ _))) | (go_at_call 12; (with_reducible refine (HO.out _).mono ?_); rintro e w4 ⟨rfl, hb⟩; have hz := hb.size; (try simp only [szA, szS, szD, szN] at hz); (try (refine bcB (n := w.heap.size) hb ?_; intro h_w_0 e_w_0 d_w_0 _ _)); (try (refine bcB (n := w1.heap.size) hb ?_; intro h_w1_0 e_w1_0 d_w1_0 _ _)); (try (refine bcB (n := w2.heap.size) hb ?_; intro h_w2_0 e_w2_0 d_w2_0 _ _)); (try (refine bcB (n := w3.heap.size) hb ?_; intro h_w3_0 e_w3_0 d_w3_0 _ _))))
    refine bodyPost_ret (v := .tuple #[.int .i64 ((((a : Int) * 60 + b) * 60 + c) * 1000), .bool true]) (by simp only [results, Tryd.results32]; go_simp) rfl ⟨rfl, ?_⟩
    exact belz
set_option maxRecDepth 100000 in
theorem c_number (n : Int) (w : World) (hT : NTab w) (h0 : -9223372036854775807 ≤ n) (h1 : n ≤ 9223372036854775807) : Calls Tryd.prog 33 #[.string (strB (Go.Lib.itoa n))] w fun e w' => e = .returned (.tuple #[.int .i64 n, .bool true]) ∧ Below w.heap.size w w' := by
  have la := Go.Lib.itoa_length_le n (by omega) (by omega)
  have HA := Lib.hid (fun w1 => c_AtoiOk (strB (Go.Lib.itoa n)) w1 (by rw [strB_size]; omega) (v := n) (by rw [strB_l]; exact atoi_itoaN (by omega) (by omega)))
  have HI := Lib.hid (fun w1 h1 => c_ItoaB n w1 h1 (by omega) (by omega))
  have HT := Lib.hid hT
  clear hT la
  generalize strB (Go.Lib.itoa n) = S at *
  have hgen := sgen; have hgen2 := sgen2; have hgen3 := sgen3; go_enter Tryd.func33, Tryd.ntmps33
  go_wp2_with (first | (go_at_call 39; (with_reducible refine (HA.out _).mono ?_); rintro e w1 ⟨rfl, hb⟩; have hz := hb.size; (try simp only [szA, szS, szD, szN] at hz); (try (refine bcB (n := w.heap.size) hb ?_; intro h_w_0 e_w_0 d_w_0 _ _))) | (go_at_call 14; (with_reducible refine (HI.out _ (HT.out.below (by exact belz))).mono ?_); rintro e w2 ⟨rfl, hb⟩; have hz := hb.size; (try simp only [szA, szS, szD, szN] at hz); (try (refine bcB (n := w.heap.size) hb ?_; intro h_w_0 e_w_0 d_w_0 _ _)); (try (refine bcB (n := w1.heap.size) hb ?_; intro h_w1_0 e_w1_0 d_w1_0 _ _))))
  refine bodyPost_ret (v := .tuple #[.int .i64 n, .bool true]) (by simp only [results, Tryd.results33]; go_simp) rfl ⟨rfl, ?_⟩
  exact belz
end
section
open Go.RowKit
def zc3 (c : Zc) : List Value := [.int .i64 c.t, .int .i64 c.o, .string c.lb]
def zcs (l : List Zc) : List Value := l.flatMap zc3
theorem zcs_len (l : List Zc) : (zcs l).length = l.length * 3 := by
  induction l with
  | nil => rfl
  | cons a l ih => simp only [zcs, List.flatMap_cons, List.length_append, List.length_cons, zc3, List.length_nil] at ih ⊢; omega
/-- A zone in the making in block zb. -/
structure ZPr (w : World) (zb : Nat) (nm : ByteArray) (f : Int) (l : List Zc) : Prop where
  c0 : w.cell? ⟨zb, 0, none⟩ = some (.string nm)
  c1 : w.cell? ⟨zb, 1, none⟩ = some (.int .i64 f)
  f0 : w.frozen? ⟨zb, 0, none⟩ = false
  f1 : w.frozen? ⟨zb, 1, none⟩ = false
  f2 : w.frozen? ⟨zb, 2, none⟩ = false
  lt : zb < w.heap.size
  row : ∃ a c, w.cell? ⟨zb, 2, none⟩ = some (.slice a l.length c) ∧ w.ownsRow (zb + 1) 50 3 (.slice a l.length c) l.length (zcs l)
theorem ZPr.below {w w' : World} {zb : Nat} {nm : ByteArray} {f : Int} {l : List Zc} (h : ZPr w zb nm f l) (hb : Below w.heap.size w w') : ZPr w' zb nm f l := by
  obtain ⟨a, c, h1, h2⟩ := h.row
  exact ⟨(hb.cell (p := ⟨zb, 0, none⟩) h.lt).trans h.c0, (hb.cell (p := ⟨zb, 1, none⟩) h.lt).trans h.c1, (hb.frozen (p := ⟨zb, 0, none⟩) h.lt).trans h.f0, (hb.frozen (p := ⟨zb, 1, none⟩) h.lt).trans h.f1, (hb.frozen (p := ⟨zb, 2, none⟩) h.lt).trans h.f2, Nat.lt_of_lt_of_le h.lt hb.size, a, c, (hb.cell (p := ⟨zb, 2, none⟩) h.lt).trans h1, own_below h2 hb⟩
theorem c_Split3 (l x y z : List UInt8) (w : World) (hM : NMx w) (hl : l.length ≤ 16000) (h : spl l = [x, y, z]) :
    Calls Tryd.prog 31 #[.string (strB l), .string ⟨#[32]⟩] w fun e w' => ∃ b, e = .returned (.slice (some ⟨b, 0, none⟩) 3 3) ∧ w.heap.size ≤ b ∧ b < w'.heap.size ∧ w'.cell? ⟨b, 0, none⟩ = some (.string (strB x)) ∧ w'.cell? ⟨b, 1, none⟩ = some (.string (strB y)) ∧ w'.cell? ⟨b, 2, none⟩ = some (.string (strB z)) ∧ Below w.heap.size w w' := by
  have h0 := c_Split l w hM hl
  rw [h] at h0
  refine h0.mono ?_
  rintro e w' ⟨b, rfl, h1, h2, h3⟩
  obtain ⟨b0, o0, e0, l0, k0⟩ := h2 0 (by simp)
  obtain ⟨b1, o1, e1, _, k1⟩ := h2 1 (by simp)
  obtain ⟨b2, o2, e2, _, k2⟩ := h2 2 (by simp)
  injection e0 with e0; injection e0 with e01 e02
  injection e1 with e1; injection e1 with e11 e12
  injection e2 with e2; injection e2 with e21 e22
  subst e01 e02 e11 e12 e21 e22
  exact ⟨b, rfl, h1, l0, k0, k1, k2, h3⟩
theorem c_Split5 (l x y z u v : List UInt8) (w : World) (hM : NMx w) (hl : l.length ≤ 16000) (h : spl l = [x, y, z, u, v]) :
    Calls Tryd.prog 31 #[.string (strB l), .string ⟨#[32]⟩] w fun e w' => ∃ b, e = .returned (.slice (some ⟨b, 0, none⟩) 5 5) ∧ w.heap.size ≤ b ∧ b < w'.heap.size ∧ w'.cell? ⟨b, 0, none⟩ = some (.string (strB x)) ∧ w'.cell? ⟨b, 1, none⟩ = some (.string (strB y)) ∧ w'.cell? ⟨b, 2, none⟩ = some (.string (strB z)) ∧ w'.cell? ⟨b, 3, none⟩ = some (.string (strB u)) ∧ w'.cell? ⟨b, 4, none⟩ = some (.string (strB v)) ∧ Below w.heap.size w w' := by
  have h0 := c_Split l w hM hl
  rw [h] at h0
  refine h0.mono ?_
  rintro e w' ⟨b, rfl, h1, h2, h3⟩
  obtain ⟨b0, o0, e0, l0, k0⟩ := h2 0 (by simp)
  obtain ⟨b1, o1, e1, _, k1⟩ := h2 1 (by simp)
  obtain ⟨b2, o2, e2, _, k2⟩ := h2 2 (by simp)
  obtain ⟨b3, o3, e3, _, k3⟩ := h2 3 (by simp)
  obtain ⟨b4, o4, e4, _, k4⟩ := h2 4 (by simp)
  injection e0 with e0; injection e0 with e01 e02
  injection e1 with e1; injection e1 with e11 e12
  injection e2 with e2; injection e2 with e21 e22
  injection e3 with e3; injection e3 with e31 e32
  injection e4 with e4; injection e4 with e41 e42
  subst e01 e02 e11 e12 e21 e22 e31 e32 e41 e42
  exact ⟨b, rfl, h1, l0, k0, k1, k2, k3, k4, h3⟩
set_option maxRecDepth 100000 in
set_option maxHeartbeats 4000000 in
theorem c_row_head (zb : Nat) (nm0 nm : ByteArray) (f0 f : Int) (w : World) (hM : NMx w) (hZ : ZPr w zb nm0 f0 []) (h1 : nameB nm = true) (h2 : offB f = true) :
    Calls Tryd.prog 17 #[.pointer (some ⟨zb, 0, none⟩), .string (strB (zhL nm f)), .bool true] w fun e w' => e = .returned (.bool true) ∧ ZPr w' zb nm f [] ∧ Below zb w w' := by
  have hl : (zhL nm f).length ≤ 16000 := by have := zh_len (f := f) h1; have e := zhT_eq nm f []; simp at e; rw [e] at this; simp at this; omega
  have HSp := Lib.hid (fun w1 hm => c_Split3 (zhL nm f) _ _ _ w1 hm hl (spl_zh h1 h2))
  have HR := Lib.hid (fun w1 => c_readOff f w1 h2)
  have HM := Lib.hid hM
  rw [show strB [122, 111, 110, 101] = ⟨#[122, 111, 110, 101]⟩ from rfl, show strB nm.data.toList = nm from rfl] at HSp
  clear hl h1 h2 hM
  generalize strB (zhL nm f) = S at *
  generalize strB (offT f) = T at *
  obtain ⟨c0, c1, q0, q1, q2, zlt, ra, rc, c2, hro⟩ := hZ
  have HO := Lib.hid hro
  clear hro
  have hgen := sgen; have hgen2 := sgen2; have hgen3 := sgen3; go_enter Tryd.func17, Tryd.ntmps17
  go_upto_region 6 with (first | (go_at_call 31; (refine (HSp.out _ (HM.out.below (by exact belz))).mono ?_); rintro e w1 ⟨b, rfl, hbb, hbl, k0, k1, k2, hb1⟩; have hz1 := hb1.size) | (go_at_call 32; (refine (HR.out _).mono ?_); rintro e w2 ⟨rfl, hb2⟩; have hz2 := hb2.size; have j1 := (hb2.cell (p := ⟨b, 1, none⟩) hbl).trans k1))
  have hbw : Below w.heap.size w w2 := by exact belz
  have hzw := hbw.size
  have z0 := (hbw.cell (p := ⟨zb, 0, none⟩) zlt).trans c0
  have z1 := (hbw.cell (p := ⟨zb, 1, none⟩) zlt).trans c1
  have z2 := (hbw.cell (p := ⟨zb, 2, none⟩) zlt).trans c2
  have y0 := (hbw.frozen (p := ⟨zb, 0, none⟩) zlt).trans q0
  have y1 := (hbw.frozen (p := ⟨zb, 1, none⟩) zlt).trans q1
  have y2 := (hbw.frozen (p := ⟨zb, 2, none⟩) zlt).trans q2
  have hne : b ≠ zb := by omega
  have hne2 : zb ≠ b := by omega
  have zlt2 : zb < w2.heap.size := by omega
  have HBw := Lib.hid hbw
  clear hb1 hb2 hbw c0 c1 c2 q0 q1 q2 k0 k1 k2
  go_wp2_with fail
  refine bodyPost_ret (v := .bool true) (by simp only [results, Tryd.results17]; go_simp) rfl ⟨rfl, ?_⟩
  refine ⟨⟨?_, ?_, ?_, ?_, ?_, ?_, ra, rc, ?_, ?_⟩, ?_⟩
  case refine_8 => exact ownK (own_below HO.out HBw.out) (fun g h1 _ => by rw [setCell_heap _ _ _ _ (by show g ≠ zb; omega), setCell_heap _ _ _ _ (by show g ≠ zb; omega)])
  case refine_9 => exact ((HBw.out.mono (Nat.le_of_lt zlt)).setCell (p := ⟨zb, 0, none⟩) (Nat.le_refl _) _).setCell (p := ⟨zb, 1, none⟩) (Nat.le_refl _) _
  case refine_6 => simpa using zlt2
  all_goals first | (go_simp; done) | go_keep
end
section
open Go.RowKit
theorem info_Zc : (Tryd.prog.info? 50).map (fun i => (i.zero, i.size, i.bytes)) = some (some (.agg #[.int .i64 0, .int .i64 0, .string ⟨#[]⟩]), 3, 32) := by kernel_rfl
set_option maxRecDepth 100000 in
set_option maxHeartbeats 4000000 in
theorem c_row_at (zb : Nat) (nm : ByteArray) (f : Int) (l : List Zc) (c : Zc) (w : World) (hM : NMx w) (hT : NTab w) (hZ : ZPr w zb nm f l) (h200 : l.length ≤ 200) (hc : zcOk c) :
    Calls Tryd.prog 17 #[.pointer (some ⟨zb, 0, none⟩), .string (strB (zlT c)), .bool false] w fun e w' => e = .returned (.bool true) ∧ ZPr w' zb nm f (l ++ [c]) ∧ Below zb w w' := by
  have hl : (zlT c).length ≤ 16000 := by have := zl_len hc; omega
  have HSp := Lib.hid (fun w1 hm => c_Split5 (zlT c) _ _ _ _ _ w1 hm hl (spl_zl hc))
  obtain ⟨h1, h2, h3⟩ := hc
  obtain ⟨t1, t2⟩ := inst_le h1
  obtain ⟨t, o, lb⟩ := c
  dsimp only at h1 h2 h3 t1 t2 HSp
  have HR := Lib.hid (fun w1 => c_readOff o w1 h2)
  have HN1 := Lib.hid (fun w1 h => c_number (t / 86400000) w1 h (by omega) (by omega))
  have HN2 := Lib.hid (fun w1 h => c_number (t % 86400000) w1 h (by omega) (by omega))
  have hd : dayZ (t / 86400000) = true := by unfold dayZ; exact decide_eq_true (by omega)
  have hli := fun w1 => c_lineIsZ (t / 86400000) w1
  rw [hd] at hli
  have HL := Lib.hid hli
  have HM := Lib.hid hM
  have HT := Lib.hid hT
  rw [show strB [97, 116] = ⟨#[97, 116]⟩ from rfl, show strB lb.data.toList = lb from rfl] at HSp
  have et : t = t / 86400000 * 86400000 + t % 86400000 := by omega
  have g1 : decide (t % 86400000 < 0) = false := decide_eq_false (by omega)
  have g2 : decide (86400000 ≤ t % 86400000) = false := decide_eq_false (by omega)
  have v1 : IntKind.i64.wrap (t / 86400000 * 86400000) = t / 86400000 * 86400000 := IntWalk.i64_in _ (by omega)
  have v2 : IntKind.i64.wrap (t / 86400000 * 86400000 + t % 86400000) = t / 86400000 * 86400000 + t % 86400000 := IntWalk.i64_in _ (by omega)
  have b1 : -4000000 ≤ t / 86400000 ∧ t / 86400000 ≤ 4000000 := by omega
  have b2 : 0 ≤ t % 86400000 ∧ t % 86400000 < 86400000 := by omega
  clear hl hM hT h1 h2 h3 hd hli t1 t2
  generalize strB (zlT ⟨t, o, lb⟩) = S at *
  generalize strB (offT o) = T at *
  generalize strB (Go.Lib.itoa (t / 86400000)) = T1 at *
  generalize strB (Go.Lib.itoa (t % 86400000)) = T2 at *
  generalize t / 86400000 = d at *
  generalize t % 86400000 = m at *
  subst et
  obtain ⟨b1, b11⟩ := b1
  obtain ⟨b2, b22⟩ := b2
  obtain ⟨c0, c1, q0, q1, q2, zlt, ra, rc, c2, hro⟩ := hZ
  have HO := Lib.hid hro
  obtain ⟨i0, hi0, iz0, iz1, iz2⟩ := info_parts info_Zc
  clear hro
  have hgen := sgen; have hgen2 := sgen2; have hgen3 := sgen3; go_enter Tryd.func17, Tryd.ntmps17
  go_upto_region 15 with (first | (go_at_call 31; (refine (HSp.out _ (HM.out.below (by exact belz))).mono ?_); rintro e w1 ⟨b, rfl, hbb, hbl, k0, k1, k2, k3, k4, hb1⟩; have hz1 := hb1.size) | (go_at_call 33; (with_reducible refine (HN1.out _ (HT.out.below (by exact belz))).mono ?_); rintro e w2 ⟨rfl, hb2⟩; have hz2 := hb2.size; have bl2 : b < w2.heap.size := (by omega); have j2 := (hb2.cell (p := ⟨b, 2, none⟩) hbl).trans k2; have j3 := (hb2.cell (p := ⟨b, 3, none⟩) hbl).trans k3; have j4 := (hb2.cell (p := ⟨b, 4, none⟩) hbl).trans k4) | (go_at_call 33; (with_reducible refine (HN2.out _ (HT.out.below (by exact belz))).mono ?_); rintro e w3 ⟨rfl, hb3⟩; have hz3 := hb3.size; have bl3 : b < w3.heap.size := (by omega); have i3 := (hb3.cell (p := ⟨b, 3, none⟩) bl2).trans j3; have i4 := (hb3.cell (p := ⟨b, 4, none⟩) bl2).trans j4) | (go_at_call 32; (refine (HR.out _).mono ?_); rintro e w4 ⟨rfl, hb4⟩; have hz4 := hb4.size; have h4 := (hb4.cell (p := ⟨b, 4, none⟩) bl3).trans i4) | (go_at_call 21; (refine (HL.out _).mono ?_); rintro e w5 ⟨rfl, rfl⟩))
  have hbw : Below w.heap.size w w4 := by exact belz
  have hzw := hbw.size
  have z0 := (hbw.cell (p := ⟨zb, 0, none⟩) zlt).trans c0
  have z1 := (hbw.cell (p := ⟨zb, 1, none⟩) zlt).trans c1
  have z2 := (hbw.cell (p := ⟨zb, 2, none⟩) zlt).trans c2
  have y0 := (hbw.frozen (p := ⟨zb, 0, none⟩) zlt).trans q0
  have y1 := (hbw.frozen (p := ⟨zb, 1, none⟩) zlt).trans q1
  have y2 := (hbw.frozen (p := ⟨zb, 2, none⟩) zlt).trans q2
  have hne : b ≠ zb := by omega
  have hne2 : zb ≠ b := by omega
  have zlt2 : zb < w4.heap.size := by omega
  have bl4 : b < w4.heap.size := by omega
  have HO4 := Lib.hid (own_below HO.out hbw)
  have HBz := Lib.hid (hbw.mono (Nat.le_of_lt zlt))
  clear hb1 hb2 hb3 hb4 hbw c0 c1 c2 q0 q1 q2 k0 k1 k2 k3 k4 j2 j3 j4 i3 i4 HO HN1 HN2 HR HL HSp
  go_region_law (go_loud (refine step_append_lies _ (by rfl) _ _ _ (by rfl) (zb + 1) 50 i0 (.agg #[.int .i64 0, .int .i64 0, .string ⟨#[]⟩]) 3 32 Tryd.underlying22 hi0 iz0 iz1 iz2 (by rfl) (by omega) (.slice ra l.length rc) l.length (zcs l) (by rfl) (own_below HO4.out (by exact belz)) ⟨w4.heap.size, 0, none⟩ 1 1 [.int .i64 (d * 86400000 + m), .int .i64 o, .string lb] (by rfl) (by rfl) (World.news_of_block (cs := #[.int .i64 (d * 86400000 + m), .int .i64 o, .string lb]) (t := 50) (fr := (0, 0)) (heap_alloc_new _ _)) (by simp [Value.oneCell']) (by omega) (by unfold maxLen; omega) (by omega) (by simp; omega) (w4.heap.size + 1) (by simp) ?_; intro g6 cap6 w6 hown6 hgrow6 _ hlt6; have hb6 : Below (zb + 1) w4 w6 := Below.grown (by exact belz) hgrow6 (by (try simp); (try omega)) (fun q hq => (own_ty HO4.out q hq).1); have hz6 := hb6.size; have x0 := (hb6.cell (p := ⟨zb, 0, none⟩) (Nat.lt_succ_self zb)).trans z0; have x1 := (hb6.cell (p := ⟨zb, 1, none⟩) (Nat.lt_succ_self zb)).trans z1; have x2 := (hb6.cell (p := ⟨zb, 2, none⟩) (Nat.lt_succ_self zb)).trans z2; have u0 := (hb6.frozen (p := ⟨zb, 0, none⟩) (Nat.lt_succ_self zb)).trans y0; have u1 := (hb6.frozen (p := ⟨zb, 1, none⟩) (Nat.lt_succ_self zb)).trans y1; have u2 := (hb6.frozen (p := ⟨zb, 2, none⟩) (Nat.lt_succ_self zb)).trans y2))
  all_goals
    have HW6 := Lib.hid hown6
    have HB6 := Lib.hid hb6
    clear hown6 hgrow6 hb6
    go_wp2_with fail
  all_goals
    refine bodyPost_ret (v := .bool true) (by simp only [results, Tryd.results17]; go_simp) rfl ⟨rfl, ?_⟩
    refine ⟨⟨?_, ?_, ?_, ?_, ?_, ?_, some ⟨g6, 0, none⟩, cap6, ?_, ?_⟩, ?_⟩
    case refine_8 =>
      have e1 : (l ++ [(⟨d * 86400000 + m, o, lb⟩ : Zc)]).length = l.length + 1 := by simp
      have e2 : zcs (l ++ [(⟨d * 86400000 + m, o, lb⟩ : Zc)]) = zcs l ++ [.int .i64 (d * 86400000 + m), .int .i64 o, .string lb] := by simp [zcs, zc3]
      rw [e1, e2]
      exact ownK HW6.out (fun g h1 _ => setCell_heap _ _ _ _ (by show g ≠ zb; omega))
    case refine_9 => exact (HBz.out.trans (HB6.out.mono (Nat.le_succ _))).setCell (p := ⟨zb, 2, none⟩) (Nat.le_refl _) _
    case refine_6 => simp; omega
    case refine_7 => simp only [List.length_append, List.length_cons, List.length_nil]; go_simp
    all_goals first | (go_simp; done) | go_keep
end
end Go.Proofs.YtapmdkinneehjaaDoor
