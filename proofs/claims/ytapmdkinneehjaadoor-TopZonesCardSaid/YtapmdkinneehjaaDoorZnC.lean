/- WriteString keeps the blocks that are neither the builder's nor of bytes. The contract of zonetext.Print where the zone is accepted. -/
import Derived.Test.YtapmdkinneehjaaDoorWalkFgT
import Derived.Test.YtapmdkinneehjaaDoorZnB
import Derived.Test.YtapmdkinneehjaaDoorPlainInt
import Derived.Test.YtapmdkinneehjaaDoorWalkInt
set_option linter.unusedVariables false
set_option linter.unusedSimpArgs false
namespace Go.Proofs.YtapmdkinneehjaaDoor
section
open Go.RowKit
/-- Blocks of another kind than bytes, other than b, stay. -/
def KeepB (b : Nat) (w w' : World) : Prop := ∀ g, g < w.heap.size → g ≠ b → (∀ cur fz, w.heap[g]? ≠ some (.cells cur 5 fz)) → w'.heap[g]? = w.heap[g]?
theorem setCell_heapB (w : World) (a : Addr) (v : Value) (g : Nat) (h : g ≠ a.block) : (w.setCell a v).heap[g]? = w.heap[g]? := by
  unfold World.setCell
  simp only [Array.getElem?_modify]
  rw [if_neg (fun e => h e.symm)]
theorem c_bldCheckK (B b : Nat) (bs : List Value) (w : World) (h : Lib.IsBuilderF 43 5 B b bs w) :
    Calls Tryd.prog 27 #[.pointer (some ⟨b, 0, none⟩)] w fun e w' => e = .returned (.tuple #[]) ∧ (Lib.BuilderAtF 43 5 B b (.pointer (some ⟨b, 0, none⟩)) bs w' ∧ Below B w w') ∧ ∀ g, g ≠ b → w'.heap[g]? = w.heap[g]? := by
  rcases h with h | h
  · refine (bld_fresh b w h.cell0 h.shape h.frozen0).mono ?_
    rintro e w' ⟨rfl, rfl⟩
    exact ⟨rfl, ⟨h.used _, (Below.refl B w).setCell (p := ⟨b, 0, none⟩) h.1 _⟩, fun g hg => setCell_heapB _ _ _ _ hg⟩
  · refine (bld_used b w h.cell0).mono ?_
    rintro e w' ⟨rfl, rfl⟩
    exact ⟨rfl, ⟨h, Below.refl B _⟩, fun g _ => rfl⟩
set_option maxHeartbeats 2000000 in
set_option maxRecDepth 100000 in
theorem c_WriteStringK (B b : Nat) (bs : List Value) (s : ByteArray) (w : World) (h : Lib.IsBuilderF 43 5 B b bs w) (hlen : bs.length + s.size ≤ 140737488355328) (hBw : B ≤ w.heap.size) :
    Calls Tryd.prog 11 #[.pointer (some ⟨b, 0, none⟩), .string s] w fun e w' => e = .returned (.tuple #[.int .i64 s.size, .nilIface]) ∧ (Lib.BuilderAtF 43 5 B b (.pointer (some ⟨b, 0, none⟩)) (bs ++ Lib.strCells s) w' ∧ Below B w w') ∧ KeepB b w w' := by
  obtain ⟨i0, hi, hz0, hz1, hz2⟩ := info_parts Tryd.Builder_Extra_169.infoByte
  have hgen := sgen; have hgen2 := sgen2; have hgen3 := sgen3; go_enter Tryd.func11, Tryd.ntmps11
  go_wp2_with (go_at_call 27; refine (c_bldCheckK B b bs _ h).mono ?_)
  rintro e w1 ⟨rfl, ⟨h1, hb1⟩, hk1⟩
  obtain ⟨hB, v, hbk, hown, hne⟩ := h1
  have c0 : w1.cell? ⟨b, 0, none⟩ = some (.pointer (some ⟨b, 0, none⟩)) := by rw [Lib.cell_of_heap hbk]; rfl
  have c1 : w1.cell? ⟨b, 1, none⟩ = some v := by rw [Lib.cell_of_heap hbk]; rfl
  go_wp2_with (at_builtin; refine Lib.wpList_append_own_stringF _ rfl _ _ 41 9 rfl B 5 i0 Tryd.underlying41 Tryd.underlying9 hi hz0 hz1 hz2 _ _ _ rfl hown s rfl ?c3 ?c4 ?c5 ?_)
  case c3 => unfold maxLen; omega
  case c4 => omega
  case c5 => have := hb1.size; omega
  intro v' w2 hown' hgrow _
  have hlt : b < w1.heap.size := by
    rcases Nat.lt_or_ge b w1.heap.size with h' | h'
    · exact h'
    · simp [Array.getElem?_eq_none h'] at hbk
  have hb2 : w2.heap[b]? = some (.cells #[.pointer (some ⟨b, 0, none⟩), v] 43 (0, 0)) := by
    rw [hgrow.block b hlt (fun e => hne e.symm)]
    exact hbk
  have d0 : w2.cell? ⟨b, 0, none⟩ = some (.pointer (some ⟨b, 0, none⟩)) := by rw [Lib.cell_of_heap hb2]; rfl
  have d1 : w2.cell? ⟨b, 1, none⟩ = some v := by rw [Lib.cell_of_heap hb2]; rfl
  have f1 : w2.frozen? ⟨b, 1, none⟩ = false := Lib.frozen_of_heap hb2 1
  have hkeep : ∀ x y, KeepB b w (w2.setCell ⟨b, x, none⟩ y) := by
    intro x y g hg hgb hnu
    rw [setCell_heapB _ _ _ _ hgb]
    have hs1 := hb1.size
    rw [hgrow.block g (by omega) ?_, hk1 g hgb]
    intro e1
    rcases hown.2 with ⟨hv, _⟩ | ⟨g2, cap, cur, fz, hv, _, hh, _⟩
    · rw [hv] at e1; cases e1
    · rw [hv] at e1
      injection e1 with e1
      subst e1
      rw [hk1 g hgb] at hh
      exact hnu _ _ hh
  obtain ⟨ao, n', cap, rfl⟩ : ∃ ao n' cap, v' = .slice ao n' cap := by
    rcases hown'.2 with ⟨hv, _⟩ | ⟨g, cap, cur, fz, hv, _⟩
    · exact ⟨_, _, _, hv⟩
    · exact ⟨_, _, _, hv⟩
  have HKp := Lib.hid hkeep
  clear hkeep hk1
  go_wp2
  go_ret2
  refine ⟨rfl, ⟨?_, ?_⟩, HKp.out _ _⟩
  · exact Lib.BuilderAtF.put (T := 43) (e := 5) hB hb2 (bs' := bs ++ Lib.strCells s) (by simpa [Lib.strCells_length] using hown') (by decide)
  · exact (hb1.grown hgrow (by have := hb1.size; omega) (fun k hk => (hown.lt k hk).1)).setCell (p := ⟨b, 1, none⟩) hB _
theorem c_WriteK (b : Nat) (l s : List UInt8) (w : World) (h : BldIs b l w) (hlen : l.length + s.length ≤ 140737488355328) :
    Calls Tryd.prog 11 #[.pointer (some ⟨b, 0, none⟩), .string (strB s)] w fun e w' => (∃ v, e = .returned v) ∧ BldIs b (l ++ s) w' ∧ Below b w w' ∧ KeepB b w w' := by
  refine (c_WriteStringK b b (Lib.byteCells l) (strB s) w h (by rw [Lib.byteCells_length, strB_size]; exact hlen) (Nat.le_of_lt h.lt)).mono ?_
  rintro e w' ⟨rfl, ⟨h1, h2⟩, h3⟩
  refine ⟨⟨_, rfl⟩, .inr ?_, h2, h3⟩
  rw [Lib.byteCells_append]
  exact h1
end
section
open Go.RowKit
set_option maxRecDepth 100000 in
set_option maxHeartbeats 4000000 in
theorem c_zPrint (nm : ByteArray) (f : Int) (a : Option Addr) (cap : Nat) (l : List Zc) (w : World) (hT : NTab w) (hsz : nm.size ≤ 9223372036854775807) (hc : l.length ≤ cap) (hs : ZcSlice w a l) (hwf : ∀ y ∈ l, (-9223372036854775808 ≤ y.t ∧ y.t ≤ 9223372036854775807) ∧ y.lb.size ≤ 9223372036854775807) (h : zE nm f l = 0) :
    Calls Tryd.prog 4 #[.agg #[.string nm, .int .i64 f, .slice a l.length cap]] w fun e w' => e = .returned (.tuple #[.string (strB (zT nm f l)), .int .i64 0]) ∧ Below w.heap.size w w' := by
  have hck := fun w1 (h1 : ZcSlice w1 a l) => c_zCheck nm f a cap l w1 hsz hc h1 hwf
  rw [h] at hck
  have HC := Lib.hid hck
  obtain ⟨k1, k2, k3, k4, k5⟩ := zE_ok h
  have HS := Lib.hid hs
  have HT := Lib.hid hT
  have hn12 := name_le k1
  obtain ⟨f1, f2⟩ := off_le k2
  have HO := Lib.hid (fun w1 => c_off f w1 f1 f2)
  obtain ⟨x1, x2, x3, x4⟩ := zh_steps (X := nm.data.toList) (Y := offT f) (by omega) (by rw [offT_len]; omega)
  have hnm : strB nm.data.toList = nm := rfl
  rw [hnm] at x1
  have hzl : (zhT nm f).length ≤ 40 := by simp [zhT, offT_len]; simp at hn12; omega
  have hH : [122, 111, 110, 101, 32] ++ nm.data.toList ++ [32] ++ offT f ++ [10] = zhT nm f := rfl
  rw [hH] at x4
  have HV := Lib.hid (show zT nm f l = zhT nm f ++ zrsT l from rfl)
  have HK := Lib.hid k4
  clear hck hs hT k1 k2 k4 k5 hnm hH h hwf f1 f2 hn12
  generalize zT nm f l = Z at *
  generalize zhT nm f = H at *
  generalize strB ([122, 111, 110, 101, 32] ++ nm.data.toList ++ [32] ++ offT f) = A4 at *
  generalize strB ([122, 111, 110, 101, 32] ++ nm.data.toList ++ [32]) = A3 at *
  generalize strB ([122, 111, 110, 101, 32] ++ nm.data.toList) = A2 at *
  generalize strB (offT f) = A1 at *
  have HZ := Lib.hid (show ([] : List UInt8).length + H.length ≤ 140737488355328 by simp; omega)
  have hgen := sgen; have hgen2 := sgen2; have hgen3 := sgen3; go_enter Tryd.func4, Tryd.ntmps4
  go_wp2_with (go_at_call 10; (with_reducible refine (HC.out _ (HS.out.below (Nat.le_refl _) (by exact belz))).mono ?_); rintro e w1 ⟨rfl, hb⟩; have hz := hb.size; (try simp only [szA, szS, szD, szN] at hz); (try (refine bcB (n := w.heap.size) hb ?_; intro h_w_0 e_w_0 d_w_0 _ _)); (try (refine bcB (n := w.heap.size + 1) hb ?_; intro h_w_1 e_w_1 d_w_1 _ _)))
  have hs0 : w.heap.size < w1.heap.size := by assumption
  have hb0 : Below w.heap.size w w1 := by exact belz
  go_region_held3 (fun w9 => w9.cell? ⟨w.heap.size, 0, none⟩ = some (.string nm) ∧ w9.cell? ⟨w.heap.size, 1, none⟩ = some (.int .i64 f) ∧ w9.cell? ⟨w.heap.size, 2, none⟩ = some (.slice a l.length cap)) (first | (exact ⟨by assumption, by assumption, by assumption⟩) | go_keep) (first | (go_at_call 12; (refine (HO.out _).mono ?_); rintro e w2 ⟨rfl, hb2⟩; have hz2 := hb2.size; go_split_ands; have q0 := (hb2.cell (p := ⟨w.heap.size, 0, none⟩) (by simp; omega)).trans (by assumption); have q1 := (hb2.cell (p := ⟨w.heap.size, 1, none⟩) (by simp; omega)).trans (by assumption); have q2 := (hb2.cell (p := ⟨w.heap.size, 2, none⟩) (by simp; omega)).trans (by assumption)) | (go_at_call 11; (refine (c_WriteB w1.heap.size [] H w2 ((bldIs_new w1).below (by exact belz)) HZ.out).mono ?_); rintro e w3 ⟨⟨v, rfl⟩, hB3, hb3⟩; have hz3 := hb3.size; have r0 := (hb3.cell (p := ⟨w.heap.size, 0, none⟩) (by assumption)).trans q0; have r1 := (hb3.cell (p := ⟨w.heap.size, 1, none⟩) (by assumption)).trans q1; have r2 := (hb3.cell (p := ⟨w.heap.size, 2, none⟩) (by assumption)).trans q2))
  have hb13 : Below w1.heap.size w1 w3 := Below.trans (by exact belz) hb3
  have hB3 : BldIs w1.heap.size H w3 := hB3
  have hbw3 : Below w.heap.size w w3 := hb0.trans (hb13.mono (by omega))
  have HS3 := Lib.hid (HS.out.below (Nat.le_refl _) hbw3)
  have HB3 := Lib.hid hB3
  have HB13 := Lib.hid hb13
  have HB0 := Lib.hid hb0
  have HBw3 := Lib.hid hbw3
  clear hB3 hb13 hb3 hb2 hb0 hb hbw3
  go_wp2
  go_loopg [29] l.length (fun gk i wr => ∃ k : Nat, gk + k = l.length ∧ i = .int .i64 k ∧ BldIs w1.heap.size (H ++ zrsT (l.take k)) wr ∧ Below w1.heap.size w1 wr)
  case atStart => exact ⟨0, by omega, rfl, by simpa [zrsT] using HB3.out, HB13.out⟩
  case round =>
    obtain ⟨k, hk, rfl, hB, hbel⟩ := hrel
    have hzs := hbel.size
    have hlb := hB.lt
    have hbw : Below w.heap.size w wr := HB0.out.trans (hbel.mono (by omega))
    by_cases hlt : k < l.length
    · obtain ⟨bb, off, ha, hbb, y0, y1, y2⟩ := (HS.out.below (Nat.le_refl _) hbw) k hlt
      have ix := @ix_Zc a bb off l.length cap k ha hlt
      obtain ⟨ht, ho, hl⟩ := HK.out l[k] (List.getElem_mem hlt)
      have hsn : zrsT (l.take (k + 1)) = zrsT (l.take k) ++ zrT l[k] := by rw [List.take_succ_eq_append_getElem hlt, zrsT_append]; simp [zrsT]
      have hlen : (zrsT (l.take k)).length ≤ 65 * (l.take k).length := zrs_len (fun c hc => HK.out c (List.mem_of_mem_take hc))
      have htk : (l.take k).length ≤ 200 := by simp; omega
      have hle : (zrT l[k]).length ≤ 65 := by have := zl_len (HK.out l[k] (List.getElem_mem hlt)); have e := zrT_eq l[k] []; simp at e; rw [e]; simp; omega
      clear ha
      generalize zrsT (l.take k) = E at *
      generalize hx : l[k] = c at *
      clear hx
      obtain ⟨t, o, lb⟩ := c
      dsimp only at y0 y1 y2 ht ho hl
      obtain ⟨t1, t2⟩ := inst_le ht
      obtain ⟨o1, o2⟩ := off_le ho
      have l1 := lab_le hl
      have aD := Go.Lib.itoa_length_le (t / 86400000) (by omega) (by omega)
      have aM := Go.Lib.itoa_length_le (t % 86400000) (by omega) (by omega)
      have aO := offT_len o
      have HDv := Lib.hid (fun w1 => calls_belowZ (c_div t 86400000 w1 (by omega) (by omega) (by omega) (by omega)))
      have HI1 := Lib.hid (fun w1 h1 => c_ItoaB (t / 86400000) w1 h1 (by omega) (by omega))
      have HI2 := Lib.hid (fun w1 h1 => c_ItoaB (t % 86400000) w1 h1 (by omega) (by omega))
      have HOc := Lib.hid (fun w1 => c_off o w1 o1 o2)
      obtain ⟨s1, s2, s3, s4, s5, s6, s7, s8⟩ := zr_steps (A := Go.Lib.itoa (t / 86400000)) (B := Go.Lib.itoa (t % 86400000)) (C := offT o) (D := lb.data.toList) (by omega) (by omega) (by omega) (by omega)
      have hlb : strB lb.data.toList = lb := rfl
      rw [hlb] at s7
      have hR : [97, 116, 32] ++ Go.Lib.itoa (t / 86400000) ++ [32] ++ Go.Lib.itoa (t % 86400000) ++ [32] ++ offT o ++ [32] ++ lb.data.toList ++ [10] = zrT ⟨t, o, lb⟩ := rfl
      rw [hR] at s8
      have HR := Lib.hid hsn
      clear hlb hR aD aM aO hsn ht ho hl
      generalize zrT ⟨t, o, lb⟩ = T at *
      generalize strB ([97, 116, 32] ++ Go.Lib.itoa (t / 86400000) ++ [32] ++ Go.Lib.itoa (t % 86400000) ++ [32] ++ offT o ++ [32] ++ lb.data.toList) = A7 at *
      generalize strB ([97, 116, 32] ++ Go.Lib.itoa (t / 86400000) ++ [32] ++ Go.Lib.itoa (t % 86400000) ++ [32] ++ offT o ++ [32]) = A6 at *
      generalize strB ([97, 116, 32] ++ Go.Lib.itoa (t / 86400000) ++ [32] ++ Go.Lib.itoa (t % 86400000) ++ [32] ++ offT o) = A5 at *
      generalize strB ([97, 116, 32] ++ Go.Lib.itoa (t / 86400000) ++ [32] ++ Go.Lib.itoa (t % 86400000) ++ [32]) = A4 at *
      generalize strB ([97, 116, 32] ++ Go.Lib.itoa (t / 86400000) ++ [32] ++ Go.Lib.itoa (t % 86400000)) = A3 at *
      generalize strB ([97, 116, 32] ++ Go.Lib.itoa (t / 86400000) ++ [32]) = A2 at *
      generalize strB ([97, 116, 32] ++ Go.Lib.itoa (t / 86400000)) = A1 at *
      generalize strB (Go.Lib.itoa (t / 86400000)) = N1 at *
      generalize strB (Go.Lib.itoa (t % 86400000)) = N2 at *
      generalize strB (offT o) = N3 at *
      generalize t / 86400000 = d at *
      generalize t % 86400000 = m at *
      have hD : (H ++ E).length ≤ 14000 := by simp; omega
      have HZ2 := Lib.hid (show (H ++ E).length + T.length ≤ 140737488355328 by omega)
      have hEE : H ++ (E ++ T) = H ++ E ++ T := (List.append_assoc _ _ _).symm
      have HEE := Lib.hid hEE
      clear hEE hD hlen htk hle
      generalize H ++ E = D at *
      have HB := Lib.hid hB
      clear hB
      go_upto_region 10 with (go_at_call 13; (refine (HDv.out _).mono ?_); rintro e w4 ⟨rfl, hb4⟩; have hz4 := hb4.size)
      have hbr : Below wr.heap.size wr w4 := by (clear hbel hbw; exact belz)
      have sz4 : wr.heap.size < w4.heap.size := by (try simp at hz4); omega
      have c1 : w4.cell? ⟨wr.heap.size, 1, none⟩ = some (.int .i64 o) := (hb4.cell (p := ⟨wr.heap.size, 1, none⟩) (by simp)).trans (by go_simp)
      have c2 : w4.cell? ⟨wr.heap.size, 2, none⟩ = some (.string lb) := (hb4.cell (p := ⟨wr.heap.size, 2, none⟩) (by simp)).trans (by go_simp)
      have hno4 : ∀ cur fz, w4.heap[wr.heap.size]? ≠ some (.cells cur 5 fz) := by
        intro cur fz
        rw [hb4.block wr.heap.size (by simp)]
        rw [heap_alloc_new wr _]
        intro h9
        injection h9 with h9
        injection h9 with _ h9
        exact absurd h9 (by decide)
      have HT4 := Lib.hid ((HT.out.below hbw).below hbr)
      have HB4 := Lib.hid (HB.out.below hbr)
      clear hb4
      go_region_held3 (fun w9 => w9.cell? ⟨wr.heap.size, 1, none⟩ = some (.int .i64 o) ∧ w9.cell? ⟨wr.heap.size, 2, none⟩ = some (.string lb)) (first | (exact ⟨by assumption, by assumption⟩) | go_keep) (first | (go_at_call 14; (refine (HI1.out _ (HT4.out.below (by (clear hbel hbw hbr; exact belz)))).mono ?_); rintro e w5 ⟨rfl, hb5⟩; have hz5 := hb5.size; have h9 : w4.heap.size ≤ w5.heap.size := hz5; have sz5 : wr.heap.size < w5.heap.size := (by omega); have q0 := (hb5.cell (p := ⟨wr.heap.size, 1, none⟩) sz4).trans c1; have q1 := (hb5.cell (p := ⟨wr.heap.size, 2, none⟩) sz4).trans c2) | (go_at_call 14; (refine (HI2.out _ (HT4.out.below (by (clear hbel hbw hbr; exact belz)))).mono ?_); rintro e w6 ⟨rfl, hb6⟩; have hz6 := hb6.size; have sz6 : wr.heap.size < w6.heap.size := (by omega); have p0 := (hb6.cell (p := ⟨wr.heap.size, 1, none⟩) sz5).trans q0; have p1 := (hb6.cell (p := ⟨wr.heap.size, 2, none⟩) sz5).trans q1) | (go_at_call 12; (refine (HOc.out _).mono ?_); rintro e w7 ⟨rfl, hb7⟩; have hz7 := hb7.size; have sz7 : wr.heap.size < w7.heap.size := (by omega); have n0 := (hb7.cell (p := ⟨wr.heap.size, 1, none⟩) sz6).trans p0; have n1 := (hb7.cell (p := ⟨wr.heap.size, 2, none⟩) sz6).trans p1) | (go_at_call 11; (refine (c_WriteK w1.heap.size D T w7 (HB4.out.below (by (clear hbel hbw hbr; exact belz))) HZ2.out).mono ?_); rintro e w8 ⟨⟨v, rfl⟩, hB8, hb8, hkp8⟩; have hz8 := hb8.size; have hk8 := hkp8 wr.heap.size sz7 (by omega) (by (rw [hb7.block _ sz6, hb6.block _ sz5, hb5.block _ sz4]; exact hno4)); have m0 := (World.cell?_of_block (a := ⟨wr.heap.size, 1, none⟩) hk8).trans n0; have m1 := (World.cell?_of_block (a := ⟨wr.heap.size, 2, none⟩) hk8).trans n1))
      have hw8 : Below w1.heap.size wr w8 := Below.trans (by exact belz) hb8
      go_wp2_with fail
      go_roundg (l.length - (k + 1))
      case measure => omega
      case rel => exact ⟨k + 1, by omega, by go_num, by rw [HR.out, HEE.out]; exact hB8, hbel.trans hw8⟩
    · obtain rfl : k = l.length := by omega
      rw [List.take_of_length_le (Nat.le_refl _), ← HV.out] at hB
      have HB := Lib.hid hB
      clear hB hlt
      go_wp2_with (go_at_call 15; (refine (c_BldString w1.heap.size Z _ (HB.out.below (by exact belz))).mono ?_); rintro e w9 ⟨rfl, hb9⟩)
      refine bodyPost_ret (v := .tuple #[.string (strB Z), .int .i64 0]) (by simp only [results, Tryd.results4]; go_simp) rfl ⟨rfl, ?_⟩
      exact hbw.trans (Below.mono (Below.trans (by (clear hbel hbw; exact belz)) hb9) (by omega))
end
end Go.Proofs.YtapmdkinneehjaaDoor
