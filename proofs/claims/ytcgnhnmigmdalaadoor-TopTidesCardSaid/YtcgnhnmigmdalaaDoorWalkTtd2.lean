/- The walk through the law TopTides. -/
import Derived.Test.YtcgnhnmigmdalaaDoorWalkTtd
import Derived.StillTailTactics
set_option linter.unusedVariables false
set_option linter.unusedSimpArgs false
set_option maxRecDepth 100000
namespace Go.Proofs.YtcgnhnmigmdalaaDoor
open Go.RowKit
def B64 (n : Int) : Prop := -9223372036854775808 ≤ n ∧ n ≤ 9223372036854775807
def TB (x : Tm) : Prop := B64 x.amp ∧ B64 x.ph ∧ B64 x.rt
set_option maxHeartbeats 4000000 in
theorem walk_TopTides (a : Option Addr) (cap : Nat) (l : List Tm) (t : Int) (ar : Option Addr) (capr : Nat) (rl : List Tm) (y : Tm) (w : World) (hT : Tab w) (hc : l.length ≤ cap) (hcm : cap ≤ maxLen) (hs : TmSlice w a l) (hw : ∀ x ∈ l, TB x)
    (t1 : -9223372036854775808 ≤ t) (t2 : t ≤ 9223372036854775807) (hcr : rl.length ≤ capr) (hrm : capr ≤ maxLen) (hr : TmSlice w ar rl) (hwr : ∀ x ∈ rl, TB x) (hy : TB y) :
    Calls Tryd.prog 7 #[.slice a l.length cap, .int .i64 t, .slice ar rl.length capr, .agg #[.int .i64 y.amp, .int .i64 y.ph, .int .i64 y.rt]] w fun e w' => e = .returned (.bool true) ∧ Below w.heap.size w w' := by
  obtain ⟨i0, hi0, hz0, hz1, hz2⟩ := info_parts info_tide
  have HT := Lib.hid hT
  have HS := Lib.hid hs
  have HR := Lib.hid hr
  have HW := Lib.hid hw
  have HWR := Lib.hid hwr
  have hml : l.length ≤ maxLen := by omega
  have hmr : rl.length ≤ maxLen := by omega
  unfold maxLen at hml hmr
  clear hT hs hr hw hwr
  have hgen := sgen; have hgen2 := sgen2; have hgen3 := sgen3; go_enter Tryd.func7, Tryd.ntmps7
  go_upto_region 6 with (first | (go_at_call 26; (with_reducible refine (c_sSky _ (HT.out.below (by exact belz))).mono ?_); rintro e w1 ⟨rfl, hb⟩; have hz := hb.size; (try simp only [szA, szS, szD, szN] at hz); (try (refine bcB (n := w.heap.size) hb ?_; intro h_w_0 e_w_0 d_w_0 _ _)); (try (refine bcB (n := w.heap.size + 1) hb ?_; intro h_w_1 e_w_1 d_w_1 _ _))))
  have hb1 : Below w.heap.size w w1 := by exact belz
  obtain ⟨y0, y1, y2⟩ : w1.cell? ⟨w.heap.size, 0, none⟩ = some (.int .i64 y.amp) ∧ w1.cell? ⟨w.heap.size, 1, none⟩ = some (.int .i64 y.ph) ∧ w1.cell? ⟨w.heap.size, 2, none⟩ = some (.int .i64 y.rt) := ⟨by go_simp, by go_simp, by go_simp⟩
  have hz1' : w.heap.size < w1.heap.size := by (try simp at hz); omega
  have HY : Hid (∀ w2, Below w1.heap.size w1 w2 → w2.cell? ⟨w.heap.size, 0, none⟩ = some (.int .i64 y.amp) ∧ w2.cell? ⟨w.heap.size, 1, none⟩ = some (.int .i64 y.ph) ∧ w2.cell? ⟨w.heap.size, 2, none⟩ = some (.int .i64 y.rt)) :=
    Lib.hid (fun w2 h => ⟨(h.cell (p := ⟨w.heap.size, 0, none⟩) hz1').trans y0, (h.cell (p := ⟨w.heap.size, 1, none⟩) hz1').trans y1, (h.cell (p := ⟨w.heap.size, 2, none⟩) hz1').trans y2⟩)
  have HB1 := Lib.hid hb1
  obtain ⟨wb, hwb⟩ : ∃ wb : World, wb = w1 := ⟨_, rfl⟩
  rw [← hwb] at HY HB1 hz1'
  clear y0 y1 y2 hb hb1
  go_loopg [9, 10, 31] l.length (fun gk x9 x10 i wr => ∃ k : Nat, gk + k = l.length ∧ i = .int .i64 (k : Int) ∧ x10 = .int .i64 (tdM (lsT tcv l k)) ∧ Below wb.heap.size wb wr ∧ wr.ownsRow wb.heap.size 65 3 x9 (lsT tcv l k).length (tmCells (lsT tcv l k)))
  case atStart =>
    refine ⟨0, by omega, rfl, rfl, by rw [hwb]; exact Below.refl _ _, ?_⟩
    exact World.ownsRow_nil _ _ _ _
  case round =>
    obtain ⟨k, hk, rfl, rfl, hbel, hown⟩ := hrel
    have hsz := hbel.size
    by_cases hlt : k < l.length
    · have hkz : (k : Int) < (l.length : Int) := by omega
      obtain ⟨lb, off, rfl, m0, c0, c1, c2⟩ := (HS.out.below (Nat.le_refl _) (HB1.out.trans (hbel.mono (Nat.le_of_lt hz1')))) k hlt
      have hix := ix_Td (cap := cap) (b := lb) (off := off) rfl hlt
      obtain ⟨⟨v0, v1⟩, ⟨v2, v3⟩, ⟨v4, v5⟩⟩ := HW.out l[k] (List.getElem_mem hlt)
      by_cases h8 : k < 8
      · have hk8 : decide ((k : Int) < 8) = true := decide_eq_true (by omega)
        have hln := lsT_next tcv l k hlt h8
        have HLN := Lib.hid hln
        have HTM : Hid (tdM (lsT tcv l (k + 1)) = tdM (lsT tcv l k) + l[k].amp % 20001) := Lib.hid (by rw [hln, tdM_snoc]; rfl)
        have hcv : tmCells [tcv l[k]] = [.int .i64 (l[k].amp % 20001), .int .i64 (l[k].ph % 1000000000), .int .i64 (1 + l[k].rt % 4000000000000000)] := rfl
        have HCV := Lib.hid hcv
        have hll := lsT_len tcv l (k := k) (by omega)
        obtain ⟨n0, n1⟩ := tdM_lst l k (by omega)
        have HA1 := Lib.hid (fun w1 => c_sAt l[k].amp 20001 w1 v0 v1 (by omega) (by omega))
        have HA2 := Lib.hid (fun w1 => c_sAt l[k].ph 1000000000 w1 v2 v3 (by omega) (by omega))
        have HA3 := Lib.hid (fun w1 => c_sAt l[k].rt 4000000000000000 w1 v4 v5 (by omega) (by omega))
        have HO := Lib.hid hown
        clear hln hcv hown
        obtain ⟨x0, x1, x2⟩ : (0 ≤ l[k].amp % 20001 ∧ l[k].amp % 20001 ≤ 20000) ∧ (0 ≤ l[k].ph % 1000000000 ∧ l[k].ph % 1000000000 ≤ 999999999) ∧ (0 ≤ l[k].rt % 4000000000000000 ∧ l[k].rt % 4000000000000000 < 4000000000000000) := by omega
        generalize l[k].amp % 20001 = va at *
        generalize l[k].ph % 1000000000 = vp at *
        generalize l[k].rt % 4000000000000000 = vr at *
        generalize l[k].amp = oa at *
        generalize l[k].ph = op at *
        generalize l[k].rt = or' at *
        generalize tdM (lsT tcv l k) = mst at *
        clear HS HR HW HWR
        go_upto_region 9 with fail
        refine Go.wp_region_still_tail 11 (by kernel_rfl) (by kernel_rfl) ?_
        simp only [List.take_succ_cons, List.take_zero, List.drop_succ_cons, List.drop_zero]
        change Go.wpStill _ _ (World.drew _) (fun a' => wpList _ _ _ _ a' (World.drew _)) _ _
        (repeat still_step)
        still_call ((HA1.out _).mono (fun e w' h => ⟨h.1, h.2.symm⟩))
        (repeat still_step)
        still_call ((HA2.out _).mono (fun e w' h => ⟨h.1, h.2.symm⟩))
        (repeat still_step)
        still_call ((HA3.out _).mono (fun e w' h => ⟨h.1, h.2.symm⟩))
        (repeat still_step)
        refine Go.wpStill_nil ?_
        go_upto_region 10 with fail
        obtain ⟨wq, hq⟩ : ∃ wq : World, wq = (wr.alloc (Obj.cells #[.int .i64 va, .int .i64 vp, .int .i64 (1 + vr)] 65)).drew := ⟨_, rfl⟩
        have q0 : wq.cell? ⟨wr.heap.size, 0, none⟩ = some (.int .i64 va) := by rw [hq]; go_simp
        have q1 : wq.cell? ⟨wr.heap.size, 1, none⟩ = some (.int .i64 vp) := by rw [hq]; go_simp
        have q2 : wq.cell? ⟨wr.heap.size, 2, none⟩ = some (.int .i64 (1 + vr)) := by rw [hq]; go_simp
        have HOQ : Hid (wq.ownsRow wb.heap.size 65 3 u9 (lsT tcv l k).length (tmCells (lsT tcv l k))) := Lib.hid (by rw [hq]; exact HO.out.alloc _)
        have hbq : Below wb.heap.size wb wq := by rw [hq]; exact belz
        have hzq : wr.heap.size < wq.heap.size := by rw [hq]; simp
        have HNB : Hid (∀ o : Option Nat, u9.ownBlock = o → o ≠ some wr.heap.size) := Lib.hid (fun o h e => absurd (HO.out.lt wr.heap.size (h.trans e)).2 (Nat.lt_irrefl _))
        have hwk : IntKind.i64.wrap (mst + va) = mst + va := IntWalk.i64_in _ (by omega)
        rw [← hq]
        clear HO hq
        go_region_held3 (fun w' => w'.cell? ⟨wr.heap.size, 0, none⟩ = some (.int .i64 va) ∧ w'.cell? ⟨wr.heap.size, 1, none⟩ = some (.int .i64 vp) ∧ w'.cell? ⟨wr.heap.size, 2, none⟩ = some (.int .i64 (1 + vr))) (refine ⟨?_, ?_, ?_⟩ <;> (first | (go_simp; done) | go_keep)) (first | (refine step_append_any (by rfl) _ _ _ (by rfl) wb.heap.size 65 i0 _ 3 24 Tryd.underlying61 hi0 hz0 hz1 hz2 rfl (by omega) u9 (lsT tcv l k).length _ (by rfl) (HOQ.out.alloc _) (.slice (some ⟨wq.heap.size, 0, none⟩) 1 1) 1 [.int .i64 va, .int .i64 vp, .int .i64 (1 + vr)] (by rfl) (.inr ⟨_, _, rfl, World.news_of_block (cs := #[.int .i64 va, .int .i64 vp, .int .i64 (1 + vr)]) (t := 65) (fr := (0, 0)) (heap_alloc_new wq _)⟩) (by rfl) (by simp [Value.oneCell']) (by unfold maxLen; omega) (by omega) (by (try simp); omega) ?_; intro v6 w6 ho6 hg6; have hk6 : ∀ o, w6.cell? ⟨wr.heap.size, o, none⟩ = wq.cell? ⟨wr.heap.size, o, none⟩ := (fun o => (World.cell?_of_block (a := ⟨wr.heap.size, o, none⟩) (hg6.block wr.heap.size (by (try simp); omega) (fun e => HNB.out _ rfl e.symm))).trans (by go_simp)); have k60 := (hk6 0).trans q0; have k61 := (hk6 1).trans q1; have k62 := (hk6 2).trans q2; clear hk6))
        have hb6 : Below wb.heap.size wb w6 := by
          refine Below.grown ?_ hg6 ?_ ?_
          · exact belz
          · simp; omega
          · intro g hg
            exact (HOQ.out.lt g hg).1
        have HN : Hid (w6.ownsRow wb.heap.size 65 3 v6 (lsT tcv l (k + 1)).length (tmCells (lsT tcv l (k + 1)))) := Lib.hid (by rw [HLN.out, List.length_append, tmCells_append, HCV.out]; exact ho6)
        clear hg6 ho6 k60 k61 k62 HOQ HNB q0 q1 q2
        go_wp2_with fail
        go_roundg (l.length - (k + 1))
        case measure => omega
        case rel => exact ⟨k + 1, by omega, rfl, by rw [HTM.out], hb6, HN.out⟩
      · have hk8 : decide ((k : Int) < 8) = false := decide_eq_false (by omega)
        have HO := Lib.hid hown
        have HLS := Lib.hid (lsT_stay tcv l k h8)
        clear hown
        go_wp2_with fail
        go_roundg (l.length - (k + 1))
        case measure => omega
        case rel => exact ⟨k + 1, by omega, rfl, by rw [HLS.out], by exact belz, by rw [HLS.out]; exact HO.out.alloc _⟩
    · obtain rfl : k = l.length := by omega
      obtain ⟨a9, c9, rfl, hc9, hs9⟩ := own_tm hown
      have HS9 := Lib.hid hs9
      have hll : (lsT tcv l l.length).length ≤ 8 := by have := lsT_len tcv l (Nat.le_refl l.length); omega
      obtain ⟨n0, n1⟩ := tdM_lst l l.length (Nat.le_refl _)
      have hgood := lst_good l
      have HMO := Lib.hid (fun x => td_most hgood x)
      have HBD := Lib.hid (fun x => td_bd hgood x)
      clear hs9 hown
      have hbw : Below w.heap.size w wr := HB1.out.trans (hbel.mono (Nat.le_of_lt hz1'))
      have hbr := hbel
      have r0 := Int.emod_nonneg t (show (604800000000000 : Int) ≠ 0 by omega)
      have r1 := Int.emod_lt_of_pos t (show (0 : Int) < 604800000000000 by omega)
      have HSI := Lib.hid (fun w1 => c_sInstant t w1 t1 t2)
      have T0 : -302400000000000 ≤ t % 604800000000000 - 302400000000000 := by omega
      have T1 : t % 604800000000000 - 302400000000000 < 302400000000000 := by omega
      clear r0 r1
      generalize t % 604800000000000 - 302400000000000 = T at *
      have iT := inst_of (x := T) (by omega) (by omega)
      have iT' := inst_of (x := T + 259200000) (by omega) (by omega)
      have HHE := Lib.hid (fun x w1 hT1 hs1 hi => c_tHeight (lsT tcv l l.length) x a9 c9 w1 hT1 hc9 hs1 hgood hi)
      have HHI := Lib.hid (fun w1 hT1 hs1 => c_tHigh (lsT tcv l l.length) T (T + 259200000) a9 c9 w1 hT1 hc9 hs1 hgood iT iT' (by omega) (by omega))
      have hN : tdN T (T + 259200000) - 1 = 72 := by unfold tdN; omega
      rw [hN] at HHI
      have HME := Lib.hid (tdO_mem PH (lsT tcv l l.length) T 72)
      have hol := tdO_len PH (lsT tcv l l.length) T 72
      obtain ⟨p0, p1⟩ := HMO.out T
      obtain ⟨p2, p3, p4, p5⟩ := HBD.out T
      clear hgood hbel hN
      generalize tdO PH (lsT tcv l l.length) T 72 = O at *
      have HMO2 : Hid (∀ x, tdLo (lsT tcv l l.length) x ≤ tdM (lsT tcv l l.length)) := Lib.hid (fun x => (HMO.out x).1)
      clear HMO
      generalize tdM (lsT tcv l l.length) = mst at *
      generalize lsT tcv l l.length = L at *
      generalize hlo : tdLo L T = lo at *
      generalize hhi : tdHi L T = hi at *
      have HH1 : Hid (∀ w1, Tab w1 → TmSlice w1 a9 L → Calls Tryd.prog 29 #[.slice a9 L.length c9, .int .i64 T] w1 fun e w' => e = .returned (.tuple #[.agg #[.int .i64 lo, .int .i64 hi], .int .i64 0]) ∧ Below w1.heap.size w1 w') := Lib.hid (fun w1 h1 h2 => by rw [← hlo, ← hhi]; exact HHE.out T w1 h1 h2 iT)
      clear hlo hhi
      go_upto_region 18 with (first | (go_at_call 28; (with_reducible refine (HSI.out _).mono ?_); rintro e w' ⟨rfl, rfl⟩) | (go_at_call 29; (with_reducible refine (HH1.out _ (HT.out.below (by exact belz)) (HS9.out.below (Nat.le_refl _) (by exact belz))).mono ?_); rintro e w2 ⟨rfl, hb⟩; have hz := hb.size; (try simp only [szA, szS, szD, szN] at hz); (try (refine bcB (n := w.heap.size) hb ?_; intro h_w_0 e_w_0 d_w_0 _ _)); (try (refine bcB (n := wb.heap.size) hb ?_; intro h_wb_0 e_wb_0 d_wb_0 _ _)); (try (refine bcB (n := wr.heap.size) hb ?_; intro h_wr_0 e_wr_0 d_wr_0 _ _))) | (go_at_call 30; (with_reducible refine (HHI.out _ (HT.out.below (by exact belz)) (HS9.out.below (Nat.le_refl _) (by exact belz))).mono ?_); rintro e w3 ⟨a3, c3, rfl, hc3, hs3, hb⟩; have hz := hb.size; (try simp only [szA, szS, szD, szN] at hz); (try (refine bcB (n := w.heap.size) hb ?_; intro h_w_0 e_w_0 d_w_0 _ _)); (try (refine bcB (n := wb.heap.size) hb ?_; intro h_wb_0 e_wb_0 d_wb_0 _ _)); (try (refine bcB (n := wr.heap.size) hb ?_; intro h_wr_0 e_wr_0 d_wr_0 _ _)); (try (refine bcB (n := w2.heap.size) hb ?_; intro h_w2_0 e_w2_0 d_w2_0 _ _))))
      have HBW := Lib.hid hbw
      have HBR := Lib.hid hbr
      clear hbw hbr
      have hbx : Below wr.heap.size wr w3 := by exact belz
      have hb3 : Below w.heap.size w w3 := HBW.out.trans (hbx.mono HBW.out.size)
      have hbb3 : Below wb.heap.size wb w3 := HBR.out.trans (hbx.mono HBR.out.size)
      have HS93 := Lib.hid (HS9.out.below (Nat.le_refl _) hbx)
      clear hbx HBW HBR
      have HS3 := Lib.hid hs3
      have hzw3 : wb.heap.size ≤ w3.heap.size := hbb3.size
      have hzw : w.heap.size ≤ w3.heap.size := hb3.size
      clear hs3 HS9 HHI HH1 hb p0 p1 p2 p3 p4 p5 HSI
      go_loopg [95] O.length (fun gk i wr => ∃ k : Nat, gk + k = O.length ∧ i = .int .i64 (k : Int) ∧ Below w3.heap.size w3 wr)
      case atStart => exact ⟨0, by omega, rfl, Below.refl _ _⟩
      case round =>
        obtain ⟨k, hk, rfl, hbel⟩ := hrel
        have hsz := hbel.size
        have hbk : Below w.heap.size w wr := hb3.trans (hbel.mono hzw)
        by_cases hlt : k < O.length
        · have hkz : (k : Int) < (O.length : Int) := by omega
          obtain ⟨lb, off, rfl, m0, c0, c1⟩ := (HS3.out.below (Nat.le_refl _) hbel) k hlt
          have hix := ix_Sp (cap := c3) (b := lb) (off := off) rfl hlt
          obtain ⟨z0, z1, z2⟩ := HME.out O[k] (List.getElem_mem hlt)
          rw [z1] at c1
          generalize O[k].lo = s at *
          have hmid := mid_td s
          have HHX := Lib.hid (fun w1 h1 h2 => HHE.out (s + 3600000) w1 h1 h2 (inst_of (x := s + 3600000) (by omega) (by omega)))
          have hmo := HMO2.out (s + 3600000)
          obtain ⟨p2, p3, p4, p5⟩ := HBD.out (s + 3600000)
          generalize tdLo L (s + 3600000) = lo2 at *
          generalize tdHi L (s + 3600000) = hi2 at *
          have hw1 : IntKind.i64.wrap (s + (s + 7200000)) = s + (s + 7200000) := IntWalk.i64_in _ (by omega)
          have hw2 : IntKind.i64.wrap (s + 3600000) = s + 3600000 := IntWalk.i64_in _ (by omega)
          clear HME HBD HMO2 HHE z1
          go_wp2_with (first | (go_at_call 29; (with_reducible refine (HHX.out _ (HT.out.below (by exact belz)) (HS93.out.below (Nat.le_refl _) (by exact belz))).mono ?_); rintro e w4 ⟨rfl, hb⟩; have hz := hb.size; (try simp only [szA, szS, szD, szN] at hz); (try (refine bcB (n := w.heap.size) hb ?_; intro h_w_0 e_w_0 d_w_0 _ _)); (try (refine bcB (n := wb.heap.size) hb ?_; intro h_wb_0 e_wb_0 d_wb_0 _ _)); (try (refine bcB (n := w3.heap.size) hb ?_; intro h_w3_0 e_w3_0 d_w3_0 _ _)); (try (refine bcB (n := wr.heap.size) hb ?_; intro h_wr_0 e_wr_0 d_wr_0 _ _)); (try (refine bcB (n := wr.heap.size + 1) hb ?_; intro h_wr_1 e_wr_1 d_wr_1 _ _))))
          go_roundg (O.length - (k + 1))
          case measure => omega
          case rel => exact ⟨k + 1, by omega, rfl, by exact belz⟩
        · obtain rfl : k = O.length := by omega
          have hb4 : Below wb.heap.size wb wr := hbb3.trans (hbel.mono hzw3)
          clear HME HBD HMO2 HHE HS93 HS3
          obtain ⟨wd, hwd⟩ : ∃ wd : World, wd = wr := ⟨_, rfl⟩
          rw [← hwd] at hbk hb4
          go_upto_region 27 with fail
          obtain ⟨j0, hj0, jz0, jz1, jz2⟩ := info_parts info_ints
          obtain ⟨i1, hi1, iz0, iz1, iz2⟩ := info_parts info_int'
          have HBK := Lib.hid hbk
          have HB4 := Lib.hid hb4
          have hzd : w.heap.size ≤ wd.heap.size := hbk.size
          have hzd2 : wb.heap.size ≤ wd.heap.size := hb4.size
          have hwd' : Below wd.heap.size wd wr := by rw [hwd]; exact Below.refl _ _
          clear hbk hb4 hbel hbb3 hb3 hwd
          go_loopg [21, 22, 121] rl.length (fun gk x21 x22 i wr => ∃ k : Nat, ∃ xs : List Value, gk + k = rl.length ∧ i = .int .i64 (k : Int) ∧ Below wd.heap.size wd wr ∧ TabOwn wr wd.heap.size (lsT tRow rl k) x21 xs x22 ∧ wr.ownsRow wd.heap.size 3 1 x22 (lsT (tHt y) rl k).length (intL (lsT (tHt y) rl k)))
          case atStart => exact ⟨0, [], by omega, rfl, hwd', TabOwn.nil _ _ _, World.ownsRow_nil _ _ _ _⟩
          case round =>
            clear hwd'
            obtain ⟨k, xs, hk, rfl, hbel, htab, hown⟩ := hrel
            have hsz := hbel.size
            have HBR := Lib.hid (HBK.out.trans (hbel.mono hzd))
            have HBR4 := Lib.hid (HB4.out.trans (hbel.mono hzd2))
            by_cases hlt : k < rl.length
            · have hkz : (k : Int) < (rl.length : Int) := by omega
              obtain ⟨lb, off, rfl, m0, c0, c1, c2⟩ := (HR.out.below (Nat.le_refl _) HBR.out) k hlt
              have hix := ix_A3 (cap := capr) (b := lb) (off := off) rfl hlt
              have HTB := Lib.hid htab
              have HOW := Lib.hid hown
              clear htab hown
              by_cases h8 : k < 8
              · have hk8 : decide ((k : Int) < 8) = true := decide_eq_true (by omega)
                have b0 := t11 rl[k].amp
                have b1 := t11 rl[k].ph
                have b2 := t11 rl[k].rt
                have e0 := t1130 rl[k].amp y.amp
                have e1 := t1130 rl[k].ph y.ph
                have e2 := t1130 rl[k].rt y.rt
                have HLN := Lib.hid (lsT_next tRow rl k hlt h8)
                have HLH := Lib.hid (lsT_next (tHt y) rl k hlt h8)
                have HR1 : Hid (tRow rl[k] = [rl[k].amp.tmod 11, rl[k].ph.tmod 11, rl[k].rt.tmod 11]) := Lib.hid rfl
                have HR2 : Hid (tHt y rl[k] = rl[k].amp.tmod 11 * y.amp.tmod 30 + rl[k].ph.tmod 11 * y.ph.tmod 30 + rl[k].rt.tmod 11 * y.rt.tmod 30) := Lib.hid rfl
                have hl1 : (lsT tRow rl k).length ≤ 8 := by have := lsT_len tRow rl (k := k) (by omega); omega
                have hl2 : (lsT (tHt y) rl k).length ≤ 8 := by have := lsT_len (tHt y) rl (k := k) (by omega); omega
                generalize hp0 : rl[k].amp.tmod 11 = p0 at *
                generalize hp1 : rl[k].ph.tmod 11 = p1 at *
                generalize hp2 : rl[k].rt.tmod 11 = p2 at *
                generalize rl[k].amp = oa at *
                generalize rl[k].ph = op at *
                generalize rl[k].rt = or' at *
                go_upto_region 31 with fail
                obtain ⟨wq, hq⟩ : ∃ wq : World, wq = wr.alloc (Obj.cells #[.int .i64 p0, .int .i64 p1, .int .i64 p2] 63) := ⟨_, rfl⟩
                have q0 : wq.cell? ⟨wr.heap.size, 0, none⟩ = some (.int .i64 p0) := by rw [hq]; go_simp
                have q1 : wq.cell? ⟨wr.heap.size, 1, none⟩ = some (.int .i64 p1) := by rw [hq]; go_simp
                have q2 : wq.cell? ⟨wr.heap.size, 2, none⟩ = some (.int .i64 p2) := by rw [hq]; go_simp
                have HTQ : Hid (TabOwn wq wd.heap.size (lsT tRow rl k) u21 xs u22) := Lib.hid (by rw [hq]; exact HTB.out.kept (fun g hg => Below.heap_alloc _ _ _ hg))
                have HUQ : Hid (wq.ownsRow wd.heap.size 3 1 u22 (lsT (tHt y) rl k).length (intL (lsT (tHt y) rl k))) := Lib.hid (by rw [hq]; exact HOW.out.alloc _)
                have HBQ : Hid (Below wd.heap.size wd wq) := Lib.hid (by rw [hq]; exact hbel.alloc (by omega) _)
                have hzq : wr.heap.size < wq.heap.size := by rw [hq]; simp
                have HNB : Hid (u21.ownBlock ≠ some wr.heap.size) := Lib.hid (fun e => absurd (HTB.out.own.lt wr.heap.size e).2 (Nat.lt_irrefl _))
                rw [← hq]
                clear HTB HOW hq hp0 hp1 hp2 c0 c1 c2 hix
                go_upto_region 32 with (at_builtin; refine wpList_append_own _ rfl (.tmp 138) (.tmp 146) 70 rfl wd.heap.size 71 j0 (.slice none 0 0) 1 24 Tryd.underlying70 hj0 jz0 jz1 jz2 rfl (by decide) _ (lsT tRow rl k).length _ rfl ((HTQ.out.own.alloc _).alloc _) ⟨wq.heap.size + 1, 0, none⟩ 1 1 [.slice (some ⟨wq.heap.size, 0, none⟩) 3 3] rfl rfl ?c1 ?c2 ?c3 ?c4 ?c5 ?_)
                case c1 =>
                  intro j u hj
                  match j, hj with
                  | 0, hj => simp at hj; subst hj; go_simp
                case c2 => intro u hu; simp at hu; subst hu; rfl
                case c3 => unfold maxLen; omega
                case c4 => omega
                case c5 => have := HBQ.out.size; simp; omega
                intro v6 w6 ho6 hg6 hnil
                have HT6 := Lib.hid (tab_next (r := [p0, p1, p2]) HTQ.out HUQ.out ho6 hg6)
                have HU6 := Lib.hid (own_other ((HUQ.out.alloc _).alloc _) ((HTQ.out.own.alloc _).alloc _) hg6)
                have hb6 : Below wd.heap.size wd w6 := by
                  refine Below.grown ((HBQ.out.alloc HBQ.out.size _).alloc (by have := HBQ.out.size; simp; omega) _) hg6 ?_ ?_
                  · have := HBQ.out.size; simp; omega
                  · intro g hg
                    exact (HTQ.out.own.lt g hg).1
                have hk6 : ∀ o, w6.cell? ⟨wr.heap.size, o, none⟩ = wq.cell? ⟨wr.heap.size, o, none⟩ := fun o => (World.cell?_of_block (a := ⟨wr.heap.size, o, none⟩) (hg6.block wr.heap.size (by simp; omega) (fun e => HNB.out e.symm))).trans (by go_simp)
                have d0 := (hk6 0).trans q0
                have d1 := (hk6 1).trans q1
                have d2 := (hk6 2).trans q2
                obtain ⟨y0, y1, y2⟩ := HY.out w6 (HB4.out.trans (hb6.mono hzd2))
                have hz6 := hb6.size
                clear hk6 ho6 hg6 hnil HTQ HUQ HBQ HNB q0 q1 q2
                have v1 : IntKind.i64.wrap (p0 * y.amp.tmod 30) = p0 * y.amp.tmod 30 := IntWalk.i64_in _ (by omega)
                have v2 : IntKind.i64.wrap (p1 * y.ph.tmod 30) = p1 * y.ph.tmod 30 := IntWalk.i64_in _ (by omega)
                have v3 : IntKind.i64.wrap (p2 * y.rt.tmod 30) = p2 * y.rt.tmod 30 := IntWalk.i64_in _ (by omega)
                have v4 : IntKind.i64.wrap (p0 * y.amp.tmod 30 + p1 * y.ph.tmod 30) = p0 * y.amp.tmod 30 + p1 * y.ph.tmod 30 := IntWalk.i64_in _ (by omega)
                have v5 : IntKind.i64.wrap (p0 * y.amp.tmod 30 + p1 * y.ph.tmod 30 + p2 * y.rt.tmod 30) = p0 * y.amp.tmod 30 + p1 * y.ph.tmod 30 + p2 * y.rt.tmod 30 := IntWalk.i64_in _ (by omega)
                go_upto_region 33 with (at_builtin; refine wpList_append_at rfl (.tmp 148) (.tmp 169) 71 rfl wd.heap.size 3 i1 (.int .i64 0) 1 8 Tryd.underlying71 hi1 iz0 iz1 iz2 rfl (by decide) _ (lsT (tHt y) rl k).length _ rfl (HU6.out.alloc _) ⟨w6.heap.size, 0, none⟩ 1 1 [.int .i64 (p0 * y.amp.tmod 30 + p1 * y.ph.tmod 30 + p2 * y.rt.tmod 30)] rfl rfl ?c1 ?c2 ?c3 ?c4 ?c5 (by omega) ?_)
                case c1 =>
                  intro j u hj
                  match j, hj with
                  | 0, hj => simp at hj; subst hj; go_simp
                case c2 => intro u hu; simp at hu; subst hu; rfl
                case c3 => unfold maxLen; omega
                case c4 => omega
                case c5 => simp; omega
                intro v7 w7 ho7 hg7 hl7
                have HT7 : Hid (TabOwn w7 wd.heap.size (lsT tRow rl (k + 1)) v6 (xs ++ [.slice (some ⟨wq.heap.size, 0, none⟩) 3 3]) v7) := Lib.hid (by
                  rw [HLN.out, HR1.out]
                  exact ht_next HT6.out HU6.out (fun g hg => Below.heap_alloc _ _ _ hg) (by simp) hg7 (hl7.imp id (fun h => h.trans (by simp))))
                have HU7 : Hid (w7.ownsRow wd.heap.size 3 1 v7 (lsT (tHt y) rl (k + 1)).length (intL (lsT (tHt y) rl (k + 1)))) := Lib.hid (by
                  rw [HLH.out, HR2.out, List.length_append]
                  have e : intL (lsT (tHt y) rl k ++ [p0 * y.amp.tmod 30 + p1 * y.ph.tmod 30 + p2 * y.rt.tmod 30]) = intL (lsT (tHt y) rl k) ++ [.int .i64 (p0 * y.amp.tmod 30 + p1 * y.ph.tmod 30 + p2 * y.rt.tmod 30)] := by simp [intL]
                  rw [e]
                  exact ho7)
                have hb7 : Below wd.heap.size wd w7 := by
                  refine Below.grown (hb6.alloc hz6 _) hg7 ?_ ?_
                  · simp; omega
                  · intro g hg
                    exact (HU6.out.lt g hg).1
                clear ho7 hg7 hl7 HT6 HU6 v1 v2 v3 v4 v5 e0 e1 e2 d0 d1 d2 y0 y1 y2
                go_wp2_with fail
                go_roundg (rl.length - (k + 1))
                case measure => omega
                case rel => exact ⟨k + 1, _, by omega, rfl, hb7, HT7.out, HU7.out⟩
              · have hk8 : decide ((k : Int) < 8) = false := decide_eq_false (by omega)
                have HL1 := Lib.hid (lsT_stay tRow rl k h8)
                have HL2 := Lib.hid (lsT_stay (tHt y) rl k h8)
                go_wp2_with fail
                go_roundg (rl.length - (k + 1))
                case measure => omega
                case rel => exact ⟨k + 1, xs, by omega, rfl, by exact belz, by rw [HL1.out]; exact HTB.out.kept (fun g hg => Below.heap_alloc _ _ _ hg), by rw [HL2.out]; exact HOW.out.alloc _⟩
            · obtain rfl : k = rl.length := by omega
              obtain ⟨at', ct, rfl, hct, hM⟩ := htab.mat
              obtain ⟨ah, ch, rfl, hch, hH⟩ := own_int hown
              have hbw : Below w.heap.size w wr := HBR.out
              obtain ⟨y0, y1, y2⟩ := HY.out wr HBR4.out
              have hzw2 : w.heap.size < wr.heap.size := Nat.lt_of_lt_of_le hz1' HBR4.out.size
              clear htab hown
              by_cases h0 : rl = []
              · have e1 : lsT tRow rl rl.length = [] := by rw [h0]; rfl
                have e2 : lsT (tHt y) rl rl.length = [] := by rw [h0]; rfl
                have HF := Lib.hid (c_Fit_err at' ah _ _ ct ch wr hM hH (by rw [e1, e2]; decide))
                have e8 : gErr (lsT tRow rl rl.length) (lsT (tHt y) rl rl.length) = 8 := by rw [e1, e2]; decide
                rw [e8] at HF
                have f1 : (((lsT tRow rl rl.length).length : Int) == 0) = true := by rw [e1]; rfl
                clear e1 e2 e8 hM hH h0
                generalize lsT tRow rl rl.length = LR at *
                generalize lsT (tHt y) rl rl.length = LH at *
                go_wp2_with (first | (go_at_call 31; (with_reducible refine (HF.out).mono ?_); rintro e w5 ⟨rfl, hb⟩; have hz := hb.size; (try simp only [szA, szS, szD, szN] at hz); (try (refine bcB (n := w.heap.size) hb ?_; intro h_w_0 e_w_0 d_w_0 _ _)); (try (refine bcB (n := wr.heap.size) hb ?_; intro h_wr_0 e_wr_0 d_wr_0 _ _))))
                go_ret
                refine ⟨rfl, ?_⟩
                exact belz
              · have hok := ttd_ok y rl h0
                obtain ⟨n, hG, hn⟩ := gok_of hok
                have hn3 : n = 3 := by
                  rw [← hn]
                  have hp : 0 < rl.length := List.length_pos_iff.2 h0
                  have hll := lsT_len tRow rl (Nat.le_refl rl.length)
                  have hlt0 : 0 < (lsT tRow rl rl.length).length := by omega
                  obtain ⟨hi', e⟩ := lsT_get tRow rl rl.length 0 hlt0
                  rw [List.getD_eq_getElem?_getD, List.getElem?_eq_getElem hlt0, Option.getD_some, e]
                  rfl
                subst hn3
                by_cases hD : fD (lsT tRow rl rl.length) 3 = 0
                · have HF := Lib.hid (c_Fit_zero at' ah _ _ 3 ct ch wr hM hH hok hG hD)
                  clear hM hH hok hG hD hn
                  generalize lsT tRow rl rl.length = LR at *
                  generalize lsT (tHt y) rl rl.length = LH at *
                  go_wp2_with (first | (go_at_call 31; (with_reducible refine (HF.out).mono ?_); rintro e w5 ⟨rfl, hb⟩; have hz := hb.size; (try simp only [szA, szS, szD, szN] at hz); (try (refine bcB (n := w.heap.size) hb ?_; intro h_w_0 e_w_0 d_w_0 _ _)); (try (refine bcB (n := wr.heap.size) hb ?_; intro h_wr_0 e_wr_0 d_wr_0 _ _))))
                  go_ret
                  refine ⟨rfl, ?_⟩
                  exact belz
                · have hf := c_Fit_ok at' ah _ _ 3 ct ch wr hM hH hok hG hD
                  obtain ⟨g0, g1, g2, g3⟩ := ttd_fit y rl hG hD
                  have HF : Hid (Calls Tryd.prog 31 #[.slice at' (lsT tRow rl rl.length).length ct, .slice ah (lsT (tHt y) rl rl.length).length ch] wr fun e w' => ∃ g c, e = .returned (.tuple #[.agg #[.slice (some ⟨g, 0, none⟩) 3 c, .int .i64 1], .int .i64 0]) ∧ 3 ≤ c ∧ wr.heap.size ≤ g ∧ g < w'.heap.size ∧ w'.cell? ⟨g, 0, none⟩ = some (.int .i64 (y.amp.tmod 30)) ∧ w'.cell? ⟨g, 1, none⟩ = some (.int .i64 (y.ph.tmod 30)) ∧ w'.cell? ⟨g, 2, none⟩ = some (.int .i64 (y.rt.tmod 30)) ∧ Below wr.heap.size wr w') := Lib.hid (hf.mono (fun e w' h => by
                    obtain ⟨g, c, rfl, hc, hg, hgl, hcl, hb⟩ := h
                    refine ⟨g, c, by rw [g0], hc, hg, hgl, ?_, ?_, ?_, hb⟩
                    · rw [hcl 0 (by omega), g1]
                    · rw [hcl 1 (by omega), g2]
                    · rw [hcl 2 (by omega), g3]))
                  clear hM hH hok hG hD hn hf g0 g1 g2 g3
                  generalize lsT tRow rl rl.length = LR at *
                  generalize lsT (tHt y) rl rl.length = LH at *
                  go_upto_region 37 with (first | (go_at_call 31; (with_reducible refine (HF.out).mono ?_); rintro e w5 ⟨g, c, rfl, hc, hg, hgl, x0, x1, x2, hb⟩; have hz := hb.size; (try simp only [szA, szS, szD, szN] at hz); (try (refine bcB (n := w.heap.size) hb ?_; intro h_w_0 e_w_0 d_w_0 _ _)); (try (refine bcB (n := wr.heap.size) hb ?_; intro h_wr_0 e_wr_0 d_wr_0 _ _))))
                  go_quiet (fail)
                  go_wp2_with fail
                  go_ret
                  refine ⟨rfl, ?_⟩
                  exact belz
theorem walk_TopTides' (a : Option Addr) (len cap : Nat) (l : List Tm) (t : Int) (ar : Option Addr) (lenr capr : Nat) (rl : List Tm) (y : Tm) (w : World) (hT : Tab w) (hl : l.length = len) (hc : len ≤ cap) (hcm : cap ≤ maxLen) (hs : TmSlice w a l) (hw : ∀ x ∈ l, TB x)
    (ht : B64 t) (hlr : rl.length = lenr) (hcr : lenr ≤ capr) (hrm : capr ≤ maxLen) (hr : TmSlice w ar rl) (hwr : ∀ x ∈ rl, TB x) (hy : TB y) :
    Calls Tryd.prog 7 #[.slice a len cap, .int .i64 t, .slice ar lenr capr, .agg #[.int .i64 y.amp, .int .i64 y.ph, .int .i64 y.rt]] w fun e w' => e = .returned (.bool true) ∧ Below w.heap.size w w' := by
  subst hl hlr
  exact walk_TopTides a cap l t ar capr rl y w hT hc hcm hs hw ht.1 ht.2 hcr hrm hr hwr hy
end Go.Proofs.YtcgnhnmigmdalaaDoor
