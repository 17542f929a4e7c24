/- The law SpreadPlays where New makes a net. -/
import Derived.Test.YtbcehnhiedbbbaaDoorSpG
import Derived.Test.YtbcehnhiedbbbaaDoorSpE
import Derived.Deep.OwnRows
import Derived.Deep.DeepCutAuto
import Derived.BigQuiet
set_option linter.unusedVariables false
set_option linter.unusedSimpArgs false
namespace Go.Proofs.YtbcehnhiedbbbaaDoor
open Go.RowKit
def zC32 : Array Value := (c8 fun _ => zNt).toArray
theorem info_h8 : (Tryd.prog.info? 49).map (fun i => (i.zero, i.size, i.bytes)) = some (some (.agg zC32), 32, 320) := by kernel_rfl
theorem make_h8 (n : Nat) (hn : n ≤ 12) (w : World) : (Instr.makeSlice 46 (.int .i64 (n : Int)) (.int .i64 (n : Int))).run Tryd.prog w = .ok (.slice (some ⟨w.heap.size, 0, none⟩) n n) (w.alloc (.cells (madeCells zC32 (n * 32)) 49)) := by
  obtain ⟨i, hi, hzz⟩ := Option.map_eq_some_iff.1 info_h8
  simp only [Prod.mk.injEq] at hzz
  obtain ⟨hz, hs, hb⟩ := hzz
  have h := run_makeSlice (P := Tryd.prog) (w := w) 46 49 i _ Tryd.underlying46 hi hz .i64 .i64 n n (by omega) (by omega) (by rw [hs]; simp; omega) (by rw [hb]; omega) (by omega)
  rw [h, hs]
  simp [Value.cells]
theorem zC32_at : ∀ r, r < 32 → zC32[r]? = (ntC zNt)[r % 4]? := by
  intro r hr
  have h1 := ntCells_at (r8 fun _ => zNt) (r / 4) (by show r / 4 < 8; omega) (r % 4) (by omega)
  rw [show r / 4 * 4 + r % 4 = r by omega] at h1
  have h2 : (r8 fun _ => zNt)[r / 4]'(by show r / 4 < 8; omega) = zNt := by
    have h3 := r8_at (fun _ => zNt) (r / 4) (by omega)
    rw [List.getElem?_eq_getElem (by show r / 4 < 8; omega)] at h3
    exact Option.some.inj h3
  rw [h2] at h1
  unfold zC32 c8
  rw [List.getElem?_toArray]
  exact h1
theorem zC32_size : zC32.size = 32 := by unfold zC32; rw [List.size_toArray, c8_len]
theorem made_h8 (n : Nat) : (madeCells zC32 (n * 32)).toList = ntCells (flatH n fun _ _ => zNt) := by
  apply List.ext_getElem?
  intro j
  by_cases hj : j < n * 32
  · have hl : j / 4 < (flatH n fun _ _ => zNt).length := by rw [flatH_len]; omega
    have h1 := ntCells_at (flatH n fun _ _ => zNt) (j / 4) hl (j % 4) (by omega)
    rw [show j / 4 * 4 + j % 4 = j by omega] at h1
    have h2 : (flatH n fun _ _ => zNt)[j / 4] = zNt := by
      have h3 := flatH_at n (fun _ _ => zNt) (j / 4 / 8) (j / 4 % 8) (by omega) (Nat.mod_lt _ (by decide))
      rw [show j / 4 / 8 * 8 + j / 4 % 8 = j / 4 by omega, List.getElem?_eq_getElem hl] at h3
      exact Option.some.inj h3
    rw [h1, h2]
    have h4 := zC32_at (j % 32) (Nat.mod_lt _ (by decide))
    rw [show j % 32 % 4 = j % 4 by omega] at h4
    rw [← h4]
    have h5 : j % 32 < zC32.size := by rw [zC32_size]; exact Nat.mod_lt _ (by decide)
    simp [madeCells, hj, zC32_size]
    rw [Array.getElem?_eq_getElem h5]
    simp [h5]
  · rw [List.getElem?_eq_none (by rw [Array.length_toList, size_madeCells]; omega), List.getElem?_eq_none (by rw [ntCells_len, flatH_len]; omega)]
theorem made_HdAt (w : World) (B n : Nat) (hB : B ≤ w.heap.size) (h : n ≤ 12) : HdAt (w.alloc (.cells (madeCells zC32 (n * 32)) 49)) B w.heap.size n n (fun _ _ => zNt) := by
  have := World.ownsRow_lit (e := 49) (size := 32) w (madeCells zC32 (n * 32)) n hB (by unfold maxLen; omega) (size_madeCells _ _)
  rw [made_h8 n] at this
  exact this
theorem ix_H8 {b n cap k : Nat} (hk : k < n) : ∀ w, (Instr.indexAt 46 (.slice (some ⟨b, 0, none⟩) n cap) (.int .i64 (k : Int))).run Tryd.prog w = .ok (.pointer (some ⟨b, k * 32, none⟩)) w := by
  intro w
  have h1 : (k : Int) < (n : Int) := by omega
  go_simp
set_option maxRecDepth 100000 in
set_option maxHeartbeats 8000000 in
theorem walk_SpreadGood (ka ea aa la : Option Addr) (kc ec ac lc : Nat) (K : List Int) (E : List Ed) (A : List Int) (L : List Nt) (nd : Nat) (w : World) (hT : NTab w) (hs : IntSlice w ka K) (hes : EdSlice w ea E) (has : IntSlice w aa A) (hls : NtSlice w la L) (hal : A.length ≤ maxLen) (hll : L.length ≤ maxLen) (hwf : ∀ y ∈ L, y.tx.size ≤ maxLen)
    (h8 : K.length ≤ 8) (h1 : 1 ≤ nd) (h12 : nd ≤ 12) (h40 : E.length ≤ 40) (hk : K.any badK = false) (hE : ∀ x ∈ E, edOk nd x) :
    Calls Tryd.prog 6 #[.slice ka K.length kc, .int .i64 (nd : Int), .slice ea E.length ec, .slice aa A.length ac, .slice la L.length lc] w fun e w' => e = .returned (.bool true) ∧ Below w.heap.size w w' := by
  have HNw := Lib.hid (fun w1 h1' h2' => c_New_good ka ea kc ec K E nd w1 h1' h2' h8 h1 h12 h40 hk hE)
  have HS := Lib.hid hs
  have HE := Lib.hid hes
  have HA := Lib.hid has
  have HL := Lib.hid hls
  have HT := Lib.hid hT
  have HEk := Lib.hid hE
  have HWf := Lib.hid hwf
  have HKb := Lib.hid (show ∀ (k : Nat) (h : k < K.length), ¬ K[k] < 1 ∧ ¬ 1000000000 < K[k] from fun k h => by
    have := List.any_eq_false.1 hk _ (List.getElem_mem h)
    unfold badK at this
    simp at this
    omega)
  clear hs hes has hls hT hE hwf hk
  have d1 := decide_eq_false (show ¬ (8 : Int) < (K.length : Int) by omega)
  have d2 := decide_eq_false (show ¬ (12 : Int) < (nd : Int) by omega)
  have d3 := decide_eq_false (show ¬ (40 : Int) < (E.length : Int) by omega)
  have d4 := decide_eq_false (show ¬ (nd : Int) < 1 by omega)
  have hgen := sgen; have hgen2 := sgen2; have hgen3 := sgen3; go_enter Tryd.func6, Tryd.ntmps6
  go_upto_region 3 with (go_at_call 20; (with_reducible refine (c_spreadWorks _ (HT.out.below (by exact belz))).mono ?_); rintro e w1 ⟨rfl, hb⟩; have hz := hb.size; (try simp only [szA, szS, szD, szN] at hz); (try (refine bcB (n := w.heap.size) hb ?_; intro h_w_0 e_w_0 d_w_0 _ _)))
  have HB1 := Lib.hid (show Below w.heap.size w w1 by exact belz)
  go_upto_region 4 with (go_at_call 21; (with_reducible refine (HNw.out _ (HS.out.below (Nat.le_refl _) HB1.out) (HE.out.below (Nat.le_refl _) HB1.out)).mono ?_); rintro e w2 ⟨nb, vk, vn, vh, rb, rfl, hN2, hnb, hb⟩; have hz := hb.size; (try simp only [szA, szS, szD, szN] at hz); (try (refine bcB (n := w.heap.size) hb ?_; intro h_w_0 e_w_0 d_w_0 _ _)); (try (refine bcB (n := w1.heap.size) hb ?_; intro h_w1_0 e_w1_0 d_w1_0 _ _)))
  have hB2 : Below w.heap.size w w2 := by exact belz
  have HB2 := Lib.hid hB2
  have hz2 := hB2.size
  have hz1 := HB1.out.size
  have hzn := hb.size
  have HN2 := Lib.hid hN2
  clear hb hB2 HNw hN2
  go_wp2_with fail
  clear d1 d2 d3 d4
  go_loopg [13, 62] K.length (fun gk x13 x62 wr => ∃ k : Nat, gk + k = K.length ∧ x62 = .int .i64 k ∧ x13 = .int .i64 0 ∧ w2 = wr)
  case atStart => exact ⟨0, by omega, rfl, rfl, rfl⟩
  case round =>
    as_aux_lemma =>
      obtain ⟨k, hk, rfl, rfl, rfl⟩ := hrel
      by_cases hlt : k < K.length
      · obtain ⟨bb, off, hka, hbb, hbc⟩ := HS.out k hlt
        have ixk := @ix_Int ka bb off K.length kc k hka hlt
        have c1 := (HB2.out.cell (p := ⟨bb, off + k, none⟩) hbb).trans hbc
        clear hka
        have hq := HKb.out k hlt
        generalize K[k] = q at *
        have d1 := decide_eq_false (show ¬ q < 1 by omega)
        have d2 := decide_eq_false (show ¬ 1000000000 < q by omega)
        clear hq hbc
        go_wp2_with fail
        go_roundg (K.length - (k + 1))
        case measure => omega
        case rel => exact ⟨k + 1, by omega, by go_num, rfl, rfl⟩
      · obtain rfl : k = K.length := by omega
        go_wp2_with fail
        go_loopg [13, 79] E.length (fun gk x13 x79 wr => ∃ j : Nat, gk + j = E.length ∧ x79 = .int .i64 j ∧ x13 = .int .i64 0 ∧ Below w2.heap.size w2 wr)
        case atStart => exact ⟨0, by omega, rfl, rfl, Below.refl _ _⟩
        case round =>
          as_aux_lemma =>
            obtain ⟨j, hj, rfl, rfl, hbe⟩ := hrel
            by_cases hlt2 : j < E.length
            · obtain ⟨bb, off, hea, hbb, y0, y1⟩ := HE.out j hlt2
              have ixe := @ix_Ed ea bb off E.length ec j hea hlt2
              have hbe2 := HB2.out.trans (hbe.mono hz2)
              have c1 := (hbe2.cell (p := ⟨bb, off + j * 2, none⟩) hbb).trans y0
              have c2 := (hbe2.cell (p := ⟨bb, off + j * 2 + 1, none⟩) hbb).trans y1
              have hze := hbe.size
              have hlb : bb < wr.heap.size := by omega
              clear hea y0 y1 hbe2
              have hok := badE_ok.2 (HEk.out E[j] (List.getElem_mem hlt2))
              generalize E[j] = q at *
              obtain ⟨p, q⟩ := q
              unfold badE at hok
              dsimp only at c1 c2 hok
              have hm1 := run_min2 p q
              have hm2 := run_max2i p q
              generalize min p q = mn at *
              generalize max p q = mx at *
              obtain ⟨g1, g2⟩ := Bool.or_eq_false_iff.1 hok
              clear hok
              go_wp2_with fail
              go_roundg (E.length - (j + 1))
              case measure => omega
              case rel => exact ⟨j + 1, by omega, by go_num, rfl, by exact belz⟩
            · obtain rfl : j = E.length := by omega
              have hmk := make_h8 nd h12
              obtain ⟨wo, rfl⟩ : ∃ wo : World, wo = wr := ⟨_, rfl⟩
              go_upto_region 24 with fail
              have hze := hbe.size
              have hBw := HB2.out.trans (hbe.mono hz2)
              have HP0 := Lib.hid (show PlAt w (wo.alloc (.cells (madeCells zC32 (nd * 32)) 49)) w1.heap.size nb vk vn vh K E nd (List.replicate nd (List.replicate K.length zNt)) rb wo.heap.size nd (fun _ _ => zNt) from
                ⟨(HN2.out.below hbe).below ((Below.refl _ _).alloc (Nat.le_refl _) _), made_HdAt wo w.heap.size nd hBw.size h12, agr_start _ _, hBw.alloc hBw.size _, hz1, hnb, by simp only [World.size_alloc]; omega⟩)
              clear hmk hbe HN2 hBw
              generalize (wo.alloc (.cells (madeCells zC32 (nd * 32)) 49)) = W0 at *
              generalize hhb0 : wo.heap.size = hb0 at *
              clear HB1 HB2 hze hhb0 hz1 hz2 hzn hnb
              generalize w1.heap.size = Bn at *
              go_upto_block 5 with fail
              go_cut [18] (fun x18 wc => ∃ (vh : Value) (rows : List (List Nt)) (rb : List (Nat × Nat)) (qb hc : Nat) (G : Nat → Nat → Nt), x18 = .slice (some ⟨qb, 0, none⟩) nd hc ∧ PlAt w wc Bn nb vk vn vh K E nd rows rb qb hc G)
              case first =>
                as_aux_lemma =>
                  go_step
                  go_loopg [18, 124] L.length (fun gk x18 x124 wr => ∃ (i : Nat) (vh : Value) (rows : List (List Nt)) (rb : List (Nat × Nat)) (qb hc : Nat) (G : Nat → Nat → Nt), gk + i = L.length ∧ x124 = .int .i64 i ∧ x18 = .slice (some ⟨qb, 0, none⟩) nd hc ∧ PlAt w wr Bn nb vk vn vh K E nd rows rb qb hc G)
                  case atStart => exact ⟨0, vh, _, rb, hb0, nd, _, by omega, rfl, rfl, HP0.out⟩
                  case round =>
                    as_aux_lemma =>
                      obtain ⟨i, vh, rows, rb, qb, hc, G, hi, rfl, rfl, hpl⟩ := hrel
                      have HP := Lib.hid hpl
                      have hbel := hpl.below
                      have hzw := hbel.size
                      clear hpl HP0
                      by_cases hlt3 : i < L.length
                      · obtain ⟨bb, off, hla, hbb, y0, y1, y2, y3⟩ := HL.out i hlt3
                        have ixl := @ix_Nt la bb off L.length lc i hla hlt3
                        have c0 := (hbel.cell (p := ⟨bb, off + i * 4, none⟩) hbb).trans y0
                        have c1 := (hbel.cell (p := ⟨bb, off + i * 4 + 1, none⟩) hbb).trans y1
                        have c2 := (hbel.cell (p := ⟨bb, off + i * 4 + 2, none⟩) hbb).trans y2
                        have c3 := (hbel.cell (p := ⟨bb, off + i * 4 + 3, none⟩) hbb).trans y3
                        have hsz := HWf.out L[i] (List.getElem_mem hlt3)
                        have hlb : bb < wr.heap.size := by omega
                        clear hla y0 y1 y2 y3
                        generalize L[i] = t at *
                        obtain ⟨t0, t1, t2, t3⟩ := t
                        dsimp only at c0 c1 c2 c3 hsz
                        by_cases hal2 : i < A.length
                        · have da := decide_eq_false (show ¬ (A.length : Int) ≤ (i : Int) by omega)
                          obtain ⟨ab, ao, haa, hab, yc⟩ := HA.out i hal2
                          have ixa := @ix_Int aa ab ao A.length ac i haa hal2
                          have ca := (hbel.cell (p := ⟨ab, ao + i, none⟩) hab).trans yc
                          have hlab : ab < wr.heap.size := by omega
                          clear haa yc
                          generalize A[i] = at_ at *
                          by_cases hneg : at_ < 0
                          · as_aux_lemma =>
                              have dn := decide_eq_true hneg
                              go_upto_region 29 with fail
                              obtain ⟨W1, hW1⟩ : ∃ W1, W1 = wr.alloc (.cells #[.int .i64 t0, .int .i64 t1, .string t2, .int .i64 t3] 23) := ⟨_, rfl⟩
                              rw [← hW1]
                              have hB1 : Below wr.heap.size wr W1 := by rw [hW1]; exact (Below.refl _ wr).alloc (Nat.le_refl _) _
                              have HP1 := Lib.hid (HP.out.kept hB1)
                              have hbe1 : Below w.heap.size w W1 := hbel.trans (hB1.mono hzw)
                              clear hW1 hB1 hbel c0 c1 c2 c3 ca HP hlb hlab ixa ixl da dn
                              obtain ⟨i0, hi0, iz0, iz1, iz2⟩ := info_parts info_h8
                              have HH1 := Lib.hid HP1.out.held
                              go_upto_region 30 with (at_builtin; refine wpList_append_own _ rfl (.tmp 138) (.tmp 139) 46 rfl W1.heap.size 49 i0 (.agg zC32) 32 320 Tryd.underlying46 hi0 iz0 iz1 iz2 zC32_size (by decide) _ _ _ rfl (World.ownsRow_made W1 #[] 0 (Nat.le_refl _) (Nat.zero_le _) rfl) ⟨qb, 0, none⟩ nd hc (ntCells (flatH nd G)) rfl ?qc1 ?qc2 ?qc3 ?qc4 ?qc5 ?qc6 ?_)
                              case qc1 => rw [ntCells_len, flatH_len]; omega
                              case qc2 => exact fun j u hj => ((HH1.out.alloc _).cells rfl) j u hj
                              case qc3 => exact ntCells_one _
                              case qc4 => unfold maxLen; omega
                              case qc5 => omega
                              case qc6 => simp
                              intro v' W2 hown hgrow hnil
                              have hown2 : W2.ownsRow W1.heap.size 49 32 v' nd (ntCells (flatH nd G)) := by simpa using hown
                              have hb2 : Below W1.heap.size W1 W2 := ((Below.refl _ W1).alloc (Nat.le_refl _) _).grown hgrow (by simp) (by intro k hk; simp [Value.ownBlock] at hk; omega)
                              obtain ⟨gb, cap, rfl, hg0, hg1⟩ : ∃ gb cap, v' = .slice (some ⟨gb, 0, none⟩) nd cap ∧ W1.heap.size ≤ gb ∧ gb < W2.heap.size := by
                                rcases own_form hown2 with ⟨-, h0⟩ | ⟨g, cap, e, _, _, q1, q2, _⟩
                                · omega
                                · exact ⟨g, cap, e, q1, q2⟩
                              have HH2 := Lib.hid (show HdAt W2 W1.heap.size gb cap nd G from hown2)
                              have HB2 := Lib.hid hb2
                              have hzb2 := hb2.size
                              have hz1w := hbe1.size
                              have hqb1 := HH1.out.lt.2
                              clear hown hgrow hnil hown2 hb2 hi0 iz0 iz1 iz2
                              go_wp2_with fail
                              go_loopg [22, 143] nd (fun gk x22 x143 wr => ∃ k : Nat, gk + k = nd ∧ x143 = .int .i64 k ∧ x22 = .int .i64 (chgL G (stG E G) k) ∧ HdAt wr W1.heap.size gb cap nd (curG E G k) ∧ Below W1.heap.size W1 wr)
                              case atStart => exact ⟨0, by omega, rfl, rfl, by rw [cur_zero]; exact HH2.out, HB2.out⟩
                              case round =>
                                as_aux_lemma =>
                                  obtain ⟨k, hk, rfl, rfl, hhd, hb4⟩ := hrel
                                  have HH4 := Lib.hid hhd
                                  have HB4 := Lib.hid hb4
                                  have hz4 := hb4.size
                                  clear hhd hb4
                                  by_cases hkn : k < nd
                                  · obtain ⟨w4, rfl⟩ : ∃ w4 : World, w4 = wr := ⟨_, rfl⟩
                                    go_wp2_with fail
                                    go_loopg [148] E.length (fun gk x148 wr => ∃ j : Nat, gk + j = E.length ∧ x148 = .int .i64 j ∧ HdAt wr W1.heap.size gb cap nd (nextG E G k (rowJ E G k j)) ∧ Below W1.heap.size W1 wr)
                                    case atStart => exact ⟨0, by omega, rfl, HH4.out.congr (fun i b _ _ => by rw [next_zero]), HB4.out⟩
                                    case round =>
                                      as_aux_lemma =>
                                        obtain ⟨j, hj, rfl, hhd5, hb5⟩ := hrel
                                        have HH5 := Lib.hid hhd5
                                        have HB5 := Lib.hid hb5
                                        have hz5 := hb5.size
                                        clear hhd5
                                        by_cases hjn : j < E.length
                                        · obtain ⟨bb, off, hea, hbb, y0, y1⟩ := HE.out j hjn
                                          have ixe := @ix_Ed ea bb off E.length ec j hea hjn
                                          have hbw5 := hbe1.trans (hb5.mono hz1w)
                                          have c0 := (hbw5.cell (p := ⟨bb, off + j * 2, none⟩) hbb).trans y0
                                          have c1 := (hbw5.cell (p := ⟨bb, off + j * 2 + 1, none⟩) hbb).trans y1
                                          have hlb : bb < wr.heap.size := by omega
                                          have hok := HEk.out E[j] (List.getElem_mem hjn)
                                          have hrs : ∀ p q : Int, E[j] = ⟨p, q⟩ → rowJ E G k (j + 1) = rowS G k (rowJ E G k j) p q 2 := fun p q he => row_succ j hjn p q he
                                          generalize E[j] = x at *
                                          obtain ⟨p, q⟩ := x
                                          obtain ⟨⟨p0, p1⟩, q0, q1⟩ := hok
                                          dsimp only at p0 p1 q0 q1 c0 c1
                                          have HRs := Lib.hid (hrs p q rfl)
                                          clear hea y0 y1 hbw5 hrs hb5
                                          generalize hrj : rowJ E G k j = r at *
                                          have HRj := Lib.hid hrj
                                          clear hrj
                                          obtain ⟨w5, rfl⟩ : ∃ w5 : World, w5 = wr := ⟨_, rfl⟩
                                          go_wp2_with fail
                                          go_loopg [163] 2 (fun gk x163 wr => ∃ kk : Int, gk + kk.toNat = 2 ∧ 0 ≤ kk ∧ x163 = .int .i64 kk ∧ HdAt wr W1.heap.size gb cap nd (nextG E G k (rowS G k r p q kk)) ∧ Below W1.heap.size W1 wr)
                                          case atStart =>
                                            refine ⟨0, by omega, by omega, rfl, ?_, ?_⟩
                                            · rw [rowS_zero]
                                              exact HH5.out.kept (by exact belz)
                                            · exact HB5.out.trans ((show Below w5.heap.size w5 _ from (by exact belz)).mono hz5)
                                          case round =>
                                            as_aux_lemma =>
                                              obtain ⟨kk, hkk, hk0, rfl, hhd6, hb6⟩ := hrel
                                              have HH6 := Lib.hid hhd6
                                              have HB6 := Lib.hid hb6
                                              have hz6 := hb6.size
                                              clear hhd6 hb6
                                              by_cases hk2 : kk < 2
                                              · obtain ⟨src, dst, hix, hhalf, s0, s1, e0, e1⟩ : ∃ src dst : Int, (∀ w, (Instr.index 47 (.agg #[.int .i64 p, .int .i64 q, .int .i64 q, .int .i64 p]) (.int .i64 kk)).run Tryd.prog w = .ok (.agg #[.int .i64 src, .int .i64 dst]) w) ∧ half G k (rowS G k r p q kk) src dst = rowS G k r p q (kk + 1) ∧ 0 ≤ src ∧ src < (nd : Int) ∧ 0 ≤ dst ∧ dst < (nd : Int) := by
                                                  rcases (show kk = 0 ∨ kk = 1 by omega) with rfl | rfl
                                                  · exact ⟨p, q, fun w => by kernel_rfl, rowS_one r p q, p0, p1, q0, q1⟩
                                                  · exact ⟨q, p, fun w => by kernel_rfl, rowS_two r p q, q0, q1, p0, p1⟩
                                                have hkw : IntKind.i64.wrap (kk + 1) = kk + 1 := IntWalk.i64_in _ (by omega)
                                                have HHf := Lib.hid hhalf
                                                clear hhalf
                                                generalize hrs0 : rowS G k r p q kk = rs at *
                                                have HRs0 := Lib.hid hrs0
                                                clear hrs0
                                                obtain ⟨w6, rfl⟩ : ∃ w6 : World, w6 = wr := ⟨_, rfl⟩
                                                have hgb6 := HH6.out.lt.2
                                                go_wp2_with fail
                                                go_loopg [166] 8 (fun gk x166 wr => ∃ a : Nat, gk + a = 8 ∧ x166 = .int .i64 a ∧ HdAt wr W1.heap.size gb cap nd (nextG E G k (mixR rs (half G k rs src dst) a)) ∧ Below W1.heap.size W1 wr ∧ wr.cell? ⟨w6.heap.size, 0, none⟩ = some (.int .i64 src) ∧ wr.cell? ⟨w6.heap.size, 1, none⟩ = some (.int .i64 dst) ∧ w6.heap.size < wr.heap.size)
                                                case atStart =>
                                                  refine ⟨0, by omega, rfl, ?_, ?_, by go_simp, by go_simp, by simp⟩
                                                  · rw [mix_zero]
                                                    exact HH6.out.kept (by exact belz)
                                                  · exact HB6.out.trans ((show Below w6.heap.size w6 _ from (by exact belz)).mono hz6)
                                                case round =>
                                                  as_aux_lemma =>
                                                    obtain ⟨a, ha, rfl, hhd7, hb7, t0', t1', hs7⟩ := hrel
                                                    have hz7 := hb7.size
                                                    have HH7 := Lib.hid hhd7
                                                    have HB7 := Lib.hid hb7
                                                    by_cases ha8 : a < 8
                                                    · have ha8i : (a : Int) < 8 := by omega
                                                      obtain ⟨sn, rfl⟩ : ∃ sn : Nat, src = (sn : Int) := ⟨src.toNat, by omega⟩
                                                      have hsn : sn < nd := by omega
                                                      by_cases hd : dst = (k : Int)
                                                      · have hd2 : (dst == (k : Int)) = true := by simpa using hd
                                                        have ixq := @ix_H8 qb nd hc sn hsn
                                                        have ixg := @ix_H8 gb nd cap k hkn
                                                        obtain ⟨f0, f1, f2, f3⟩ := (HH1.out.kept hb7).cells sn a hsn ha8
                                                        obtain ⟨g0, g1, g2, g3⟩ := hhd7.cells k a hkn ha8
                                                        rw [mix_at] at g0 g1 g2 g3
                                                        have hyes := mix_yes (E := E) (G := G) (k := k) rs (sn : Int) dst a hd
                                                        have hno := mix_no (E := E) (G := G) (k := k) rs (sn : Int) dst a
                                                        rw [Int.toNat_natCast] at hyes hno
                                                        clear hd
                                                        generalize hsv : G sn a = sv at *
                                                        generalize hrv : rs a = rv at *
                                                        have HSv := Lib.hid hsv
                                                        have HRv := Lib.hid hrv
                                                        have HYes := Lib.hid hyes
                                                        have HNo := Lib.hid hno
                                                        obtain ⟨v0, v1, v2, v3⟩ := sv
                                                        obtain ⟨r0, r1, r2, r3⟩ := rv
                                                        dsimp only at f0 f1 f2 f3 g0 g1 g2 g3
                                                        have hq7 : qb < wr.heap.size := by omega
                                                        have hg7 : gb < wr.heap.size := by have := hhd7.lt.2; omega
                                                        have HFz := Lib.hid (fun j => hhd7.frozen j)
                                                        have hlt2 := fun w1 => c_later v0 v1 v2 v3 r0 r1 r2 r3 w1
                                                        clear hhd7 hb7 hsv hrv hyes hno
                                                        cases hnw : nwF v1 v2 r1 r2 with
                                                        | false =>
                                                          rw [hnw] at hlt2
                                                          have HLt := Lib.hid hlt2
                                                          have HNw := Lib.hid hnw
                                                          clear hlt2 hnw
                                                          go_upto_region 43 with fail
                                                          go_region_held3 (fun w' => w'.cell? ⟨w6.heap.size, 0, none⟩ = some (.int .i64 (sn : Int)) ∧ w'.cell? ⟨w6.heap.size, 1, none⟩ = some (.int .i64 dst) ∧ w'.cell? ⟨qb, sn * 32 + a * 4, none⟩ = some (.int .i64 v0) ∧ w'.cell? ⟨qb, sn * 32 + a * 4 + 1, none⟩ = some (.int .i64 v1) ∧ w'.cell? ⟨qb, sn * 32 + a * 4 + 2, none⟩ = some (.string v2) ∧ w'.cell? ⟨qb, sn * 32 + a * 4 + 3, none⟩ = some (.int .i64 v3) ∧ w'.cell? ⟨gb, k * 32 + a * 4, none⟩ = some (.int .i64 r0) ∧ w'.cell? ⟨gb, k * 32 + a * 4 + 1, none⟩ = some (.int .i64 r1) ∧ w'.cell? ⟨gb, k * 32 + a * 4 + 2, none⟩ = some (.string r2) ∧ w'.cell? ⟨gb, k * 32 + a * 4 + 3, none⟩ = some (.int .i64 r3)) (refine ⟨?_, ?_, ?_, ?_, ?_, ?_, ?_, ?_, ?_, ?_⟩ <;> (first | assumption | (go_simp; done) | (rw [hb.cell (by first | (simp; done) | (simp; omega) | (show w6.heap.size < _; omega) | (show qb < _; omega) | (show gb < _; omega))]; first | assumption | (go_simp; done)) | go_keep)) ((go_at_call 22; (with_reducible refine (HLt.out _).mono ?_); rintro e w7 ⟨rfl, hb⟩; have hz := hb.size; (try simp only [szA, szS, szD, szN] at hz); (try (refine bcB (n := wr.heap.size) hb ?_; intro h_wr_0 e_wr_0 d_wr_0 _ _))))
                                                          have hb8 : Below wr.heap.size wr w7 := by exact belz
                                                          have x0 := (hb8.cell (p := ⟨w6.heap.size, 0, none⟩) hs7).trans t0'
                                                          have x1 := (hb8.cell (p := ⟨w6.heap.size, 1, none⟩) hs7).trans t1'
                                                          have HB8 := Lib.hid hb8
                                                          have hz8 := hb8.size
                                                          clear hb hb8
                                                          go_wp2_with fail
                                                          go_roundg (8 - (a + 1))
                                                          case measure => omega
                                                          case rel => exact ⟨a + 1, by omega, by go_num, (HH7.out.kept HB8.out).congr (fun i b _ _ => HNo.out (fun _ => HNw.out) i b), HB7.out.trans (HB8.out.mono hz7), x0, x1, by omega⟩
                                                        | true =>
                                                          rw [hnw] at hlt2
                                                          have HLt := Lib.hid hlt2
                                                          have HNw := Lib.hid hnw
                                                          clear hlt2 hnw
                                                          go_upto_region 43 with fail
                                                          go_region_held3 (fun w' => w'.cell? ⟨w6.heap.size, 0, none⟩ = some (.int .i64 (sn : Int)) ∧ w'.cell? ⟨w6.heap.size, 1, none⟩ = some (.int .i64 dst) ∧ w'.cell? ⟨qb, sn * 32 + a * 4, none⟩ = some (.int .i64 v0) ∧ w'.cell? ⟨qb, sn * 32 + a * 4 + 1, none⟩ = some (.int .i64 v1) ∧ w'.cell? ⟨qb, sn * 32 + a * 4 + 2, none⟩ = some (.string v2) ∧ w'.cell? ⟨qb, sn * 32 + a * 4 + 3, none⟩ = some (.int .i64 v3) ∧ w'.cell? ⟨gb, k * 32 + a * 4, none⟩ = some (.int .i64 r0) ∧ w'.cell? ⟨gb, k * 32 + a * 4 + 1, none⟩ = some (.int .i64 r1) ∧ w'.cell? ⟨gb, k * 32 + a * 4 + 2, none⟩ = some (.string r2) ∧ w'.cell? ⟨gb, k * 32 + a * 4 + 3, none⟩ = some (.int .i64 r3)) (refine ⟨?_, ?_, ?_, ?_, ?_, ?_, ?_, ?_, ?_, ?_⟩ <;> (first | assumption | (go_simp; done) | (rw [hb.cell (by first | (simp; done) | (simp; omega) | (show w6.heap.size < _; omega) | (show qb < _; omega) | (show gb < _; omega))]; first | assumption | (go_simp; done)) | go_keep)) ((go_at_call 22; (with_reducible refine (HLt.out _).mono ?_); rintro e w7 ⟨rfl, hb⟩; have hz := hb.size; (try simp only [szA, szS, szD, szN] at hz); (try (refine bcB (n := wr.heap.size) hb ?_; intro h_wr_0 e_wr_0 d_wr_0 _ _))))
                                                          have hb8 : Below wr.heap.size wr w7 := by exact belz
                                                          have x0 := (hb8.cell (p := ⟨w6.heap.size, 0, none⟩) hs7).trans t0'
                                                          have x1 := (hb8.cell (p := ⟨w6.heap.size, 1, none⟩) hs7).trans t1'
                                                          have m0 := (hb8.cell (p := ⟨qb, sn * 32 + a * 4, none⟩) hq7).trans f0
                                                          have m1 := (hb8.cell (p := ⟨qb, sn * 32 + a * 4 + 1, none⟩) hq7).trans f1
                                                          have m2 := (hb8.cell (p := ⟨qb, sn * 32 + a * 4 + 2, none⟩) hq7).trans f2
                                                          have m3 := (hb8.cell (p := ⟨qb, sn * 32 + a * 4 + 3, none⟩) hq7).trans f3
                                                          have o0 := (hb8.cell (p := ⟨gb, k * 32 + a * 4, none⟩) hg7).trans g0
                                                          have o1 := (hb8.cell (p := ⟨gb, k * 32 + a * 4 + 1, none⟩) hg7).trans g1
                                                          have o2 := (hb8.cell (p := ⟨gb, k * 32 + a * 4 + 2, none⟩) hg7).trans g2
                                                          have o3 := (hb8.cell (p := ⟨gb, k * 32 + a * 4 + 3, none⟩) hg7).trans g3
                                                          have z0 := (hb8.frozen (p := ⟨gb, k * 32 + a * 4, none⟩) hg7).trans (HFz.out _)
                                                          have z1 := (hb8.frozen (p := ⟨gb, k * 32 + a * 4 + 1, none⟩) hg7).trans (HFz.out _)
                                                          have z2 := (hb8.frozen (p := ⟨gb, k * 32 + a * 4 + 2, none⟩) hg7).trans (HFz.out _)
                                                          have z3 := (hb8.frozen (p := ⟨gb, k * 32 + a * 4 + 3, none⟩) hg7).trans (HFz.out _)
                                                          have HB8 := Lib.hid hb8
                                                          have hz8 := hb8.size
                                                          have n1 : ¬ gb = w6.heap.size := by omega
                                                          have n2 : ¬ w6.heap.size = gb := by omega
                                                          clear hb hb8 f0 f1 f2 f3 g0 g1 g2 g3 t0' t1' HFz HLt
                                                          go_upto_region 44 with fail
                                                          (refine Go.wp_region_still_tail 12 (by kernel_rfl) (by kernel_rfl) ?_; simp only [List.take_succ_cons, List.take_zero, List.drop_succ_cons, List.drop_zero]; change Go.wpStill _ _ (World.drew _) (fun a' => wpList _ _ _ _ a' (World.drew _)) _ _; (repeat still_step); refine Go.wpStill_nil ?_)
                                                          go_wp2_with fail
                                                          have hdr : Below w7.heap.size w7 w7.drew := by exact belz
                                                          have HDr := Lib.hid hdr
                                                          go_roundg (8 - (a + 1))
                                                          case measure => omega
                                                          case rel =>
                                                            have hput := ((HH7.out.kept HB8.out).kept HDr.out).put k a hkn ha8 ⟨v0, v1, v2, v3⟩
                                                            have hcg := hput.congr (G' := nextG E G k (mixR rs (half G k rs (sn : Int) dst) (a + 1))) (fun i b _ _ => HYes.out HNw.out i b)
                                                            refine ⟨a + 1, by omega, by go_num, hcg, ?_, by go_simp, by go_simp, by simp; omega⟩
                                                            have hbx := (HB7.out.trans (HB8.out.mono hz7)).trans (HDr.out.mono (by omega))
                                                            exact (((hbx.setCell hg0 _).setCell hg0 _).setCell hg0 _).setCell hg0 _
                                                      · have hd2 : (dst == (k : Int)) = false := by simpa using hd
                                                        have hno := mix_no (E := E) (G := G) (k := k) rs (sn : Int) dst a (fun e => absurd e hd)
                                                        have HNo := Lib.hid hno
                                                        clear hno hhd7 hb7
                                                        go_upto_region 43 with fail
                                                        go_quiet (fail)
                                                        go_wp2_with fail
                                                        have hbq : Below wr.heap.size wr (wr.drewN nq) := by exact belz
                                                        have HBq := Lib.hid hbq
                                                        have x0 := (hbq.cell (p := ⟨w6.heap.size, 0, none⟩) hs7).trans t0'
                                                        have x1 := (hbq.cell (p := ⟨w6.heap.size, 1, none⟩) hs7).trans t1'
                                                        go_roundg (8 - (a + 1))
                                                        case measure => omega
                                                        case rel => exact ⟨a + 1, by omega, by go_num, (HH7.out.kept HBq.out).congr (fun i b _ _ => HNo.out i b), HB7.out.trans (HBq.out.mono hz7), x0, x1, by simpa using hs7⟩
                                                    · obtain rfl : a = 8 := by omega
                                                      have hfin := hhd7.congr (G' := nextG E G k (rowS G k r p q (kk + 1))) (fun i b _ hb8 => by rw [mix_all _ _ i b hb8, HHf.out])
                                                      have HFin := Lib.hid hfin
                                                      clear hfin hhd7 hb7
                                                      go_wp2_with fail
                                                      go_roundg (2 - (kk + 1).toNat)
                                                      case measure => omega
                                                      case rel => exact ⟨kk + 1, by omega, by omega, rfl, HFin.out, HB7.out⟩
                                              · obtain rfl : kk = 2 := by omega
                                                have hfin := HH6.out
                                                rw [← HRs.out] at hfin
                                                have HFin := Lib.hid hfin
                                                clear hfin
                                                go_wp2_with fail
                                                go_roundg (E.length - (j + 1))
                                                case measure => omega
                                                case rel => exact ⟨j + 1, by omega, by go_num, HFin.out, HB6.out⟩
                                        · obtain rfl : j = E.length := by omega
                                          have hh5 := HH5.out
                                          rw [row_all] at hh5
                                          have hcur := hh5.congr (G' := curG E G (k + 1)) (fun i b _ _ => by rw [next_cur])
                                          have hr1 := hh5.range k hkn
                                          rw [show nextG E G k (stG E G k) k = stG E G k from if_pos rfl] at hr1
                                          have hr2 := (HH1.out.kept hb5).range k hkn
                                          have hch : chgL G (stG E G) (k + 1) = chgL G (stG E G) k + (if eq8 (stG E G k) (G k) = true then 0 else 1) := rfl
                                          have hle := chgL_le G (stG E G) k
                                          have hnn := chgL_nn G (stG E G) k
                                          have HCur := Lib.hid hcur
                                          have HCh := Lib.hid hch
                                          have heq := eqAt8 (stG E G k) (G k)
                                          generalize chgL G (stG E G) k = ch at *
                                          generalize stG E G k = A8 at *
                                          generalize hB8 : G k = B8 at *
                                          have HB8 := Lib.hid hB8
                                          have HB5' := Lib.hid hb5
                                          clear hh5 hcur hch hb5 hB8
                                          go_upto_region 48 with fail
                                          refine wp_region_held_drew (S := fun w' => w'.rangeAt gb (k * 32) (c8 A8) ∧ w'.rangeAt qb (k * 32) (c8 B8)) (by kernel_rfl) ⟨hr1, hr2⟩ ?_
                                          intro hS0
                                          (refine wpAnyH_take (i := 0) (oi := { dst := some 204, op := Op.move (Operand.tmp 21), type := 46, pos := "high.go:591", after := #[], guard := none }) (v := ?_) rfl (by kernel_rfl) (by kernel_rfl) (by kernel_rfl) (fun _ _ _ h => h) (Or.inl ⟨by rfl, ?_⟩) (by assumption) ?_; rotate_left; (focus (intro w hSw; (try dsimp only at hSw); go_simp; (try with_reducible rfl))); (try simp only [Act.put, List.setIfInBounds_toArray, List.set_cons_zero, List.set_cons_succ]))
                                          (refine wpAnyH_take (i := 1) (oi := { dst := some 205, op := Op.move (Operand.tmp 23), type := 3, pos := "high.go:591", after := #[], guard := none }) (v := ?_) rfl (by kernel_rfl) (by kernel_rfl) (by kernel_rfl) (fun _ _ _ h => h) (Or.inl ⟨by rfl, ?_⟩) (by assumption) ?_; rotate_left; (focus (intro w hSw; (try dsimp only at hSw); go_simp; (try with_reducible rfl))); (try simp only [Act.put, List.setIfInBounds_toArray, List.set_cons_zero, List.set_cons_succ]))
                                          (refine wpAnyH_take (i := 2) (oi := { dst := some 206, op := Op.indexAddr 46 (Operand.tmp 204) (Operand.tmp 205), type := 0, pos := "high.go:591", after := #[{ on := 0, ground := Ground.data }, { on := 1, ground := Ground.data }], guard := none }) (v := ?_) rfl (by kernel_rfl) (by kernel_rfl) (by kernel_rfl) (fun _ _ _ h => h) (Or.inl ⟨by rfl, ?_⟩) (by assumption) ?_; rotate_left; (focus (intro w hSw; (try dsimp only at hSw); go_simp; (try with_reducible rfl))); (try simp only [Act.put, List.setIfInBounds_toArray, List.set_cons_zero, List.set_cons_succ]))
                                          (refine wpAnyH_take (i := 3) (oi := { dst := some 207, op := Op.load 49 (Operand.tmp 206), type := 49, pos := "high.go:591", after := #[{ on := 2, ground := Ground.data }], guard := none }) rfl (by kernel_rfl) (by kernel_rfl) (by kernel_rfl) (fun _ _ _ h => h) (yieldsIf_load_mid (by rfl) 49 (.tmp 206) rfl gb (k * 32) rfl (c8 A8) _ (fun w h => h.1) Tryd.underlying49 rfl (by rw [c8_len]; kernel_rfl)) (by assumption) ?_; (try simp only [Act.put, List.setIfInBounds_toArray, List.set_cons_zero, List.set_cons_succ]))
                                          (refine wpAnyH_take (i := 4) (oi := { dst := some 208, op := Op.move (Operand.tmp 18), type := 46, pos := "high.go:591", after := #[], guard := none }) (v := ?_) rfl (by kernel_rfl) (by kernel_rfl) (by kernel_rfl) (fun _ _ _ h => h) (Or.inl ⟨by rfl, ?_⟩) (by assumption) ?_; rotate_left; (focus (intro w hSw; (try dsimp only at hSw); go_simp; (try with_reducible rfl))); (try simp only [Act.put, List.setIfInBounds_toArray, List.set_cons_zero, List.set_cons_succ]))
                                          (refine wpAnyH_take (i := 5) (oi := { dst := some 209, op := Op.move (Operand.tmp 23), type := 3, pos := "high.go:591", after := #[], guard := none }) (v := ?_) rfl (by kernel_rfl) (by kernel_rfl) (by kernel_rfl) (fun _ _ _ h => h) (Or.inl ⟨by rfl, ?_⟩) (by assumption) ?_; rotate_left; (focus (intro w hSw; (try dsimp only at hSw); go_simp; (try with_reducible rfl))); (try simp only [Act.put, List.setIfInBounds_toArray, List.set_cons_zero, List.set_cons_succ]))
                                          (refine wpAnyH_take (i := 6) (oi := { dst := some 210, op := Op.indexAddr 46 (Operand.tmp 208) (Operand.tmp 209), type := 0, pos := "high.go:591", after := #[{ on := 4, ground := Ground.data }, { on := 5, ground := Ground.data }], guard := none }) (v := ?_) rfl (by kernel_rfl) (by kernel_rfl) (by kernel_rfl) (fun _ _ _ h => h) (Or.inl ⟨by rfl, ?_⟩) (by assumption) ?_; rotate_left; (focus (intro w hSw; (try dsimp only at hSw); go_simp; (try with_reducible rfl))); (try simp only [Act.put, List.setIfInBounds_toArray, List.set_cons_zero, List.set_cons_succ]))
                                          (refine wpAnyH_take (i := 7) (oi := { dst := some 211, op := Op.load 49 (Operand.tmp 210), type := 49, pos := "high.go:591", after := #[{ on := 6, ground := Ground.data }], guard := none }) rfl (by kernel_rfl) (by kernel_rfl) (by kernel_rfl) (fun _ _ _ h => h) (yieldsIf_load_mid (by rfl) 49 (.tmp 210) rfl qb (k * 32) rfl (c8 B8) _ (fun w h => h.2) Tryd.underlying49 rfl (by rw [c8_len]; kernel_rfl)) (by assumption) ?_; (try simp only [Act.put, List.setIfInBounds_toArray, List.set_cons_zero, List.set_cons_succ]))
                                          (refine wpAnyH_take (i := 8) (oi := { dst := some 212, op := Op.binOp BinOp.neq 49 (Operand.tmp 207) (Operand.tmp 211) 49, type := 4, pos := "high.go:591", after := #[{ on := 3, ground := Ground.data }, { on := 7, ground := Ground.data }], guard := none }) (v := ?_) rfl (by kernel_rfl) (by kernel_rfl) (by kernel_rfl) (fun _ _ _ h => h) (Or.inl ⟨by rfl, ?_⟩) (by assumption) ?_; rotate_left; (focus (intro w hSw; (try dsimp only at hSw); go_simp; (try with_reducible rfl))); (try simp only [Act.put, List.setIfInBounds_toArray, List.set_cons_zero, List.set_cons_succ]))
                                          refine wpAnyH_done (by kernel_rfl) ?_ _
                                          clear hr1 hr2 hS0
                                          have HDr := Lib.hid (show Below wr.heap.size wr wr.drew by exact belz)
                                          cases hq : eq8 A8 B8 with
                                          | true =>
                                            have HQ := Lib.hid hq
                                            clear hq
                                            go_wp2_with fail
                                            go_roundg (nd - (k + 1))
                                            case measure => omega
                                            case rel => exact ⟨k + 1, by omega, by go_num, by rw [HCh.out, if_pos HQ.out, Int.add_zero], HCur.out.kept HDr.out, HB5'.out.trans (HDr.out.mono hz5)⟩
                                          | false =>
                                            have HQ := Lib.hid hq
                                            clear hq
                                            go_wp2_with fail
                                            go_roundg (nd - (k + 1))
                                            case measure => omega
                                            case rel => exact ⟨k + 1, by omega, by go_num, by rw [HCh.out, if_neg (by rw [HQ.out]; decide)], HCur.out.kept HDr.out, HB5'.out.trans (HDr.out.mono hz5)⟩
                                  · obtain rfl : k = nd := by omega
                                    have hst := HH4.out.congr (G' := stG E G) (fun i b hi _ => by unfold curG; rw [if_pos hi])
                                    have hSx := Lib.hid (c_StepX (w1 := wr) (HP1.out.net.below HB4.out) HP1.out.agr h1 h12 h8 h40 HEk.out (by have := HP1.out.b2; omega) HP1.out.b1)
                                    have HSt := Lib.hid hst
                                    clear hst
                                    generalize chgL G (stG E G) k = ch at *
                                    have hw : IntKind.i64.wrap ((i : Int) + 1) = (i : Int) + 1 := IntWalk.i64_in _ (by unfold maxLen at hll; omega)
                                    go_wp2_with (go_at_call 23; (with_reducible refine (hSx.out).mono ?_); rintro e w9 ⟨rfl, vh2, rb2, W, hN2, hW2, rfl, hb⟩; have hz := hb.size; (try simp only [szA, szS, szD, szN] at hz); (try (refine bcB (n := wr.heap.size) hb ?_; intro h_wr_0 e_wr_0 d_wr_0 _ _)))
                                    go_roundg (L.length - (i + 1))
                                    case measure => omega
                                    case rel =>
                                      exact ⟨i + 1, vh2, _, rb2, gb, cap, stG E G, by omega, by go_num, rfl, step_yes (HP1.out.net.below HB4.out) hN2 (own_base2 HSt.out hz1w) HP1.out.agr h8 HEk.out (hbe1.trans (HB4.out.mono hz1w)) hW2 HP1.out.b0 HP1.out.b1 (by have := HP1.out.b2; omega)⟩
                          · as_aux_lemma =>
                              have dn := decide_eq_false hneg
                              go_upto_region 54 with fail
                              obtain ⟨W1, hW1⟩ : ∃ W1, W1 = wr.alloc (.cells #[.int .i64 t0, .int .i64 t1, .string t2, .int .i64 t3] 23) := ⟨_, rfl⟩
                              rw [← hW1]
                              have hB1 : Below wr.heap.size wr W1 := by rw [hW1]; exact (Below.refl _ wr).alloc (Nat.le_refl _) _
                              have e0 : W1.cell? ⟨wr.heap.size, 0, none⟩ = some (.int .i64 t0) := by rw [hW1]; go_simp
                              have e1 : W1.cell? ⟨wr.heap.size, 1, none⟩ = some (.int .i64 t1) := by rw [hW1]; go_simp
                              have e2 : W1.cell? ⟨wr.heap.size, 2, none⟩ = some (.string t2) := by rw [hW1]; go_simp
                              have e3 : W1.cell? ⟨wr.heap.size, 3, none⟩ = some (.int .i64 t3) := by rw [hW1]; go_simp
                              have hs1 : wr.heap.size < W1.heap.size := by rw [hW1]; simp
                              have HP1 := Lib.hid (HP.out.kept hB1)
                              have hbe1 : Below w.heap.size w W1 := hbel.trans (hB1.mono hzw)
                              have ca1 := (hB1.cell (p := ⟨ab, ao + i, none⟩) hlab).trans ca
                              have HRb := Lib.hid (show ∀ q ∈ rb, q.1 < wr.heap.size from fun q hq => by
                                obtain ⟨j, hj, rfl⟩ := List.getElem_of_mem hq
                                exact (HP.out.net.row j (by have := HP.out.net.len; omega) hj).2.form.2.1)
                              have hhbt : qb < wr.heap.size := HP.out.held.lt.2
                              clear hW1 hB1 hbel c0 c1 c2 c3 ca HP hlb
                              generalize htb : wr.heap.size = tb at *
                              have hlt20 : w.heap.size ≤ tb := hzw
                              have HY := Lib.hid (fun w1 => c_nErr t0 t1 t2 t3 w1 (by unfold maxLen at hsz; omega))
                              go_upto_block 15 with (go_at_call 14; (with_reducible refine (HY.out _).mono ?_); rintro e w3 ⟨rfl, hb⟩; have hz := hb.size; (try simp only [szA, szS, szD, szN] at hz); (try (refine bcB (n := W1.heap.size) hb ?_; intro h_W1_0 e_W1_0 d_W1_0 _ _)))
                              have hbe2 : Below w.heap.size w w3 := hbe1.trans (hb.mono (by omega))
                              have e0' := (hb.cell (p := ⟨tb, 0, none⟩) hs1).trans e0
                              have e1' := (hb.cell (p := ⟨tb, 1, none⟩) hs1).trans e1
                              have e2' := (hb.cell (p := ⟨tb, 2, none⟩) hs1).trans e2
                              have e3' := (hb.cell (p := ⟨tb, 3, none⟩) hs1).trans e3
                              have ca2 := (hb.cell (p := ⟨ab, ao + i, none⟩) (show ab < W1.heap.size by omega)).trans ca1
                              have HP3 := Lib.hid (HP1.out.kept hb)
                              have hs3 : tb < w3.heap.size := by have := hb.size; omega
                              have hab3 : ab < w3.heap.size := by omega
                              clear e0 e1 e2 e3 ca1 HP1 hbe1 hb hs1
                              go_cut [29] (fun x29 wc => x29 = .int .i64 (lawP K nd G at_ ⟨t0, t1, t2, t3⟩) ∧ ∃ U : World, Below w3.heap.size w3 U ∧ ((lawP K nd G at_ ⟨t0, t1, t2, t3⟩ ≠ 0 ∧ wc = U) ∨ (lawP K nd G at_ ⟨t0, t1, t2, t3⟩ = 0 ∧ ∃ k a : Nat, at_ = (k : Int) ∧ t0 = (a : Int) ∧ k < nd ∧ a < K.length ∧ 1 ≤ t1 ∧
                                wc = (((U.setCell ⟨qb, k * 32 + a * 4, none⟩ (.int .i64 t0)).setCell ⟨qb, k * 32 + a * 4 + 1, none⟩ (.int .i64 t1)).setCell ⟨qb, k * 32 + a * 4 + 2, none⟩ (.string t2)).setCell ⟨qb, k * 32 + a * 4 + 3, none⟩ (.int .i64 t3))))
                              case first =>
                                as_aux_lemma =>
                                  generalize hX : noE t0 t1 t3 t2.data.toList = X at *
                                  have HX := Lib.hid hX
                                  clear hX HY
                                  by_cases g1 : (nd : Int) ≤ at_
                                  · have q1 := decide_eq_true g1
                                    have HV := Lib.hid (show lawP K nd G at_ ⟨t0, t1, t2, t3⟩ = 3 by unfold lawP; rw [if_pos g1])
                                    go_wp2_with fail
                                    go_meet
                                    case rel => exact ⟨by rw [HV.out], w3, Below.refl _ _, .inl ⟨by rw [HV.out]; decide, rfl⟩⟩
                                  · have q1 := decide_eq_false g1
                                    by_cases g2 : X = 0
                                    · subst g2
                                      obtain ⟨a0, a8, n0, n1, l200⟩ := noE_zero HX.out
                                      by_cases g3 : (K.length : Int) ≤ t0
                                      · have q3 := decide_eq_true g3
                                        have HV := Lib.hid (show lawP K nd G at_ ⟨t0, t1, t2, t3⟩ = 5 by
                                          unfold lawP
                                          rw [if_neg g1]
                                          dsimp only
                                          rw [if_neg (fun h => h HX.out), if_pos g3])
                                        go_wp2_with fail
                                        go_meet
                                        case rel => exact ⟨by rw [HV.out], w3, Below.refl _ _, .inl ⟨by rw [HV.out]; decide, rfl⟩⟩
                                      · have q3 := decide_eq_false g3
                                        obtain ⟨k, hk⟩ : ∃ k : Nat, at_ = (k : Int) := ⟨at_.toNat, by omega⟩
                                        obtain ⟨a, ha⟩ : ∃ a : Nat, t0 = (a : Int) := ⟨t0.toNat, by omega⟩
                                        have hkn : k < nd := by omega
                                        have hak : a < K.length := by omega
                                        have ha8 : a < 8 := by omega
                                        have ha8i : (a : Int) < 8 := by omega
                                        obtain ⟨kb, ko, hka, hkb, hkc⟩ := HS.out a hak
                                        have ixk := @ix_Int ka kb ko K.length kc a hka hak
                                        have ck := (hbe2.cell (p := ⟨kb, ko + a, none⟩) hkb).trans hkc
                                        have hkb3 : kb < w3.heap.size := by have := hbe2.size; omega
                                        have hkd : K.getD t0.toNat 0 = K[a] := by rw [ha, Int.toNat_natCast, List.getD_eq_getElem?_getD, List.getElem?_eq_getElem hak]; rfl
                                        have hkey := HKb.out a hak
                                        have HLaw := Lib.hid (show lawP K nd G at_ ⟨t0, t1, t2, t3⟩ = if (t3 == noH K[a] (noS t0 t1 t2.data.toList)) = false then 13 else if nwF t1 t2 (G k a).no (G k a).tx = false then 9 else 0 by
                                          unfold lawP
                                          rw [if_neg g1]
                                          dsimp only
                                          rw [if_neg (fun h => h HX.out), if_neg g3, hkd, hk, ha, Int.toNat_natCast, Int.toNat_natCast])
                                        clear hka hkc hkd
                                        subst hk
                                        subst ha
                                        have HSm := Lib.hid (fun w1 => c_rSum K[a] (a : Int) t1 t2 t3 w1 (by omega) (by omega) (by omega) (by omega) n0 n1 (by rw [← str_len]; exact l200))
                                        generalize K[a] = key at *
                                        generalize noH key (noS (a : Int) t1 t2.data.toList) = H at *
                                        have hgc := HP3.out.held.cells k a hkn ha8
                                        obtain ⟨h0, h1', h2, h3⟩ := hgc
                                        generalize hs : G k a = s at *
                                        have HSs := Lib.hid hs
                                        clear hs
                                        obtain ⟨s0, s1, s2, s3⟩ := s
                                        dsimp only at h0 h1' h2 h3 HLaw
                                        have hhb3 := HP3.out.held.lt.2
                                        have ixh := @ix_H8 qb nd hc k hkn
                                        cases hsm : (t3 == H) with
                                        | false =>
                                          have g4 : (t3 != H) = true := by simp only [bne, hsm]; rfl
                                          have HV := Lib.hid (show lawP K nd G (k : Int) ⟨(a : Int), t1, t2, t3⟩ = 13 by rw [HLaw.out, hsm, if_pos rfl])
                                          clear hsm
                                          go_upto_region 61 with fail
                                          go_region_held3 (fun w' => w'.cell? ⟨tb, 0, none⟩ = some (.int .i64 (a : Int)) ∧ w'.cell? ⟨tb, 1, none⟩ = some (.int .i64 t1) ∧ w'.cell? ⟨tb, 2, none⟩ = some (.string t2) ∧ w'.cell? ⟨tb, 3, none⟩ = some (.int .i64 t3) ∧ w'.cell? ⟨kb, ko + a, none⟩ = some (.int .i64 key)) (refine ⟨?_, ?_, ?_, ?_, ?_⟩ <;> (first | assumption | (go_simp; done) | (rw [hb.cell (by first | (simp; done) | (simp; omega) | (show tb < _; omega) | (show kb < _; omega))]; first | assumption | (go_simp; done)) | go_keep)) ((go_at_call 16; (with_reducible refine (HSm.out _).mono ?_); rintro e w6 ⟨rfl, hb⟩; have hz := hb.size; (try simp only [szA, szS, szD, szN] at hz); (try (refine bcB (n := w3.heap.size) hb ?_; intro h_w3_0 e_w3_0 d_w3_0 _ _))))
                                          have hb6 : Below w3.heap.size w3 w6 := by exact belz
                                          have HB6 := Lib.hid hb6
                                          go_wp2_with fail
                                          go_meet
                                          case rel => exact ⟨by rw [HV.out], w6, HB6.out, .inl ⟨by rw [HV.out]; decide, rfl⟩⟩
                                        | true =>
                                          have g4 : (t3 != H) = false := by simp only [bne, hsm]; rfl
                                          have hlw := HLaw.out
                                          rw [hsm, if_neg (by decide)] at hlw
                                          have HLw := Lib.hid hlw
                                          clear hsm hlw HLaw
                                          go_upto_region 61 with fail
                                          go_region_held3 (fun w' => w'.cell? ⟨tb, 0, none⟩ = some (.int .i64 (a : Int)) ∧ w'.cell? ⟨tb, 1, none⟩ = some (.int .i64 t1) ∧ w'.cell? ⟨tb, 2, none⟩ = some (.string t2) ∧ w'.cell? ⟨tb, 3, none⟩ = some (.int .i64 t3) ∧ w'.cell? ⟨kb, ko + a, none⟩ = some (.int .i64 key)) (refine ⟨?_, ?_, ?_, ?_, ?_⟩ <;> (first | assumption | (go_simp; done) | (rw [hb.cell (by first | (simp; done) | (simp; omega) | (show tb < _; omega) | (show kb < _; omega))]; first | assumption | (go_simp; done)) | go_keep)) ((go_at_call 16; (with_reducible refine (HSm.out _).mono ?_); rintro e w6 ⟨rfl, hb⟩; have hz := hb.size; (try simp only [szA, szS, szD, szN] at hz); (try (refine bcB (n := w3.heap.size) hb ?_; intro h_w3_0 e_w3_0 d_w3_0 _ _))))
                                          have hb6 : Below w3.heap.size w3 w6 := by exact belz
                                          have f0 := (hb6.cell (p := ⟨tb, 0, none⟩) hs3).trans e0'
                                          have f1 := (hb6.cell (p := ⟨tb, 1, none⟩) hs3).trans e1'
                                          have f2 := (hb6.cell (p := ⟨tb, 2, none⟩) hs3).trans e2'
                                          have f3 := (hb6.cell (p := ⟨tb, 3, none⟩) hs3).trans e3'
                                          have cb := (hb6.cell (p := ⟨ab, ao + i, none⟩) hab3).trans ca2
                                          have m0 := (hb6.cell (p := ⟨qb, k * 32 + a * 4, none⟩) hhb3).trans h0
                                          have m1 := (hb6.cell (p := ⟨qb, k * 32 + a * 4 + 1, none⟩) hhb3).trans h1'
                                          have m2 := (hb6.cell (p := ⟨qb, k * 32 + a * 4 + 2, none⟩) hhb3).trans h2
                                          have m3 := (hb6.cell (p := ⟨qb, k * 32 + a * 4 + 3, none⟩) hhb3).trans h3
                                          have hs6 : tb < w6.heap.size := by have := hb6.size; omega
                                          have hh6 : qb < w6.heap.size := by have := hb6.size; omega
                                          have ha6 : ab < w6.heap.size := by have := hb6.size; omega
                                          have HB6 := Lib.hid hb6
                                          have HFz := Lib.hid (fun j => (hb6.frozen (p := ⟨qb, j, none⟩) hhb3).trans (HP3.out.held.frozen j))
                                          clear e0' e1' e2' e3' ca2 ck h0 h1' h2 h3 hb6 hkb3 hab3 HSm ixk g4
                                          have hlt2 := fun w1 => c_later (a : Int) t1 t2 t3 s0 s1 s2 s3 w1
                                          cases hnw : nwF t1 t2 s1 s2 with
                                          | false =>
                                            rw [hnw] at hlt2
                                            have HLt := Lib.hid hlt2
                                            have HV := Lib.hid (show lawP K nd G (k : Int) ⟨(a : Int), t1, t2, t3⟩ = 9 by rw [HLw.out, hnw, if_pos rfl])
                                            clear hlt2 hnw HLw
                                            go_upto_region 63 with fail
                                            go_region_held3 (fun w' => w'.cell? ⟨tb, 0, none⟩ = some (.int .i64 (a : Int)) ∧ w'.cell? ⟨tb, 1, none⟩ = some (.int .i64 t1) ∧ w'.cell? ⟨tb, 2, none⟩ = some (.string t2) ∧ w'.cell? ⟨tb, 3, none⟩ = some (.int .i64 t3) ∧ w'.cell? ⟨ab, ao + i, none⟩ = some (.int .i64 (k : Int)) ∧ w'.cell? ⟨qb, k * 32 + a * 4, none⟩ = some (.int .i64 s0) ∧ w'.cell? ⟨qb, k * 32 + a * 4 + 1, none⟩ = some (.int .i64 s1) ∧ w'.cell? ⟨qb, k * 32 + a * 4 + 2, none⟩ = some (.string s2) ∧ w'.cell? ⟨qb, k * 32 + a * 4 + 3, none⟩ = some (.int .i64 s3)) (refine ⟨?_, ?_, ?_, ?_, ?_, ?_, ?_, ?_, ?_⟩ <;> (first | assumption | (go_simp; done) | (rw [hb.cell (by first | (simp; done) | (simp; omega) | (show tb < _; omega) | (show ab < _; omega) | (show qb < _; omega))]; first | assumption | (go_simp; done)) | go_keep)) ((go_at_call 22; (with_reducible refine (HLt.out _).mono ?_); rintro e w7 ⟨rfl, hb⟩; have hz := hb.size; (try simp only [szA, szS, szD, szN] at hz); (try (refine bcB (n := w6.heap.size) hb ?_; intro h_w6_0 e_w6_0 d_w6_0 _ _))))
                                            have hb7 : Below w6.heap.size w6 w7 := by exact belz
                                            have HB7 := Lib.hid (HB6.out.trans (hb7.mono HB6.out.size))
                                            go_wp2_with fail
                                            go_meet
                                            case rel => exact ⟨by rw [HV.out], w7, HB7.out, .inl ⟨by rw [HV.out]; decide, rfl⟩⟩
                                          | true =>
                                            rw [hnw] at hlt2
                                            have HLt := Lib.hid hlt2
                                            have HV := Lib.hid (show lawP K nd G (k : Int) ⟨(a : Int), t1, t2, t3⟩ = 0 by rw [HLw.out, hnw, if_neg (by decide)])
                                            clear hlt2 hnw HLw
                                            go_upto_region 63 with fail
                                            go_region_held3 (fun w' => w'.cell? ⟨tb, 0, none⟩ = some (.int .i64 (a : Int)) ∧ w'.cell? ⟨tb, 1, none⟩ = some (.int .i64 t1) ∧ w'.cell? ⟨tb, 2, none⟩ = some (.string t2) ∧ w'.cell? ⟨tb, 3, none⟩ = some (.int .i64 t3) ∧ w'.cell? ⟨ab, ao + i, none⟩ = some (.int .i64 (k : Int)) ∧ w'.cell? ⟨qb, k * 32 + a * 4, none⟩ = some (.int .i64 s0) ∧ w'.cell? ⟨qb, k * 32 + a * 4 + 1, none⟩ = some (.int .i64 s1) ∧ w'.cell? ⟨qb, k * 32 + a * 4 + 2, none⟩ = some (.string s2) ∧ w'.cell? ⟨qb, k * 32 + a * 4 + 3, none⟩ = some (.int .i64 s3)) (refine ⟨?_, ?_, ?_, ?_, ?_, ?_, ?_, ?_, ?_⟩ <;> (first | assumption | (go_simp; done) | (rw [hb.cell (by first | (simp; done) | (simp; omega) | (show tb < _; omega) | (show ab < _; omega) | (show qb < _; omega))]; first | assumption | (go_simp; done)) | go_keep)) ((go_at_call 22; (with_reducible refine (HLt.out _).mono ?_); rintro e w7 ⟨rfl, hb⟩; have hz := hb.size; (try simp only [szA, szS, szD, szN] at hz); (try (refine bcB (n := w6.heap.size) hb ?_; intro h_w6_0 e_w6_0 d_w6_0 _ _))))
                                            have hb7 : Below w6.heap.size w6 w7 := by exact belz
                                            have p0 := (hb7.cell (p := ⟨tb, 0, none⟩) hs6).trans f0
                                            have p1 := (hb7.cell (p := ⟨tb, 1, none⟩) hs6).trans f1
                                            have p2 := (hb7.cell (p := ⟨tb, 2, none⟩) hs6).trans f2
                                            have p3 := (hb7.cell (p := ⟨tb, 3, none⟩) hs6).trans f3
                                            have pb := (hb7.cell (p := ⟨ab, ao + i, none⟩) ha6).trans cb
                                            have n0' := (hb7.cell (p := ⟨qb, k * 32 + a * 4, none⟩) hh6).trans m0
                                            have n1' := (hb7.cell (p := ⟨qb, k * 32 + a * 4 + 1, none⟩) hh6).trans m1
                                            have n2' := (hb7.cell (p := ⟨qb, k * 32 + a * 4 + 2, none⟩) hh6).trans m2
                                            have n3' := (hb7.cell (p := ⟨qb, k * 32 + a * 4 + 3, none⟩) hh6).trans m3
                                            have z0 := (hb7.frozen (p := ⟨qb, k * 32 + a * 4, none⟩) hh6).trans (HFz.out _)
                                            have z1 := (hb7.frozen (p := ⟨qb, k * 32 + a * 4 + 1, none⟩) hh6).trans (HFz.out _)
                                            have z2 := (hb7.frozen (p := ⟨qb, k * 32 + a * 4 + 2, none⟩) hh6).trans (HFz.out _)
                                            have z3 := (hb7.frozen (p := ⟨qb, k * 32 + a * 4 + 3, none⟩) hh6).trans (HFz.out _)
                                            have HB7 := Lib.hid (HB6.out.trans (hb7.mono HB6.out.size))
                                            clear f0 f1 f2 f3 cb m0 m1 m2 m3 hb7 HFz HLt
                                            go_upto_region 55 with fail
                                            (refine Go.wp_region_still_tail 10 (by kernel_rfl) (by kernel_rfl) ?_; simp only [List.take_succ_cons, List.take_zero, List.drop_succ_cons, List.drop_zero]; change Go.wpStill _ _ (World.drew _) (fun a' => wpList _ _ _ _ a' (World.drew _)) _ _; (repeat still_step); refine Go.wpStill_nil ?_)
                                            go_wp2_with fail
                                            go_meet
                                            case rel => exact ⟨by rw [HV.out], w7.drew, HB7.out.trans (by exact belz), .inr ⟨HV.out, k, a, rfl, rfl, hkn, hak, n0, rfl⟩⟩
                                    · have q2 : (X == 0) = false := by simpa using g2
                                      have q3 : (X != 0) = true := by simpa using g2
                                      have HV := Lib.hid (show lawP K nd G at_ ⟨t0, t1, t2, t3⟩ = X by
                                        unfold lawP
                                        rw [if_neg g1]
                                        dsimp only
                                        rw [HX.out, if_pos g2])
                                      go_wp2_with fail
                                      go_meet
                                      case rel => exact ⟨by rw [HV.out], w3, Below.refl _ _, .inl ⟨by rw [HV.out]; exact g2, rfl⟩⟩
                              case rest =>
                                as_aux_lemma =>
                                  obtain ⟨rfl, U, hbU, hor⟩ := hcut
                                  have hput := put_eq HP3.out.agr h8 at_ (by omega) ⟨t0, t1, t2, t3⟩
                                  obtain ⟨G', hN4, hH4, hg1, hg2, hB4, hcl4, hz4⟩ := law_put (node := at_) (t := ⟨t0, t1, t2, t3⟩) (y := lawP K nd G at_ ⟨t0, t1, t2, t3⟩) HP3.out hbU h8 hor
                                  have f0 := (hcl4 tb 0 (by omega) hs3).trans e0'
                                  have f1 := (hcl4 tb 1 (by omega) hs3).trans e1'
                                  have f2 := (hcl4 tb 2 (by omega) hs3).trans e2'
                                  have f3 := (hcl4 tb 3 (by omega) hs3).trans e3'
                                  have cb := (hcl4 ab (ao + i) (by have := HP3.out.held.lt.1; omega) hab3).trans ca2
                                  have hs4 : tb < wc.heap.size := by omega
                                  have ha4 : ab < wc.heap.size := by omega
                                  have hb24 : Bn ≤ wc.heap.size := by have := HP3.out.b2; omega
                                  have HN4 := Lib.hid hN4
                                  have HH4 := Lib.hid hH4
                                  have HG1 := Lib.hid hg1
                                  have HG2 := Lib.hid hg2
                                  have HB4 := Lib.hid hB4
                                  have HPt := Lib.hid hput
                                  have HPx := Lib.hid (fun w1 (q : Below wc.heap.size wc w1) => c_PutX (w := w) (node := at_) (t := ⟨t0, t1, t2, t3⟩) (tb := tb) (HN4.out.below q) (HT.out.below (HB4.out.trans (q.mono HB4.out.size))) (by rw [HP3.out.agr.len]; omega) (fun x hx => by
                                    obtain ⟨j, hj, rfl⟩ := List.getElem_of_mem hx
                                    have := HKb.out j hj
                                    unfold keyB
                                    rw [decide_eq_true (by omega), decide_eq_true (by omega)]
                                    rfl) (by unfold maxLen at hsz; exact Nat.le_trans hsz (by decide)) HRb.out HP3.out.b0 (by have := q.size; omega) HPt.out)
                                  clear e0' e1' e2' e3' ca2 hbU hor hN4 hH4 hg1 hg2 hB4 hcl4 hput hbe2
                                  generalize lawP K nd G at_ ⟨t0, t1, t2, t3⟩ = y at *
                                  go_upto_region 65 with fail
                                  go_region_held3 (fun w' => w'.cell? ⟨tb, 0, none⟩ = some (.int .i64 t0) ∧ w'.cell? ⟨tb, 1, none⟩ = some (.int .i64 t1) ∧ w'.cell? ⟨tb, 2, none⟩ = some (.string t2) ∧ w'.cell? ⟨tb, 3, none⟩ = some (.int .i64 t3) ∧ w'.cell? ⟨ab, ao + i, none⟩ = some (.int .i64 at_)) (refine ⟨?_, ?_, ?_, ?_, ?_⟩ <;> (first | assumption | (go_simp; done) | (rw [hcl8 _ _ (by first | (simp; done) | (simp; omega) | omega) (by first | (left; omega) | (right; rfl))]; first | assumption | (go_simp; done)) | go_keep)) ((go_at_call 24; (with_reducible refine (HPx.out _ (by exact belz)).mono ?_); rintro e w8 ⟨rfl, hPO, hcl8, hb⟩; have hz := hb.size; (try simp only [szA, szS, szD, szN] at hz); (try (refine bcB (n := wc.heap.size) hb ?_; intro h_wc_0 e_wc_0 d_wc_0 _ _))))
                                  have hw : IntKind.i64.wrap ((i : Int) + 1) = (i : Int) + 1 := IntWalk.i64_in _ (by unfold maxLen at hll; omega)
                                  go_wp2_with fail
                                  go_roundg (L.length - (i + 1))
                                  case measure => omega
                                  case rel =>
                                    obtain ⟨rows', G'', hfin⟩ := fin_put (w1 := wc.drew) HN4.out HH4.out HP3.out.agr h8 HB4.out HP3.out.b0 HP3.out.b1 hb24 HPt.out HG1.out HG2.out (by exact belz) hPO
                                    exact ⟨i + 1, vh, rows', rb, qb, hc, G'', by omega, by go_num, rfl, hfin⟩
                        · have da := decide_eq_true (show (A.length : Int) ≤ (i : Int) by omega)
                          go_wp2_with fail
                          go_meet
                          case rel => exact ⟨vh, rows, rb, qb, hc, G, rfl, HP.out.kept (by (clear hbel; exact belz))⟩
                      · obtain rfl : i = L.length := by omega
                        go_wp2_with fail
                        go_meet
                        case rel => exact ⟨vh, rows, rb, qb, hc, G, rfl, HP.out⟩
              case rest =>
                as_aux_lemma =>
                  obtain ⟨vh, rows, rb, qb, hc, G, rfl, hpl⟩ := hcut
                  have HP := Lib.hid hpl
                  have hbel := hpl.below
                  have hzw := hbel.size
                  clear hpl HP0
                  obtain ⟨W9, rfl⟩ : ∃ W9 : World, W9 = wc := ⟨_, rfl⟩
                  go_wp2_with fail
                  go_loopg [286] nd (fun gk x286 wr => ∃ k : Nat, gk + k = nd ∧ x286 = .int .i64 k ∧ Below W9.heap.size W9 wr)
                  case atStart => exact ⟨0, by omega, rfl, Below.refl _ _⟩
                  case round =>
                    as_aux_lemma =>
                      obtain ⟨k, hk, rfl, hb9⟩ := hrel
                      by_cases hlk : k < nd
                      · have ixh := @ix_H8 qb nd hc k hlk
                        have HRg := Lib.hid ((HP.out.held.kept hb9).range k hlk)
                        obtain ⟨wo, rfl⟩ : ∃ wo : World, wo = wr := ⟨_, rfl⟩
                        go_wp2_with (refine wpList_load_mid rfl 49 (.tmp 291) rfl qb (k * 32) rfl (c8 (G k)) _ HRg.out Tryd.underlying49 rfl (by rw [c8_len]; kernel_rfl) ?_)
                        go_loopg [293] 8 (fun gk x293 wr => ∃ a : Nat, gk + a = 8 ∧ x293 = .int .i64 a ∧ Below W9.heap.size W9 wr)
                        case atStart => exact ⟨0, by omega, rfl, hb9⟩
                        case round =>
                          as_aux_lemma =>
                            obtain ⟨a, ha, rfl, hba⟩ := hrel
                            have hz9 := hba.size
                            by_cases hla : a < 8
                            · have ixa := ix8 (G k) a hla
                              have hsm := HP.out.agr.same k a hlk hla
                              have hln := HP.out.agr.len
                              have hhd := fun w1 (q : Below W9.heap.size W9 w1) => c_HeldN (k : Int) (a : Int) w1 (HP.out.net.below q) (by omega)
                              unfold heldV at hhd
                              rw [if_neg (fun h => h ⟨by omega, by omega⟩), Int.toNat_natCast, Int.toNat_natCast] at hhd
                              by_cases hak : a < K.length
                              · rw [if_pos hak] at hsm
                                rw [if_neg (fun h => h ⟨by omega, by omega⟩), ← hsm] at hhd
                                generalize G k a = t at *
                                obtain ⟨t0, t1, t2, t3⟩ := t
                                dsimp only at hhd
                                by_cases hz : t1 = 0
                                · subst hz
                                  rw [if_pos rfl] at hhd
                                  have HHd := Lib.hid hhd
                                  have heq := eqNt zNt zNt
                                  rw [ntEq_self] at heq
                                  unfold zNt at heq
                                  dsimp only at heq
                                  clear hhd hsm
                                  go_wp2_with (go_at_call 25; (with_reducible refine (HHd.out _ (by exact belz)).mono ?_); rintro e w5 ⟨rfl, hb⟩; have hz := hb.size; (try simp only [szA, szS, szD, szN] at hz); (try (refine bcB (n := wr.heap.size) hb ?_; intro h_wr_0 e_wr_0 d_wr_0 _ _)))
                                  go_roundg (8 - (a + 1))
                                  case measure => omega
                                  case rel => exact ⟨a + 1, by omega, by go_num, by exact belz⟩
                                · rw [if_neg hz] at hhd
                                  have hz0 : (t1 == 0) = false := by simpa using hz
                                  have HHd := Lib.hid hhd
                                  have heq := eqNt ⟨t0, t1, t2, t3⟩ ⟨t0, t1, t2, t3⟩
                                  rw [ntEq_self] at heq
                                  dsimp only at heq
                                  clear hhd hsm
                                  go_wp2_with (go_at_call 25; (with_reducible refine (HHd.out _ (by exact belz)).mono ?_); rintro e w5 ⟨rfl, hb⟩; have hz := hb.size; (try simp only [szA, szS, szD, szN] at hz); (try (refine bcB (n := wr.heap.size) hb ?_; intro h_wr_0 e_wr_0 d_wr_0 _ _)))
                                  go_roundg (8 - (a + 1))
                                  case measure => omega
                                  case rel => exact ⟨a + 1, by omega, by go_num, by exact belz⟩
                              · rw [if_pos (fun h => hak (by omega))] at hhd
                                generalize G k a = t at *
                                obtain ⟨t0, t1, t2, t3⟩ := t
                                have HHd := Lib.hid hhd
                                have heq := eqNt zNt zNt
                                rw [ntEq_self] at heq
                                unfold zNt at heq
                                dsimp only at heq
                                clear hhd hsm
                                go_wp2_with (go_at_call 25; (with_reducible refine (HHd.out _ (by exact belz)).mono ?_); rintro e w5 ⟨rfl, hb⟩; have hz := hb.size; (try simp only [szA, szS, szD, szN] at hz); (try (refine bcB (n := wr.heap.size) hb ?_; intro h_wr_0 e_wr_0 d_wr_0 _ _)))
                                go_roundg (8 - (a + 1))
                                case measure => omega
                                case rel => exact ⟨a + 1, by omega, by go_num, by exact belz⟩
                            · obtain rfl : a = 8 := by omega
                              go_wp2_with fail
                              go_roundg (nd - (k + 1))
                              case measure => omega
                              case rel => exact ⟨k + 1, by omega, by go_num, hba⟩
                      · obtain rfl : k = nd := by omega
                        go_wp2_with fail
                        go_ret
                        exact ⟨rfl, hbel.trans (hb9.mono hzw)⟩
end Go.Proofs.YtbcehnhiedbbbaaDoor
