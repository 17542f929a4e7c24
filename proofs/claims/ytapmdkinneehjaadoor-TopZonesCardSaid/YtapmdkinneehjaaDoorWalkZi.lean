/- The contract of zone.Instants. -/
import Derived.Test.YtapmdkinneehjaaDoorZnE
import Derived.Test.YtapmdkinneehjaaDoorWalkRd2
set_option linter.unusedVariables false
set_option linter.unusedSimpArgs false
namespace Go.Proofs.YtapmdkinneehjaaDoor
open Go.RowKit
theorem info_intZ : (Tryd.prog.info? 3).map (fun i => (i.zero, i.size, i.bytes)) = some (some (.int .i64 0), 1, 8) := by kernel_rfl
theorem icells_snocZ (L : List Int) (x : Int) : icells (L ++ [x]) = icells L ++ [.int .i64 x] := by simp [icells]
theorem zI_yes {f : Int} {l : List Zc} {loc : Int} {k : Nat} (h : candZ f l loc k = true) : zI f l loc (k + 1) = zI f l loc k ++ [loc - ofZ f l k] := by rw [zI, if_pos h]
theorem zI_no {f : Int} {l : List Zc} {loc : Int} {k : Nat} (h : candZ f l loc k = false) : zI f l loc (k + 1) = zI f l loc k := by rw [zI, if_neg (by rw [h]; decide)]
theorem own_form2 {w : World} {B : Nat} {e : TypeId} {sz : Nat} {v : Value} {n : Nat} {xs : List Value} (h : w.ownsRow B e sz v n xs) : ∃ a c, v = .slice a n c ∧ True := by
  rcases h.2 with ⟨rfl, h0⟩ | ⟨g, cap, cur, rfl, -⟩
  · exact ⟨none, 0, by rw [h0], trivial⟩
  · exact ⟨_, _, rfl, trivial⟩
theorem cand_of {f : Int} {l : List Zc} {loc : Int} {k : Nat} {b1 b2 b3 : Bool} (hi : instZ (loc - ofZ f l k) = b1) (hp : prB (prevZ l k) (loc - ofZ f l k) = b2) (hn : nxB l[k]? (loc - ofZ f l k) = b3) : candZ f l loc k = (b1 && (b2 && b3)) := by unfold candZ hereZ; rw [hi, hp, hn]
theorem pr_zero {l : List Zc} {u : Int} : prB (prevZ l 0) u = true := by rw [prevZ_zero]; rfl
theorem pr_succ {l : List Zc} {u : Int} {j : Nat} (hj : j < l.length) : prB (prevZ l (j + 1)) u = decide (l[j].t ≤ u) := by rw [prevZ_succ l j hj]; rfl
theorem nx_end {l : List Zc} {u : Int} {k : Nat} (h : k = l.length) : nxB l[k]? u = true := by rw [List.getElem?_eq_none (by omega)]; rfl
theorem nx_at {l : List Zc} {u : Int} {k : Nat} (h : k < l.length) : nxB l[k]? u = decide (u < l[k].t) := by rw [List.getElem?_eq_getElem h]; rfl
set_option maxRecDepth 100000 in
set_option maxHeartbeats 4000000 in
theorem c_zInst (nm : ByteArray) (f : Int) (a : Option Addr) (cap : Nat) (l : List Zc) (d m : Int) (w : World) (hsz : nm.size ≤ 9223372036854775807) (hc : l.length ≤ cap) (hs : ZcSlice w a l) (hwf : zWf l) (h : zE nm f l = 0) (hd : dayZ d = true) (m0 : 0 ≤ m) (m1 : m < 86400000) :
    Calls Tryd.prog 7 #[.agg #[.string nm, .int .i64 f, .slice a l.length cap], .int .i64 d, .int .i64 m] w fun e w' => ∃ va vc, e = .returned (.tuple #[.slice va (zI f l (d * 86400000 + m) (l.length + 1)).length vc, .int .i64 0]) ∧ w'.ownsRow (w.heap.size + 1) 3 1 (.slice va (zI f l (d * 86400000 + m) (l.length + 1)).length vc) (zI f l (d * 86400000 + m) (l.length + 1)).length (icells (zI f l (d * 86400000 + m) (l.length + 1))) ∧ Below w.heap.size w w' := by
  obtain ⟨k1, k2, k3, k4, k5⟩ := zE_ok h
  have hck := fun w1 (h1 : ZcSlice w1 a l) => c_zCheck nm f a cap l w1 hsz hc h1 hwf
  rw [h] at hck
  have HC := Lib.hid hck
  have HS := Lib.hid hs
  have hl := fun w1 => c_lineIsZ d w1
  rw [hd] at hl
  have HL := Lib.hid hl
  have HOf := Lib.hid (fun k => ofZ_le k2 (fun c hc => (k4 c hc).2.1) k)
  have HLe := Lib.hid (fun k => zI_len f l (d * 86400000 + m) k)
  obtain ⟨i0, hi0, iz0, iz1, iz2⟩ := info_parts info_intZ
  have hd2 : -4000000 ≤ d ∧ d ≤ 4000000 := by unfold dayZ at hd; simpa using hd
  obtain ⟨d1, d2⟩ := hd2
  have g1 : decide (m < 0) = false := decide_eq_false (by omega)
  have g2 : decide (86400000 ≤ m) = false := decide_eq_false (by omega)
  have v1 : IntKind.i64.wrap (d * 86400000) = d * 86400000 := IntWalk.i64_in _ (by omega)
  have v2 : IntKind.i64.wrap (d * 86400000 + m) = d * 86400000 + m := IntWalk.i64_in _ (by omega)
  have lo1 : -345600000000000 ≤ d * 86400000 + m := by omega
  have lo2 : d * 86400000 + m < 345600086400000 := by omega
  clear hck hs hwf h hd hl k1 k2 k4 k5
  have hgen := sgen; have hgen2 := sgen2; have hgen3 := sgen3; go_enter Tryd.func7, Tryd.ntmps7
  go_wp2_with (first | (go_at_call 10; (with_reducible refine (HC.out _ (HS.out.below (Nat.le_refl _) (by exact belz))).mono ?_); rintro e w1 ⟨rfl, hb⟩; have hz := hb.size; (try simp only [szA, szS, szD, szN] at hz); (try (refine bcB (n := w.heap.size) hb ?_; intro h_w_0 e_w_0 d_w_0 _ _)); (try (refine bcB (n := w.heap.size + 1) hb ?_; intro h_w_1 e_w_1 d_w_1 _ _))) | (go_at_call 21; (refine (HL.out _).mono ?_); rintro e w2 ⟨rfl, rfl⟩))
  generalize hloc : d * 86400000 + m = loc at *
  have HLoc := Lib.hid hloc
  clear hloc
  have hb0 : Below w.heap.size w w1 := by exact belz
  have hs0 : w.heap.size < w1.heap.size := by assumption
  have b1 : w1.cell? ⟨w.heap.size, 1, none⟩ = some (.int .i64 f) := by go_simp
  have b2 : w1.cell? ⟨w.heap.size, 2, none⟩ = some (.slice a l.length cap) := by go_simp
  have HB0 := Lib.hid hb0
  have hB1 := Lib.hid b1
  have hB2 := Lib.hid b2
  clear hb hb0
  go_loopg [10, 11] (l.length + 1) (fun gk x10 x11 wr => ∃ (k : Nat) (va : Option Addr) (vc : Nat), gk + k = l.length + 1 ∧ x10 = .slice va (zI f l loc k).length vc ∧ x11 = .int .i64 ((k : Int) - 1) ∧ wr.ownsRow (w.heap.size + 1) 3 1 (.slice va (zI f l loc k).length vc) (zI f l loc k).length (icells (zI f l loc k)) ∧ Below (w.heap.size + 1) w1 wr)
  case atStart => exact ⟨0, none, 0, by omega, rfl, rfl, World.ownsRow_nil _ _ _ _, Below.refl _ _⟩
  case round =>
    obtain ⟨k, va, vc, hk, rfl, rfl, hown, hbel⟩ := hrel
    have hszr := hbel.size
    have hbw : Below w.heap.size w wr := HB0.out.trans (hbel.mono (Nat.le_succ _))
    have e1 := (hbel.cell (p := ⟨w.heap.size, 1, none⟩) (Nat.lt_succ_self _)).trans hB1.out
    have e2 := (hbel.cell (p := ⟨w.heap.size, 2, none⟩) (Nat.lt_succ_self _)).trans hB2.out
    have HO := Lib.hid hown
    have HBel := Lib.hid hbel
    have hlen := HLe.out k
    obtain ⟨of1, of2⟩ := HOf.out k
    have hi := fun w1 => c_isInstZ (loc - ofZ f l k) w1 (by omega) (by omega)
    have v3 : IntKind.i64.wrap (loc - ofZ f l k) = loc - ofZ f l k := IntWalk.i64_in _ (by omega)
    clear hown hbel
    by_cases hend : k = l.length + 1
    · subst hend
      have g : decide (((l.length + 1 : Nat) : Int) - 1 < (l.length : Int)) = false := decide_eq_false (by omega)
      go_wp2_with fail
      refine bodyPost_ret (v := .tuple #[.slice va (zI f l loc (l.length + 1)).length vc, .int .i64 0]) (by simp only [results, Tryd.results7]; go_simp) rfl (by rw [HLoc.out]; exact ⟨va, vc, rfl, own_below HO.out (by exact belz), by exact belz⟩)
    · have hkl : k ≤ l.length := by omega
      obtain ⟨X, hX⟩ : ∃ X, X = ofZ f l k := ⟨_, rfl⟩
      rw [← hX] at hi v3 of1 of2
      have HX := Lib.hid hX
      cases hq : instZ (loc - X)
      case false =>
        have hN : zI f l loc (k + 1) = zI f l loc k := zI_no (by rw [hX] at hq; unfold candZ; rw [hq]; rfl)
        rw [hq] at hi
        have HI := Lib.hid hi
        have HN := Lib.hid hN
        clear hi hq hN hX
        by_cases hk0 : k = 0
        · subst hk0
          have hXf : f = X := by rw [HX.out, ofZ_zero]
          rw [show ((0 : Nat) : Int) - 1 = -1 from rfl]
          have g3 : decide ((-1 : Int) < (l.length : Int)) = true := decide_eq_true (by omega)
          subst hXf
          go_wp2_with (go_at_call 22; (refine (HI.out _).mono ?_); rintro e w2 ⟨rfl, nn, rfl⟩)
          go_roundg (l.length + 1 - (0 + 1))
          case measure => omega
          case rel => exact ⟨0 + 1, va, vc, by omega, by rw [HN.out], by (first | go_num | (congr 1; omega)), by rw [HN.out]; exact own_below HO.out (by exact belz), HBel.out.trans (Below.mono (show Below wr.heap.size wr _ from (by exact belz)) (by omega))⟩
        · obtain ⟨j, rfl⟩ : ∃ j, k = j + 1 := ⟨k - 1, by omega⟩
          have hjl : j < l.length := by omega
          obtain ⟨bbp, offp, hap, hbbp, yp0, yp1, -⟩ := (HS.out.below (Nat.le_refl _) hbw) (j) hjl
          have ixp := @ix_Zc a bbp offp l.length cap (j) hap hjl
          have hXo : X = l[j].o := by rw [HX.out, ofZ_succ f l j hjl]
          have hpr := pr_succ (l := l) (u := loc - X) hjl
          rw [show ((j + 1 : Nat) : Int) - 1 = (j : Int) by omega]
          have g3 : decide ((j : Int) < (l.length : Int)) = true := decide_eq_true (by omega)
          have g4 : decide ((0 : Int) ≤ (j : Int)) = true := decide_eq_true (by omega)
          have g5 : decide ((j : Int) < 0) = false := decide_eq_false (by omega)
          have g51 : ¬ ((j : Int) < 0) := by omega
          have vj : IntKind.i64.wrap ((j : Int) + 1) = (j : Int) + 1 := IntWalk.i64_in _ (by omega)
          clear hap
          generalize l[j] = cp at *
          obtain ⟨tp, op, lbp⟩ := cp
          dsimp only at yp0 yp1 hXo hpr
          subst hXo
          clear hpr
          go_wp2_with (go_at_call 22; (refine (HI.out _).mono ?_); rintro e w2 ⟨rfl, nn, rfl⟩)
          go_roundg (l.length + 1 - (j + 1 + 1))
          case measure => omega
          case rel => exact ⟨j + 1 + 1, va, vc, by omega, by rw [HN.out], by (first | go_num | (congr 1; omega)), by rw [HN.out]; exact own_below HO.out (by exact belz), HBel.out.trans (Below.mono (show Below wr.heap.size wr _ from (by exact belz)) (by omega))⟩
      case true =>
        rw [hq] at hi
        have HI := Lib.hid hi
        have HQ := Lib.hid hq
        clear hi hq hX
        by_cases hk0 : k = 0
        · subst hk0
          have hXf : f = X := by rw [HX.out, ofZ_zero]
          rw [show ((0 : Nat) : Int) - 1 = -1 from rfl]
          have g3 : decide ((-1 : Int) < (l.length : Int)) = true := decide_eq_true (by omega)
          subst hXf
          by_cases hke : 0 = l.length
          · have HN := Lib.hid (show zI f l loc (0 + 1) = zI f l loc (0) ++ [loc - f] by rw [zI_yes (cand_of (b1 := true) (b2 := true) (b3 := true) (by rw [← HX.out]; exact HQ.out) pr_zero (nx_end hke)), ← HX.out])
            have g6 : ((0 : Int) == (l.length : Int)) = true := beq_iff_eq.2 (by omega)
            have HKE := Lib.hid hke
            clear hke
            go_wp2_with (first | (go_at_call 22; (refine (HI.out _).mono ?_); rintro e w2 ⟨rfl, nn, rfl⟩) | (at_builtin; go_loud (refine wpList_append_own _ rfl (.tmp 87) (.tmp 89) 32 rfl (w.heap.size + 1) 3 i0 (.int .i64 0) 1 8 Tryd.underlying32 hi0 iz0 iz1 iz2 rfl (by decide) (.slice va (zI f l loc (0)).length vc) (zI f l loc (0)).length (icells (zI f l loc (0))) rfl (own_below HO.out (by exact belz)) ⟨wr.heap.size, 0, none⟩ 1 1 [.int .i64 (loc - f)] rfl rfl ?c1 ?c2 ?c3 ?c4 ?c5 ?_)))
            case c1 =>
              intro j9 u9 hj9
              match j9, hj9 with
              | 0, hj9 => simp at hj9; subst hj9; exact Lib.cell_of_heap (heap_alloc_new (wr.drewN nn) _) 0
            case c2 => intro u9 hu9; simp at hu9; subst hu9; rfl
            case c3 => unfold maxLen; omega
            case c4 => omega
            case c5 => simp; omega
            intro v' w7 ho7 hg7 _
            have hb7 : Below (w.heap.size + 1) w1 w7 := by
              refine HBel.out.trans (Below.grown ?_ hg7 ?_ ?_)
              · exact Below.mono (show Below wr.heap.size wr _ from (by exact belz)) (by omega)
              · simp; omega
              · intro q hq
                exact (own_ty HO.out q hq).1
            obtain ⟨va', vc', rfl, -⟩ := own_form2 ho7
            have HO7 := Lib.hid ho7
            have HB7 := Lib.hid hb7
            clear ho7 hg7 hb7
            go_wp2_with fail
            go_roundg (l.length + 1 - (0 + 1))
            case measure => omega
            case rel =>
              have eL : (zI f l loc (0 + 1)).length = (zI f l loc (0)).length + 1 := by rw [HN.out]; simp
              have hw := HO7.out
              refine ⟨0 + 1, _, _, by omega, by rw [eL], by (first | go_num | (congr 1; omega)), ?_, HB7.out⟩
              rw [eL, HN.out, icells_snocZ]
              exact hw
          · have hkl2 : 0 < l.length := by omega
            obtain ⟨bbn, offn, han, hbbn, yn0, yn1, -⟩ := (HS.out.below (Nat.le_refl _) hbw) (0) hkl2
            have ixn := @ix_Zc a bbn offn l.length cap (0) han hkl2
            have ixn : ∀ w, (Instr.indexAt 22 (.slice a l.length cap) (.int .i64 0)).run Tryd.prog w = .ok (.pointer (some ⟨bbn, offn + 0 * 3, none⟩)) w := ixn
            rw [Nat.zero_mul, Nat.add_zero] at ixn yn0 yn1
            have g6 : ((0 : Int) == (l.length : Int)) = false := beq_eq_false_iff_ne.2 (by omega)
            have g61 : ¬ (0 : Int) = (l.length : Int) := by omega
            have g62 : (0 : Int) < (l.length : Int) := by omega
            have hnx := nx_at (l := l) (u := loc - f) hkl2
            clear han
            generalize l[0] = cn at *
            obtain ⟨tn, on, lbn⟩ := cn
            dsimp only at yn0 yn1 hnx
            by_cases hn : loc - f < tn
            · have g7 := decide_eq_true hn
              have HN := Lib.hid (show zI f l loc (0 + 1) = zI f l loc (0) ++ [loc - f] by rw [zI_yes (cand_of (b1 := true) (b2 := true) (b3 := true) (by rw [← HX.out]; exact HQ.out) pr_zero (by rw [← HX.out]; exact hnx.trans g7)), ← HX.out])
              clear hnx
              go_wp2_with (first | (go_at_call 22; (refine (HI.out _).mono ?_); rintro e w2 ⟨rfl, nn, rfl⟩) | (at_builtin; go_loud (refine wpList_append_own _ rfl (.tmp 87) (.tmp 89) 32 rfl (w.heap.size + 1) 3 i0 (.int .i64 0) 1 8 Tryd.underlying32 hi0 iz0 iz1 iz2 rfl (by decide) (.slice va (zI f l loc (0)).length vc) (zI f l loc (0)).length (icells (zI f l loc (0))) rfl (own_below HO.out (by exact belz)) ⟨wr.heap.size, 0, none⟩ 1 1 [.int .i64 (loc - f)] rfl rfl ?c1 ?c2 ?c3 ?c4 ?c5 ?_)))
              case c1 =>
                intro j9 u9 hj9
                match j9, hj9 with
                | 0, hj9 => simp at hj9; subst hj9; exact Lib.cell_of_heap (heap_alloc_new (wr.drewN nn) _) 0
              case c2 => intro u9 hu9; simp at hu9; subst hu9; rfl
              case c3 => unfold maxLen; omega
              case c4 => omega
              case c5 => simp; omega
              intro v' w7 ho7 hg7 _
              have hb7 : Below (w.heap.size + 1) w1 w7 := by
                refine HBel.out.trans (Below.grown ?_ hg7 ?_ ?_)
                · exact Below.mono (show Below wr.heap.size wr _ from (by exact belz)) (by omega)
                · simp; omega
                · intro q hq
                  exact (own_ty HO.out q hq).1
              obtain ⟨va', vc', rfl, -⟩ := own_form2 ho7
              have HO7 := Lib.hid ho7
              have HB7 := Lib.hid hb7
              clear ho7 hg7 hb7
              go_wp2_with fail
              go_roundg (l.length + 1 - (0 + 1))
              case measure => omega
              case rel =>
                have eL : (zI f l loc (0 + 1)).length = (zI f l loc (0)).length + 1 := by rw [HN.out]; simp
                have hw := HO7.out
                refine ⟨0 + 1, _, _, by omega, by rw [eL], by (first | go_num | (congr 1; omega)), ?_, HB7.out⟩
                rw [eL, HN.out, icells_snocZ]
                exact hw
            · have g7 := decide_eq_false hn
              have HN := Lib.hid (show zI f l loc (0 + 1) = zI f l loc (0) by exact zI_no (cand_of (b1 := true) (b2 := true) (b3 := false) (by rw [← HX.out]; exact HQ.out) pr_zero (by rw [← HX.out]; exact hnx.trans g7)))
              clear hnx
              go_wp2_with (go_at_call 22; (refine (HI.out _).mono ?_); rintro e w2 ⟨rfl, nn, rfl⟩)
              go_roundg (l.length + 1 - (0 + 1))
              case measure => omega
              case rel => exact ⟨0 + 1, va, vc, by omega, by rw [HN.out], by (first | go_num | (congr 1; omega)), by rw [HN.out]; exact own_below HO.out (by exact belz), HBel.out.trans (Below.mono (show Below wr.heap.size wr _ from (by exact belz)) (by omega))⟩
        · obtain ⟨j, rfl⟩ : ∃ j, k = j + 1 := ⟨k - 1, by omega⟩
          have hjl : j < l.length := by omega
          obtain ⟨bbp, offp, hap, hbbp, yp0, yp1, -⟩ := (HS.out.below (Nat.le_refl _) hbw) (j) hjl
          have ixp := @ix_Zc a bbp offp l.length cap (j) hap hjl
          have hXo : X = l[j].o := by rw [HX.out, ofZ_succ f l j hjl]
          have hpr := pr_succ (l := l) (u := loc - X) hjl
          rw [show ((j + 1 : Nat) : Int) - 1 = (j : Int) by omega]
          have g3 : decide ((j : Int) < (l.length : Int)) = true := decide_eq_true (by omega)
          have g4 : decide ((0 : Int) ≤ (j : Int)) = true := decide_eq_true (by omega)
          have g5 : decide ((j : Int) < 0) = false := decide_eq_false (by omega)
          have g51 : ¬ ((j : Int) < 0) := by omega
          have vj : IntKind.i64.wrap ((j : Int) + 1) = (j : Int) + 1 := IntWalk.i64_in _ (by omega)
          clear hap
          generalize l[j] = cp at *
          obtain ⟨tp, op, lbp⟩ := cp
          dsimp only at yp0 yp1 hXo hpr
          subst hXo
          by_cases hp : tp ≤ loc - X
          · have g8 := decide_eq_true hp
            by_cases hke : j + 1 = l.length
            · have HN := Lib.hid (show zI f l loc (j + 1 + 1) = zI f l loc (j + 1) ++ [loc - X] by rw [zI_yes (cand_of (b1 := true) (b2 := true) (b3 := true) (by rw [← HX.out]; exact HQ.out) (by rw [← HX.out]; exact hpr.trans g8) (nx_end hke)), ← HX.out])
              have g6 : ((j : Int) + 1 == (l.length : Int)) = true := by (rw [beq_iff_eq]; omega)
              have HKE := Lib.hid hke
              clear hke
              go_wp2_with (first | (go_at_call 22; (refine (HI.out _).mono ?_); rintro e w2 ⟨rfl, nn, rfl⟩) | (at_builtin; go_loud (refine wpList_append_own _ rfl (.tmp 87) (.tmp 89) 32 rfl (w.heap.size + 1) 3 i0 (.int .i64 0) 1 8 Tryd.underlying32 hi0 iz0 iz1 iz2 rfl (by decide) (.slice va (zI f l loc (j + 1)).length vc) (zI f l loc (j + 1)).length (icells (zI f l loc (j + 1))) rfl (own_below HO.out (by exact belz)) ⟨wr.heap.size, 0, none⟩ 1 1 [.int .i64 (loc - X)] rfl rfl ?c1 ?c2 ?c3 ?c4 ?c5 ?_)))
              case c1 =>
                intro j9 u9 hj9
                match j9, hj9 with
                | 0, hj9 => simp at hj9; subst hj9; exact Lib.cell_of_heap (heap_alloc_new (wr.drewN nn) _) 0
              case c2 => intro u9 hu9; simp at hu9; subst hu9; rfl
              case c3 => unfold maxLen; omega
              case c4 => omega
              case c5 => simp; omega
              intro v' w7 ho7 hg7 _
              have hb7 : Below (w.heap.size + 1) w1 w7 := by
                refine HBel.out.trans (Below.grown ?_ hg7 ?_ ?_)
                · exact Below.mono (show Below wr.heap.size wr _ from (by exact belz)) (by omega)
                · simp; omega
                · intro q hq
                  exact (own_ty HO.out q hq).1
              obtain ⟨va', vc', rfl, -⟩ := own_form2 ho7
              have HO7 := Lib.hid ho7
              have HB7 := Lib.hid hb7
              clear ho7 hg7 hb7
              go_wp2_with fail
              go_roundg (l.length + 1 - (j + 1 + 1))
              case measure => omega
              case rel =>
                have eL : (zI f l loc (j + 1 + 1)).length = (zI f l loc (j + 1)).length + 1 := by rw [HN.out]; simp
                have hw := HO7.out
                refine ⟨j + 1 + 1, _, _, by omega, by rw [eL], by (first | go_num | (congr 1; omega)), ?_, HB7.out⟩
                rw [eL, HN.out, icells_snocZ]
                exact hw
            · have hkl2 : j + 1 < l.length := by omega
              obtain ⟨bbn, offn, han, hbbn, yn0, yn1, -⟩ := (HS.out.below (Nat.le_refl _) hbw) (j + 1) hkl2
              have ixn := @ix_Zc a bbn offn l.length cap (j + 1) han hkl2
              have ixn : ∀ w, (Instr.indexAt 22 (.slice a l.length cap) (.int .i64 ((j : Int) + 1))).run Tryd.prog w = .ok (.pointer (some ⟨bbn, offn + (j + 1) * 3, none⟩)) w := ixn
              have g6 : ((j : Int) + 1 == (l.length : Int)) = false := beq_eq_false_iff_ne.2 (by omega)
              have g61 : ¬ (j : Int) + 1 = (l.length : Int) := by omega
              have g62 : (j : Int) + 1 < (l.length : Int) := by omega
              have g63 : (0 : Int) ≤ (j : Int) + 1 := by omega
              have hnx := nx_at (l := l) (u := loc - X) hkl2
              clear han
              generalize l[j + 1] = cn at *
              obtain ⟨tn, on, lbn⟩ := cn
              dsimp only at yn0 yn1 hnx
              by_cases hn : loc - X < tn
              · have g7 := decide_eq_true hn
                have HN := Lib.hid (show zI f l loc (j + 1 + 1) = zI f l loc (j + 1) ++ [loc - X] by rw [zI_yes (cand_of (b1 := true) (b2 := true) (b3 := true) (by rw [← HX.out]; exact HQ.out) (by rw [← HX.out]; exact hpr.trans g8) (by rw [← HX.out]; exact hnx.trans g7)), ← HX.out])
                clear hnx
                go_wp2_with (first | (go_at_call 22; (refine (HI.out _).mono ?_); rintro e w2 ⟨rfl, nn, rfl⟩) | (at_builtin; go_loud (refine wpList_append_own _ rfl (.tmp 87) (.tmp 89) 32 rfl (w.heap.size + 1) 3 i0 (.int .i64 0) 1 8 Tryd.underlying32 hi0 iz0 iz1 iz2 rfl (by decide) (.slice va (zI f l loc (j + 1)).length vc) (zI f l loc (j + 1)).length (icells (zI f l loc (j + 1))) rfl (own_below HO.out (by exact belz)) ⟨wr.heap.size, 0, none⟩ 1 1 [.int .i64 (loc - X)] rfl rfl ?c1 ?c2 ?c3 ?c4 ?c5 ?_)))
                case c1 =>
                  intro j9 u9 hj9
                  match j9, hj9 with
                  | 0, hj9 => simp at hj9; subst hj9; exact Lib.cell_of_heap (heap_alloc_new (wr.drewN nn) _) 0
                case c2 => intro u9 hu9; simp at hu9; subst hu9; rfl
                case c3 => unfold maxLen; omega
                case c4 => omega
                case c5 => simp; omega
                intro v' w7 ho7 hg7 _
                have hb7 : Below (w.heap.size + 1) w1 w7 := by
                  refine HBel.out.trans (Below.grown ?_ hg7 ?_ ?_)
                  · exact Below.mono (show Below wr.heap.size wr _ from (by exact belz)) (by omega)
                  · simp; omega
                  · intro q hq
                    exact (own_ty HO.out q hq).1
                obtain ⟨va', vc', rfl, -⟩ := own_form2 ho7
                have HO7 := Lib.hid ho7
                have HB7 := Lib.hid hb7
                clear ho7 hg7 hb7
                go_wp2_with fail
                go_roundg (l.length + 1 - (j + 1 + 1))
                case measure => omega
                case rel =>
                  have eL : (zI f l loc (j + 1 + 1)).length = (zI f l loc (j + 1)).length + 1 := by rw [HN.out]; simp
                  have hw := HO7.out
                  refine ⟨j + 1 + 1, _, _, by omega, by rw [eL], by (first | go_num | (congr 1; omega)), ?_, HB7.out⟩
                  rw [eL, HN.out, icells_snocZ]
                  exact hw
              · have g7 := decide_eq_false hn
                have HN := Lib.hid (show zI f l loc (j + 1 + 1) = zI f l loc (j + 1) by exact zI_no (cand_of (b1 := true) (b2 := true) (b3 := false) (by rw [← HX.out]; exact HQ.out) (by rw [← HX.out]; exact hpr.trans g8) (by rw [← HX.out]; exact hnx.trans g7)))
                clear hnx
                go_wp2_with (go_at_call 22; (refine (HI.out _).mono ?_); rintro e w2 ⟨rfl, nn, rfl⟩)
                go_roundg (l.length + 1 - (j + 1 + 1))
                case measure => omega
                case rel => exact ⟨j + 1 + 1, va, vc, by omega, by rw [HN.out], by (first | go_num | (congr 1; omega)), by rw [HN.out]; exact own_below HO.out (by exact belz), HBel.out.trans (Below.mono (show Below wr.heap.size wr _ from (by exact belz)) (by omega))⟩
          · have g8 := decide_eq_false hp
            have HN := Lib.hid (show zI f l loc (j + 1 + 1) = zI f l loc (j + 1) from zI_no (by rw [candZ, hereZ, ← HX.out, hpr, g8, Bool.false_and, Bool.and_false]))
            clear hpr
            go_wp2_with (go_at_call 22; (refine (HI.out _).mono ?_); rintro e w2 ⟨rfl, nn, rfl⟩)
            go_roundg (l.length + 1 - (j + 1 + 1))
            case measure => omega
            case rel => exact ⟨j + 1 + 1, va, vc, by omega, by rw [HN.out], by (first | go_num | (congr 1; omega)), by rw [HN.out]; exact own_below HO.out (by exact belz), HBel.out.trans (Below.mono (show Below wr.heap.size wr _ from (by exact belz)) (by omega))⟩
end Go.Proofs.YtapmdkinneehjaaDoor
