/- The walk through the law TrigArcs where Arc answers an interval. -/
import Derived.Test.YtffnmfcaoldlhaaDoorWalkTAL
set_option linter.unusedVariables false
set_option linter.unusedSimpArgs false
namespace Go.Proofs.YtffnmfcaoldlhaaDoor
open Go.RowKit
set_option maxRecDepth 100000 in
set_option maxHeartbeats 16000000 in
theorem walk_arcs_fine (yl yh xl xh L H : Int) (w : World) (ht : Tab w) (hy : spanErr yl yh = 0) (hx : spanErr xl xh = 0) (hzz : ¬ (yl ≤ 0 ∧ 0 ≤ yh ∧ xl ≤ 0 ∧ 0 ≤ xh)) (HA0 : ∀ w1, Calls Tryd.prog 23 #[.agg #[.int .i64 yl, .int .i64 yh], .agg #[.int .i64 xl, .int .i64 xh]] w1 fun e w' => e = .returned (.tuple #[.agg #[.int .i64 L, .int .i64 H], .int .i64 0]) ∧ Below w1.heap.size w1 w')
    (r1 : -1000000000000000000 ≤ yl) (r2 : yl ≤ yh) (r3 : yh ≤ 1000000000000000000) (r4 : -1000000000000000000 ≤ xl) (r5 : xl ≤ xh) (r6 : xh ≤ 1000000000000000000)
    (l0 : 0 ≤ L) (l1 : L < 1000000000) (l2 : L ≤ H) (l3 : H - L ≤ 400000000)
    (hin : ∀ p q u v K : Int, (p = yl ∨ p = yh) → (q = xl ∨ q = xh) → 1 ≤ K → u = K * p → v = K * q → -1160000000000000000 ≤ u → u ≤ 1160000000000000000 → -1160000000000000000 ≤ v → v ≤ 1160000000000000000 → InArcOk L (H % 1000000000) u v)
    (hnar : yl = yh → xl = xh → H - L ≤ 3) :
    Calls Tryd.prog 4 #[.agg #[.int .i64 yl, .int .i64 yh], .agg #[.int .i64 xl, .int .i64 xh]] w fun e w' => e = .returned (.bool true) ∧ Below w.heap.size w w' := by
  have HT := Lib.hid ht
  have HA := Lib.hid HA0
  have HE := Lib.hid (fun w1 => c_TwoErr yl yh xl xh w1)
  rw [show twoE yl yh xl xh = 0 by unfold twoE; rw [if_pos hy, hx]] at HE
  have HIN := Lib.hid hin
  have HNA := Lib.hid hnar
  clear hy hx ht HA0 hin hnar
  have hgen := sgen; have hgen2 := sgen2; have hgen3 := sgen3; go_enter Tryd.func4, Tryd.ntmps4
  go_upto_region 7 with (first | (go_at_call 15; (refine (c_trigWorks _ (HT.out.below (by (repeat' (first | (with_reducible exact Below.refl _ _) | (with_reducible assumption) | (with_reducible refine Below.call ?_ ?_ (by with_reducible assumption)) | (with_reducible refine Below.alloc ?_ ?_ _) | (with_reducible refine Below.drew ?_) | (with_reducible refine below_drewN ?_ _) | (with_reducible refine Below.setCell ?_ ?_ _) | (with_reducible exact Nat.le_refl _) | omega | (simp only [World.size_alloc, World.size_setCell, World.size_drew, World.heap_drewN] at *; omega)))))).mono ?_); rintro e w1 ⟨rfl, hb⟩; have hz := hb.size; (try simp only [World.size_alloc, World.size_setCell, World.size_drew, World.heap_drewN] at hz); (try have h_w_0 : w.heap.size < w1.heap.size := by omega); (try have e_w_0 : ¬ w.heap.size = w1.heap.size := by omega); (try have d_w_0 : ¬ w1.heap.size = w.heap.size := by omega); (try (refine bcUse (n := w.heap.size) hb ?_ ?_; (focus ((try simp only [World.size_alloc, World.size_setCell, World.size_drew, World.heap_drewN]); omega)); intro _ _)); (try have h_w_1 : w.heap.size + 1 < w1.heap.size := by omega); (try have e_w_1 : ¬ w.heap.size + 1 = w1.heap.size := by omega); (try have d_w_1 : ¬ w1.heap.size = w.heap.size + 1 := by omega); (try (refine bcUse (n := w.heap.size + 1) hb ?_ ?_; (focus ((try simp only [World.size_alloc, World.size_setCell, World.size_drew, World.heap_drewN]); omega)); intro _ _))) | (go_at_call 23; (refine (HA.out _).mono ?_); rintro e w2 ⟨rfl, hb⟩; have hz := hb.size; (try simp only [World.size_alloc, World.size_setCell, World.size_drew, World.heap_drewN] at hz); (try have h_w_0 : w.heap.size < w2.heap.size := by omega); (try have e_w_0 : ¬ w.heap.size = w2.heap.size := by omega); (try have d_w_0 : ¬ w2.heap.size = w.heap.size := by omega); (try (refine bcUse (n := w.heap.size) hb ?_ ?_; (focus ((try simp only [World.size_alloc, World.size_setCell, World.size_drew, World.heap_drewN]); omega)); intro _ _)); (try have h_w_1 : w.heap.size + 1 < w2.heap.size := by omega); (try have e_w_1 : ¬ w.heap.size + 1 = w2.heap.size := by omega); (try have d_w_1 : ¬ w2.heap.size = w.heap.size + 1 := by omega); (try (refine bcUse (n := w.heap.size + 1) hb ?_ ?_; (focus ((try simp only [World.size_alloc, World.size_setCell, World.size_drew, World.heap_drewN]); omega)); intro _ _)); (try have h_w1_0 : w1.heap.size < w2.heap.size := by omega); (try have e_w1_0 : ¬ w1.heap.size = w2.heap.size := by omega); (try have d_w1_0 : ¬ w2.heap.size = w1.heap.size := by omega); (try (refine bcUse (n := w1.heap.size) hb ?_ ?_; (focus ((try simp only [World.size_alloc, World.size_setCell, World.size_drew, World.heap_drewN]); omega)); intro _ _))) | (go_at_call 24; (refine (HE.out _).mono ?_); rintro e w3 ⟨rfl, hb⟩; have hz := hb.size; (try simp only [World.size_alloc, World.size_setCell, World.size_drew, World.heap_drewN] at hz); (try have h_w_0 : w.heap.size < w3.heap.size := by omega); (try have e_w_0 : ¬ w.heap.size = w3.heap.size := by omega); (try have d_w_0 : ¬ w3.heap.size = w.heap.size := by omega); (try (refine bcUse (n := w.heap.size) hb ?_ ?_; (focus ((try simp only [World.size_alloc, World.size_setCell, World.size_drew, World.heap_drewN]); omega)); intro _ _)); (try have h_w_1 : w.heap.size + 1 < w3.heap.size := by omega); (try have e_w_1 : ¬ w.heap.size + 1 = w3.heap.size := by omega); (try have d_w_1 : ¬ w3.heap.size = w.heap.size + 1 := by omega); (try (refine bcUse (n := w.heap.size + 1) hb ?_ ?_; (focus ((try simp only [World.size_alloc, World.size_setCell, World.size_drew, World.heap_drewN]); omega)); intro _ _)); (try have h_w1_0 : w1.heap.size < w3.heap.size := by omega); (try have e_w1_0 : ¬ w1.heap.size = w3.heap.size := by omega); (try have d_w1_0 : ¬ w3.heap.size = w1.heap.size := by omega); (try (refine bcUse (n := w1.heap.size) hb ?_ ?_; (focus ((try simp only [World.size_alloc, World.size_setCell, World.size_drew, World.heap_drewN]); omega)); intro _ _)); (try have h_w2_0 : w2.heap.size < w3.heap.size := by omega); (try have e_w2_0 : ¬ w2.heap.size = w3.heap.size := by omega); (try have d_w2_0 : ¬ w3.heap.size = w2.heap.size := by omega); (try (refine bcUse (n := w2.heap.size) hb ?_ ?_; (focus ((try simp only [World.size_alloc, World.size_setCell, World.size_drew, World.heap_drewN]); omega)); intro _ _))))
  go_cut [48] (fun s wc => s = .bool false ∧ wc = w3)
  case first =>
    clear HA HE HIN HNA
    by_cases h1 : yl ≤ 0
    · by_cases h2 : 0 ≤ yh
      · by_cases h3 : xl ≤ 0
        · have h4 : ¬ 0 ≤ xh := fun h4 => hzz ⟨h1, h2, h3, h4⟩
          have g1 : decide (yl ≤ 0) = true := decide_eq_true h1
          have g2 : decide (0 ≤ yh) = true := decide_eq_true h2
          have g3 : decide (xl ≤ 0) = true := decide_eq_true h3
          have g4 : decide (0 ≤ xh) = false := decide_eq_false h4
          go_wp2
          go_meet
          case rel => exact ⟨rfl, rfl⟩
        · have g1 : decide (yl ≤ 0) = true := decide_eq_true h1
          have g2 : decide (0 ≤ yh) = true := decide_eq_true h2
          have g3 : decide (xl ≤ 0) = false := decide_eq_false h3
          go_wp2
          go_meet
          case rel => exact ⟨rfl, rfl⟩
      · have g1 : decide (yl ≤ 0) = true := decide_eq_true h1
        have g2 : decide (0 ≤ yh) = false := decide_eq_false h2
        go_wp2
        go_meet
        case rel => exact ⟨rfl, rfl⟩
    · have g1 : decide (yl ≤ 0) = false := decide_eq_false h1
      go_wp2
      go_meet
      case rel => exact ⟨rfl, rfl⟩
  case rest =>
    obtain ⟨rfl, rfl⟩ := hcut
    clear HA HE
    obtain ⟨wo, rfl⟩ : ∃ wo : World, wo = wc := ⟨_, rfl⟩
    go_wp2_with fail
    go_loopg [77] 2 (fun gk i wr => ∃ j : Nat, gk + j = 2 ∧ i = .int .i64 j ∧ Below wo.heap.size wo wr ∧ wo.heap.size < wr.heap.size ∧ wr.cell? ⟨wo.heap.size, 0, none⟩ = some (.int .i64 yl) ∧ wr.cell? ⟨wo.heap.size, 1, none⟩ = some (.int .i64 yh))
    case atStart => exact ⟨0, rfl, rfl, by (repeat' (first | (with_reducible exact Below.refl _ _) | (with_reducible assumption) | (with_reducible refine Below.call ?_ ?_ (by with_reducible assumption)) | (with_reducible refine Below.alloc ?_ ?_ _) | (with_reducible refine Below.drew ?_) | (with_reducible refine below_drewN ?_ _) | (with_reducible refine Below.setCell ?_ ?_ _) | (with_reducible exact Nat.le_refl _) | omega | (simp only [World.size_alloc, World.size_setCell, World.size_drew, World.heap_drewN] at *; omega))), by go_simp, by go_simp, by go_simp⟩
    case round =>
      obtain ⟨j, hj, rfl, hbr, hsz, c0, c1⟩ := hrel
      have hs0 := hbr.size
      refine bcUse (n := w.heap.size) hbr (by omega) ?_
      intro cA fA
      refine bcUse (n := w.heap.size + 1) hbr (by omega) ?_
      intro cB fB
      refine bcUse (n := w2.heap.size) hbr (by omega) ?_
      intro cC fC
      obtain ⟨ga, hga⟩ : ∃ ga : Nat, ga = gk := ⟨_, rfl⟩
      obtain ⟨wi, rfl⟩ : ∃ wi : World, wi = wr := ⟨_, rfl⟩
      have C0 := Lib.hid c0
      have C1 := Lib.hid c1
      have HBR := Lib.hid hbr
      by_cases hlt : j < 2
      · obtain ⟨p, hp, hcell⟩ : ∃ p, (p = yl ∨ p = yh) ∧ wi.cell? ⟨wo.heap.size, j, none⟩ = some (.int .i64 p) := by
          rcases (show j = 0 ∨ j = 1 by omega) with rfl | rfl
          · exact ⟨yl, .inl rfl, c0⟩
          · exact ⟨yh, .inr rfl, c1⟩
        have hpb : -1000000000000000000 ≤ p ∧ p ≤ 1000000000000000000 := by rcases hp with h | h <;> omega
        have HP := Lib.hid hp
        clear c0 c1 hbr hp
        rcases (show j = 0 ∨ j = 1 by omega) with rfl | rfl
        all_goals
          go_wp2_with fail
          go_loopg [87] 2 (fun gk i wr => ∃ m : Nat, gk + m = 2 ∧ i = .int .i64 m ∧ Below wi.heap.size wi wr ∧ wi.heap.size < wr.heap.size ∧ wr.cell? ⟨wi.heap.size, 0, none⟩ = some (.int .i64 xl) ∧ wr.cell? ⟨wi.heap.size, 1, none⟩ = some (.int .i64 xh))
          case atStart => exact ⟨0, rfl, rfl, by (repeat' (first | (with_reducible exact Below.refl _ _) | (with_reducible assumption) | (with_reducible refine Below.call ?_ ?_ (by with_reducible assumption)) | (with_reducible refine Below.alloc ?_ ?_ _) | (with_reducible refine Below.drew ?_) | (with_reducible refine below_drewN ?_ _) | (with_reducible refine Below.setCell ?_ ?_ _) | (with_reducible exact Nat.le_refl _) | omega | (simp only [World.size_alloc, World.size_setCell, World.size_drew, World.heap_drewN] at *; omega))), by go_simp, by go_simp, by go_simp⟩
          case round =>
            obtain ⟨m, hm, rfl, hbi, hszi, e0, e1⟩ := hrel
            have hs1 := hbi.size
            refine bcUse (n := w.heap.size) hbi (by omega) ?_
            intro cA2 fA2
            refine bcUse (n := w.heap.size + 1) hbi (by omega) ?_
            intro cB2 fB2
            refine bcUse (n := w2.heap.size) hbi (by omega) ?_
            intro cC2 fC2
            refine bcUse (n := wo.heap.size) hbi (by omega) ?_
            intro cD2 fD2
            obtain ⟨gb, hgb⟩ : ∃ gb : Nat, gb = gk := ⟨_, rfl⟩
            obtain ⟨wj, rfl⟩ : ∃ wj : World, wj = wr := ⟨_, rfl⟩
            have HBI := Lib.hid hbi
            have E0 := Lib.hid e0
            have E1 := Lib.hid e1
            by_cases hlm : m < 2
            · obtain ⟨q, hq, hcell2⟩ : ∃ q, (q = xl ∨ q = xh) ∧ wj.cell? ⟨wi.heap.size, m, none⟩ = some (.int .i64 q) := by
                rcases (show m = 0 ∨ m = 1 by omega) with rfl | rfl
                · exact ⟨xl, .inl rfl, e0⟩
                · exact ⟨xh, .inr rfl, e1⟩
              have hqb : -1000000000000000000 ≤ q ∧ q ≤ 1000000000000000000 := by rcases hq with h | h <;> omega
              have hpq : p ≠ 0 ∨ q ≠ 0 := by
                rcases HP.out with h | h <;> rcases hq with h' | h' <;> omega
              have HQ := Lib.hid hq
              clear e0 e1 hbi hq
              rcases (show m = 0 ∨ m = 1 by omega) with rfl | rfl
              all_goals
                go_wp2_with fail
                obtain ⟨gc, hgc⟩ : ∃ gc : Nat, gc = 2000000000000000000 - (p.natAbs + q.natAbs) := ⟨_, rfl⟩
                go_loopg [12, 13] gc (fun gk s12 s13 wr => ∃ K u v : Int, s12 = .int .i64 u ∧ s13 = .int .i64 v ∧ 1 ≤ K ∧ u = K * p ∧ v = K * q ∧ -1000000000000000000 ≤ u ∧ u ≤ 1000000000000000000 ∧ -1000000000000000000 ≤ v ∧ v ≤ 1000000000000000000 ∧ (u ≠ 0 ∨ v ≠ 0) ∧ gk = 2000000000000000000 - (u.natAbs + v.natAbs) ∧ wr = wj)
                case atStart => exact ⟨1, p, q, rfl, rfl, by omega, by omega, by omega, hpb.1, hpb.2, hqb.1, hqb.2, hpq, hgc, rfl⟩
                case round =>
                  obtain ⟨K, u, v, rfl, rfl, K1, eu, ev, u1, u2, v1, v2, hnz, hgk, rfl⟩ := hrel
                  by_cases hu : u < -288230376151711744 ∨ 288230376151711744 < u
                  · have BU := Lib.hid (fun w1 => c_beyond1 u 288230376151711744 w1 hu (by omega) (by omega))
                    have BV := Lib.hid (fun w1 => c_beyond1 u 288230376151711744 w1 hu (by omega) (by omega))
                    have EU := Lib.hid (HIN.out p q u v K HP.out HQ.out K1 eu ev (by omega) (by omega) (by omega) (by omega))
                    have HX := Lib.hid (fun w1 => c_InArc1 L H u v w1 l0 l1 l2 l3 EU.out (by omega) (by omega) (by omega) (by omega))
                    clear eu ev EU
                    go_wp2_with (first | (go_at_call 18; (first | (with_reducible refine (BU.out _).mono ?_) | (with_reducible refine (BV.out _).mono ?_)); rintro e w' ⟨rfl, rfl⟩) | (go_at_call 25; (refine (HX.out _).mono ?_); rintro e w5 ⟨rfl, hb⟩; have hz := hb.size; (try simp only [World.size_alloc, World.size_setCell, World.size_drew, World.heap_drewN] at hz); (try have h_w_0 : w.heap.size < w5.heap.size := by omega); (try have e_w_0 : ¬ w.heap.size = w5.heap.size := by omega); (try have d_w_0 : ¬ w5.heap.size = w.heap.size := by omega); (try (refine bcUse (n := w.heap.size) hb ?_ ?_; (focus ((try simp only [World.size_alloc, World.size_setCell, World.size_drew, World.heap_drewN]); omega)); intro _ _)); (try have h_w_1 : w.heap.size + 1 < w5.heap.size := by omega); (try have e_w_1 : ¬ w.heap.size + 1 = w5.heap.size := by omega); (try have d_w_1 : ¬ w5.heap.size = w.heap.size + 1 := by omega); (try (refine bcUse (n := w.heap.size + 1) hb ?_ ?_; (focus ((try simp only [World.size_alloc, World.size_setCell, World.size_drew, World.heap_drewN]); omega)); intro _ _)); (try have h_w2_0 : w2.heap.size < w5.heap.size := by omega); (try have e_w2_0 : ¬ w2.heap.size = w5.heap.size := by omega); (try have d_w2_0 : ¬ w5.heap.size = w2.heap.size := by omega); (try (refine bcUse (n := w2.heap.size) hb ?_ ?_; (focus ((try simp only [World.size_alloc, World.size_setCell, World.size_drew, World.heap_drewN]); omega)); intro _ _)); (try have h_wo_0 : wo.heap.size < w5.heap.size := by omega); (try have e_wo_0 : ¬ wo.heap.size = w5.heap.size := by omega); (try have d_wo_0 : ¬ w5.heap.size = wo.heap.size := by omega); (try (refine bcUse (n := wo.heap.size) hb ?_ ?_; (focus ((try simp only [World.size_alloc, World.size_setCell, World.size_drew, World.heap_drewN]); omega)); intro _ _)); (try have h_wi_0 : wi.heap.size < w5.heap.size := by omega); (try have e_wi_0 : ¬ wi.heap.size = w5.heap.size := by omega); (try have d_wi_0 : ¬ w5.heap.size = wi.heap.size := by omega); (try (refine bcUse (n := wi.heap.size) hb ?_ ?_; (focus ((try simp only [World.size_alloc, World.size_setCell, World.size_drew, World.heap_drewN]); omega)); intro _ _)); (try have h_wj_0 : wj.heap.size < w5.heap.size := by omega); (try have e_wj_0 : ¬ wj.heap.size = w5.heap.size := by omega); (try have d_wj_0 : ¬ w5.heap.size = wj.heap.size := by omega); (try (refine bcUse (n := wj.heap.size) hb ?_ ?_; (focus ((try simp only [World.size_alloc, World.size_setCell, World.size_drew, World.heap_drewN]); omega)); intro _ _))))
                    go_roundg (gb - 1)
                    case measure => omega
                    case rel =>
                      clear hcell2
                      have B1 := HBI.out
                      have F0 := E0.out
                      have F1 := E1.out
                      refine ⟨_ + 1, ?_, rfl, ?_, ?_, ?_, ?_⟩
                      · omega
                      · (repeat' (first | (with_reducible exact Below.refl _ _) | (with_reducible assumption) | (with_reducible refine Below.call ?_ ?_ (by with_reducible assumption)) | (with_reducible refine Below.alloc ?_ ?_ _) | (with_reducible refine Below.drew ?_) | (with_reducible refine below_drewN ?_ _) | (with_reducible refine Below.setCell ?_ ?_ _) | (with_reducible exact Nat.le_refl _) | omega | (simp only [World.size_alloc, World.size_setCell, World.size_drew, World.heap_drewN] at *; omega)))
                      · omega
                      · go_simp
                      · go_simp
                  · by_cases hv : v < -288230376151711744 ∨ 288230376151711744 < v
                    · have BU := Lib.hid (fun w1 => c_beyond0 u 288230376151711744 w1 (by omega) (by omega) (by omega) (by omega))
                      have BV := Lib.hid (fun w1 => c_beyond1 v 288230376151711744 w1 hv (by omega) (by omega))
                      have EU := Lib.hid (HIN.out p q u v K HP.out HQ.out K1 eu ev (by omega) (by omega) (by omega) (by omega))
                      have HX := Lib.hid (fun w1 => c_InArc1 L H u v w1 l0 l1 l2 l3 EU.out (by omega) (by omega) (by omega) (by omega))
                      clear eu ev EU
                      go_wp2_with (first | (go_at_call 18; (first | (with_reducible refine (BU.out _).mono ?_) | (with_reducible refine (BV.out _).mono ?_)); rintro e w' ⟨rfl, rfl⟩) | (go_at_call 25; (refine (HX.out _).mono ?_); rintro e w5 ⟨rfl, hb⟩; have hz := hb.size; (try simp only [World.size_alloc, World.size_setCell, World.size_drew, World.heap_drewN] at hz); (try have h_w_0 : w.heap.size < w5.heap.size := by omega); (try have e_w_0 : ¬ w.heap.size = w5.heap.size := by omega); (try have d_w_0 : ¬ w5.heap.size = w.heap.size := by omega); (try (refine bcUse (n := w.heap.size) hb ?_ ?_; (focus ((try simp only [World.size_alloc, World.size_setCell, World.size_drew, World.heap_drewN]); omega)); intro _ _)); (try have h_w_1 : w.heap.size + 1 < w5.heap.size := by omega); (try have e_w_1 : ¬ w.heap.size + 1 = w5.heap.size := by omega); (try have d_w_1 : ¬ w5.heap.size = w.heap.size + 1 := by omega); (try (refine bcUse (n := w.heap.size + 1) hb ?_ ?_; (focus ((try simp only [World.size_alloc, World.size_setCell, World.size_drew, World.heap_drewN]); omega)); intro _ _)); (try have h_w2_0 : w2.heap.size < w5.heap.size := by omega); (try have e_w2_0 : ¬ w2.heap.size = w5.heap.size := by omega); (try have d_w2_0 : ¬ w5.heap.size = w2.heap.size := by omega); (try (refine bcUse (n := w2.heap.size) hb ?_ ?_; (focus ((try simp only [World.size_alloc, World.size_setCell, World.size_drew, World.heap_drewN]); omega)); intro _ _)); (try have h_wo_0 : wo.heap.size < w5.heap.size := by omega); (try have e_wo_0 : ¬ wo.heap.size = w5.heap.size := by omega); (try have d_wo_0 : ¬ w5.heap.size = wo.heap.size := by omega); (try (refine bcUse (n := wo.heap.size) hb ?_ ?_; (focus ((try simp only [World.size_alloc, World.size_setCell, World.size_drew, World.heap_drewN]); omega)); intro _ _)); (try have h_wi_0 : wi.heap.size < w5.heap.size := by omega); (try have e_wi_0 : ¬ wi.heap.size = w5.heap.size := by omega); (try have d_wi_0 : ¬ w5.heap.size = wi.heap.size := by omega); (try (refine bcUse (n := wi.heap.size) hb ?_ ?_; (focus ((try simp only [World.size_alloc, World.size_setCell, World.size_drew, World.heap_drewN]); omega)); intro _ _)); (try have h_wj_0 : wj.heap.size < w5.heap.size := by omega); (try have e_wj_0 : ¬ wj.heap.size = w5.heap.size := by omega); (try have d_wj_0 : ¬ w5.heap.size = wj.heap.size := by omega); (try (refine bcUse (n := wj.heap.size) hb ?_ ?_; (focus ((try simp only [World.size_alloc, World.size_setCell, World.size_drew, World.heap_drewN]); omega)); intro _ _))))
                      go_roundg (gb - 1)
                      case measure => omega
                      case rel =>
                        clear hcell2
                        have B1 := HBI.out
                        have F0 := E0.out
                        have F1 := E1.out
                        refine ⟨_ + 1, ?_, rfl, ?_, ?_, ?_, ?_⟩
                        · omega
                        · (repeat' (first | (with_reducible exact Below.refl _ _) | (with_reducible assumption) | (with_reducible refine Below.call ?_ ?_ (by with_reducible assumption)) | (with_reducible refine Below.alloc ?_ ?_ _) | (with_reducible refine Below.drew ?_) | (with_reducible refine below_drewN ?_ _) | (with_reducible refine Below.setCell ?_ ?_ _) | (with_reducible exact Nat.le_refl _) | omega | (simp only [World.size_alloc, World.size_setCell, World.size_drew, World.heap_drewN] at *; omega)))
                        · omega
                        · go_simp
                        · go_simp
                    · have BU := Lib.hid (fun w1 => c_beyond0 u 288230376151711744 w1 (by omega) (by omega) (by omega) (by omega))
                      have BV := Lib.hid (fun w1 => c_beyond0 v 288230376151711744 w1 (by omega) (by omega) (by omega) (by omega))
                      have eu2 : 2 * u = (2 * K) * p := by rw [eu]; grind
                      have ev2 : 2 * v = (2 * K) * q := by rw [ev]; grind
                      have EU := Lib.hid eu2
                      have EV := Lib.hid ev2
                      clear eu ev eu2 ev2
                      go_wp2_with (first | (go_at_call 18; (first | (with_reducible refine (BU.out _).mono ?_) | (with_reducible refine (BV.out _).mono ?_)); rintro e w' ⟨rfl, rfl⟩))
                      go_roundg (2000000000000000000 - ((2 * u).natAbs + (2 * v).natAbs))
                      case measure => omega
                      case rel => exact ⟨2 * K, 2 * u, 2 * v, rfl, rfl, by omega, EU.out, EV.out, by omega, by omega, by omega, by omega, by omega, rfl, rfl⟩
            · have hm2 : m = 2 := by omega
              subst hm2
              clear e0 e1
              go_wp2_with fail
              go_roundg (ga - 1)
              case measure => omega
              case rel =>
                clear hcell
                have B1 := HBI.out
                have B2 := HBR.out
                have F0 := C0.out
                have F1 := C1.out
                refine ⟨_ + 1, ?_, rfl, ?_, ?_, ?_, ?_⟩
                · omega
                · (repeat' (first | (with_reducible exact Below.refl _ _) | (with_reducible assumption) | (with_reducible refine Below.call ?_ ?_ (by with_reducible assumption)) | (with_reducible refine Below.alloc ?_ ?_ _) | (with_reducible refine Below.drew ?_) | (with_reducible refine below_drewN ?_ _) | (with_reducible refine Below.setCell ?_ ?_ _) | (with_reducible exact Nat.le_refl _) | omega | (simp only [World.size_alloc, World.size_setCell, World.size_drew, World.heap_drewN] at *; omega)))
                · omega
                · go_simp
                · go_simp
      · have hj2 : j = 2 := by omega
        subst hj2
        clear c0 c1
        by_cases hq1 : yl = yh
        · by_cases hq2 : xl = xh
          · have hn := HNA.out hq1 hq2
            have d1 : decide (H - L ≤ 3) = true := decide_eq_true hn
            have d2 : (yl != yh) = false := by simp; exact hq1
            have d3 : (xl != xh) = false := by simp; exact hq2
            clear hq1 hq2
            go_wp2_with fail
            go_ret
            refine ⟨rfl, ?_⟩
            (repeat' (first | (with_reducible exact Below.refl _ _) | (with_reducible assumption) | (with_reducible refine Below.call ?_ ?_ (by with_reducible assumption)) | (with_reducible refine Below.alloc ?_ ?_ _) | (with_reducible refine Below.drew ?_) | (with_reducible refine below_drewN ?_ _) | (with_reducible refine Below.setCell ?_ ?_ _) | (with_reducible exact Nat.le_refl _) | omega | (simp only [World.size_alloc, World.size_setCell, World.size_drew, World.heap_drewN] at *; omega)))
          · have d2 : (yl != yh) = false := by simp; exact hq1
            have d3 : (xl != xh) = true := by simp; exact hq2
            clear hq1 hq2
            go_wp2_with fail
            go_ret
            refine ⟨rfl, ?_⟩
            (repeat' (first | (with_reducible exact Below.refl _ _) | (with_reducible assumption) | (with_reducible refine Below.call ?_ ?_ (by with_reducible assumption)) | (with_reducible refine Below.alloc ?_ ?_ _) | (with_reducible refine Below.drew ?_) | (with_reducible refine below_drewN ?_ _) | (with_reducible refine Below.setCell ?_ ?_ _) | (with_reducible exact Nat.le_refl _) | omega | (simp only [World.size_alloc, World.size_setCell, World.size_drew, World.heap_drewN] at *; omega)))
        · have d2 : (yl != yh) = true := by simp; exact hq1
          clear hq1
          go_wp2_with fail
          go_ret
          refine ⟨rfl, ?_⟩
          (repeat' (first | (with_reducible exact Below.refl _ _) | (with_reducible assumption) | (with_reducible refine Below.call ?_ ?_ (by with_reducible assumption)) | (with_reducible refine Below.alloc ?_ ?_ _) | (with_reducible refine Below.drew ?_) | (with_reducible refine below_drewN ?_ _) | (with_reducible refine Below.setCell ?_ ?_ _) | (with_reducible exact Nat.le_refl _) | omega | (simp only [World.size_alloc, World.size_setCell, World.size_drew, World.heap_drewN] at *; omega)))
theorem span_rng {lo hi : Int} (h : spanErr lo hi = 0) : -1000000000000000000 ≤ lo ∧ lo ≤ hi ∧ hi ≤ 1000000000000000000 := by
  unfold spanErr at h
  repeat' split at h
  all_goals omega
theorem walk_arcs_any (yl yh xl xh : Int) (w : World) (ht : Tab w) : Calls Tryd.prog 4 #[.agg #[.int .i64 yl, .int .i64 yh], .agg #[.int .i64 xl, .int .i64 xh]] w fun e w' => e = .returned (.bool true) ∧ Below w.heap.size w w' := by
  by_cases he : twoE yl yh xl xh = 0
  · have hy : spanErr yl yh = 0 := by
      unfold twoE at he
      by_cases h : spanErr yl yh = 0
      · exact h
      · rw [if_neg h] at he; exact he
    have hx : spanErr xl xh = 0 := by unfold twoE at he; rw [if_pos hy] at he; exact he
    obtain ⟨r1, r2, r3⟩ := span_rng hy
    obtain ⟨r4, r5, r6⟩ := span_rng hx
    by_cases hzz : yl ≤ 0 ∧ 0 ≤ yh ∧ xl ≤ 0 ∧ 0 ≤ xh
    · exact walk_arcs_open yl yh xl xh w ht hy hx hzz.1 hzz.2.1 hzz.2.2.1 hzz.2.2.2
    · obtain ⟨hr, a1, a2, ⟨rl, e1⟩, ⟨rh, e2⟩, D0, E, L, H, hv⟩ := arc_run yl yh xl xh (by omega) (by omega) (by omega) (by omega) (by omega) (by omega) (by omega) (by omega) (fun y x hy hx => by rcases hy with rfl | rfl <;> rcases hx with rfl | rfl <;> omega)
      have f1 := fadd_of e1
      have f2 := fadd_of e2
      rw [f1] at a1
      rw [f2] at a2
      have k1 : arcLo yl yh xl xh = arLo rl := by unfold arcLo; rw [f1]
      have k2 : arcHi yl yh xl xh = arHi rh := by unfold arcHi; rw [f2]
      by_cases hw : 400000000 < arHi rh - arLo rl
      · refine walk_arcs_wide yl yh xl xh w ht hy hx hzz (fun w1 => c_Arc_ok yl yh xl xh w1 hy hx hzz hr e1 e2 a1 a2 0 0 11 (.inl ⟨hw, rfl, rfl, rfl⟩)) ?_
        by_cases h : yl < yh ∨ xl < xh
        · exact h
        · exfalso
          have q1 : yh = yl := by omega
          have q2 : xh = xl := by omega
          have := arc_narrow yl xl (by omega) (by omega) (by omega) (by omega) (by omega)
          rw [q1, q2] at k1 k2
          rw [k1, k2] at this
          omega
      · have hlo : arLo rl ≤ arHi rh := by
          have h1 := hv.lo1
          have h2 := hv.hi1
          have h3 := hv.l0
          have h4 := hv.g0
          rw [k1] at h1
          rw [k2] at h2
          have : ((arLo rl : Int) : Rat) ≤ ((arHi rh : Int) : Rat) := by grind
          exact Rat.intCast_le_intCast.1 this
        have m0 := Int.emod_nonneg (arLo rl) (show (1000000000 : Int) ≠ 0 by omega)
        have m1 := Int.emod_lt_of_pos (arLo rl) (show (0 : Int) < 1000000000 by omega)
        refine walk_arcs_fine yl yh xl xh (arLo rl % 1000000000) (arLo rl % 1000000000 + arHi rh - arLo rl) w ht hy hx hzz (fun w1 => c_Arc_ok yl yh xl xh w1 hy hx hzz hr e1 e2 a1 a2 _ _ 0 (.inr ⟨hw, rfl, rfl, rfl⟩)) r1 r2 r3 r4 r5 r6 m0 m1 (by omega) (by omega) ?_ ?_
        · intro p q u v K hp hq K1 eu ev u1 u2 v1 v2
          have hb := arc_corners hv (by rw [k1, k2]; omega) hp hq
          rw [k1, k2] at hb
          have eh : (arLo rl % 1000000000 + arHi rh - arLo rl) % 1000000000 = arHi rh % 1000000000 := by omega
          rw [eh]
          have K0 : (0 : Rat) ≤ (K : Rat) := by exact_mod_cast (show 0 ≤ K by omega)
          have hs := hb.scale K0
          have c1 : (K : Rat) * (q : Rat) = (v : Rat) := by rw [ev]; push_cast; rfl
          have c2 : (K : Rat) * (p : Rat) = (u : Rat) := by rw [eu]; push_cast; rfl
          rw [c1, c2] at hs
          exact inArc_of m0 m1 (Int.emod_nonneg _ (by omega)) (Int.emod_lt_of_pos _ (by omega)) hs u1 u2 v1 v2
        · intro q1 q2
          have := arc_narrow yl xl (by omega) (by omega) (by omega) (by omega) (by omega)
          rw [← q1, ← q2] at k1 k2
          rw [k1, k2] at this
          omega
  · exact walk_arcs_bad yl yh xl xh w ht he
end Go.Proofs.YtffnmfcaoldlhaaDoor
