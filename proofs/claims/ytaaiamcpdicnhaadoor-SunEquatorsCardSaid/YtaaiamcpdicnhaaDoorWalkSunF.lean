/- The walk through the law SunEquators where the conversion is not open. -/
import Derived.Test.YtaaiamcpdicnhaaDoorWalkSunE
import Derived.Test.YtaaiamcpdicnhaaDoorWalkDir
set_option linter.unusedVariables false
set_option linter.unusedSimpArgs false
namespace Go.Proofs.YtaaiamcpdicnhaaDoor
open Go.RowKit
/-- The parts of a direction fit. -/
def DirB (l b : Int) : Prop := (-1160000000000000000 ≤ dirX l b ∧ dirX l b ≤ 1160000000000000000) ∧ (-1160000000000000000 ≤ dirY l b ∧ dirY l b ≤ 1160000000000000000) ∧ (-1160000000000000000 ≤ dirZ l b ∧ dirZ l b ≤ 1160000000000000000)
set_option maxRecDepth 100000 in
set_option maxHeartbeats 8000000 in
theorem walk_SE_fine (l0 l1 b0 b1 R0 R1 D0 D1 : Int) (w : World) (ht : Tab w) (hl : spanErr l0 l1 = 0) (hb : spanErr b0 b1 = 0) (r0 : -125000000 ≤ b0) (r1 : b1 ≤ 125000000) (rb : b0 ≤ b1) (rl0 : -1000000000000000000 ≤ l0) (rl1 : l1 ≤ 1000000000000000000) (rll : l0 ≤ l1)
    (HA0 : ∀ w, Tab w → Calls Tryd.prog 24 #[.agg #[.int .i64 l0, .int .i64 l1], .agg #[.int .i64 b0, .int .i64 b1]] w fun e w' => e = .returned (.tuple #[.agg #[.int .i64 R0, .int .i64 R1], .agg #[.int .i64 D0, .int .i64 D1], .int .i64 0]) ∧ Below w.heap.size w w')
    (q0 : 0 ≤ R0) (q1 : R0 < 1000000000) (q2 : R0 ≤ R1) (q3 : R1 - R0 ≤ 400000000) (p0 : -250000000 ≤ D0) (p1 : D0 ≤ D1) (p2 : D1 ≤ 250000000)
    (hin : ∀ l b : Int, (l = l0 ∨ l = l1) → (b = b0 ∨ b = b1) → InArcOk R0 (R1 % 1000000000) (dirY (l % 1000000000 * 1048576) (b * 1048576)) (dirX (l % 1000000000 * 1048576) (b * 1048576)) ∧ InAsin D0 D1 (dirZ (l % 1000000000 * 1048576) (b * 1048576)))
    (hbd : ∀ l b : Int, (l = l0 ∨ l = l1) → (b = b0 ∨ b = b1) → DirB (l % 1000000000 * 1048576) (b * 1048576)) :
    Calls Tryd.prog 5 #[.agg #[.int .i64 l0, .int .i64 l1], .agg #[.int .i64 b0, .int .i64 b1]] w fun e w' => e = .returned (.bool true) ∧ Below w.heap.size w w' := by
  have HT := Lib.hid ht
  have HA := Lib.hid HA0
  have HE := Lib.hid (fun w1 => c_TwoErr l0 l1 b0 b1 w1)
  rw [show twoE l0 l1 b0 b1 = 0 by unfold twoE; rw [if_pos hl, hb]] at HE
  have HIN := Lib.hid hin
  have HBD := Lib.hid hbd
  have g1 : decide (b0 < -125000000) = false := decide_eq_false (by omega)
  have g2 : decide (125000000 < b1) = false := decide_eq_false (by omega)
  clear hl hb ht HA0 hin hbd
  have hgen := sgen; have hgen2 := sgen2; have hgen3 := sgen3; go_enter Tryd.func5, Tryd.ntmps5
  go_upto_region 11 with (first | (go_at_call 22; (refine (c_sunWorks _ (HT.out.below (by (repeat' (first | (with_reducible exact Below.refl _ _) | (with_reducible assumption) | (with_reducible refine Below.call ?_ ?_ (by with_reducible assumption)) | (with_reducible refine Below.alloc ?_ ?_ _) | (with_reducible refine Below.drew ?_) | (with_reducible refine below_drewN ?_ _) | (with_reducible refine Below.setCell ?_ ?_ _) | (with_reducible exact Nat.le_refl _) | omega | (simp only [World.size_alloc, World.size_setCell, World.size_drew, World.heap_drewN] at *; omega)))))).mono ?_); rintro e w1 ⟨rfl, hb⟩; have hz := hb.size; (try simp only [World.size_alloc, World.size_setCell, World.size_drew, World.heap_drewN] at hz); (try have h_w_0 : w.heap.size < w1.heap.size := by omega); (try have e_w_0 : ¬ w.heap.size = w1.heap.size := by omega); (try have d_w_0 : ¬ w1.heap.size = w.heap.size := by omega); (try (refine bcUse (n := w.heap.size) hb ?_ ?_; (focus ((try simp only [World.size_alloc, World.size_setCell, World.size_drew, World.heap_drewN]); omega)); intro _ _)); (try have h_w_1 : w.heap.size + 1 < w1.heap.size := by omega); (try have e_w_1 : ¬ w.heap.size + 1 = w1.heap.size := by omega); (try have d_w_1 : ¬ w1.heap.size = w.heap.size + 1 := by omega); (try (refine bcUse (n := w.heap.size + 1) hb ?_ ?_; (focus ((try simp only [World.size_alloc, World.size_setCell, World.size_drew, World.heap_drewN]); omega)); intro _ _))) | (go_at_call 24; (refine (HA.out _ (HT.out.below (by (repeat' (first | (with_reducible exact Below.refl _ _) | (with_reducible assumption) | (with_reducible refine Below.call ?_ ?_ (by with_reducible assumption)) | (with_reducible refine Below.alloc ?_ ?_ _) | (with_reducible refine Below.drew ?_) | (with_reducible refine below_drewN ?_ _) | (with_reducible refine Below.setCell ?_ ?_ _) | (with_reducible exact Nat.le_refl _) | omega | (simp only [World.size_alloc, World.size_setCell, World.size_drew, World.heap_drewN] at *; omega)))))).mono ?_); rintro e w2 ⟨rfl, hb⟩; have hz := hb.size; (try simp only [World.size_alloc, World.size_setCell, World.size_drew, World.heap_drewN] at hz); (try have h_w_0 : w.heap.size < w2.heap.size := by omega); (try have e_w_0 : ¬ w.heap.size = w2.heap.size := by omega); (try have d_w_0 : ¬ w2.heap.size = w.heap.size := by omega); (try (refine bcUse (n := w.heap.size) hb ?_ ?_; (focus ((try simp only [World.size_alloc, World.size_setCell, World.size_drew, World.heap_drewN]); omega)); intro _ _)); (try have h_w_1 : w.heap.size + 1 < w2.heap.size := by omega); (try have e_w_1 : ¬ w.heap.size + 1 = w2.heap.size := by omega); (try have d_w_1 : ¬ w2.heap.size = w.heap.size + 1 := by omega); (try (refine bcUse (n := w.heap.size + 1) hb ?_ ?_; (focus ((try simp only [World.size_alloc, World.size_setCell, World.size_drew, World.heap_drewN]); omega)); intro _ _)); (try have h_w1_0 : w1.heap.size < w2.heap.size := by omega); (try have e_w1_0 : ¬ w1.heap.size = w2.heap.size := by omega); (try have d_w1_0 : ¬ w2.heap.size = w1.heap.size := by omega); (try (refine bcUse (n := w1.heap.size) hb ?_ ?_; (focus ((try simp only [World.size_alloc, World.size_setCell, World.size_drew, World.heap_drewN]); omega)); intro _ _))) | (go_at_call 25; (refine (HE.out _).mono ?_); rintro e w3 ⟨rfl, hb⟩; have hz := hb.size; (try simp only [World.size_alloc, World.size_setCell, World.size_drew, World.heap_drewN] at hz); (try have h_w_0 : w.heap.size < w3.heap.size := by omega); (try have e_w_0 : ¬ w.heap.size = w3.heap.size := by omega); (try have d_w_0 : ¬ w3.heap.size = w.heap.size := by omega); (try (refine bcUse (n := w.heap.size) hb ?_ ?_; (focus ((try simp only [World.size_alloc, World.size_setCell, World.size_drew, World.heap_drewN]); omega)); intro _ _)); (try have h_w_1 : w.heap.size + 1 < w3.heap.size := by omega); (try have e_w_1 : ¬ w.heap.size + 1 = w3.heap.size := by omega); (try have d_w_1 : ¬ w3.heap.size = w.heap.size + 1 := by omega); (try (refine bcUse (n := w.heap.size + 1) hb ?_ ?_; (focus ((try simp only [World.size_alloc, World.size_setCell, World.size_drew, World.heap_drewN]); omega)); intro _ _)); (try have h_w1_0 : w1.heap.size < w3.heap.size := by omega); (try have e_w1_0 : ¬ w1.heap.size = w3.heap.size := by omega); (try have d_w1_0 : ¬ w3.heap.size = w1.heap.size := by omega); (try (refine bcUse (n := w1.heap.size) hb ?_ ?_; (focus ((try simp only [World.size_alloc, World.size_setCell, World.size_drew, World.heap_drewN]); omega)); intro _ _)); (try have h_w2_0 : w2.heap.size < w3.heap.size := by omega); (try have e_w2_0 : ¬ w2.heap.size = w3.heap.size := by omega); (try have d_w2_0 : ¬ w3.heap.size = w2.heap.size := by omega); (try (refine bcUse (n := w2.heap.size) hb ?_ ?_; (focus ((try simp only [World.size_alloc, World.size_setCell, World.size_drew, World.heap_drewN]); omega)); intro _ _)); (try have h_w2_1 : w2.heap.size + 1 < w3.heap.size := by omega); (try have e_w2_1 : ¬ w2.heap.size + 1 = w3.heap.size := by omega); (try have d_w2_1 : ¬ w3.heap.size = w2.heap.size + 1 := by omega); (try (refine bcUse (n := w2.heap.size + 1) hb ?_ ?_; (focus ((try simp only [World.size_alloc, World.size_setCell, World.size_drew, World.heap_drewN]); omega)); intro _ _))))
  clear HA HE
  obtain ⟨wo, rfl⟩ : ∃ wo : World, wo = w3 := ⟨_, rfl⟩
  go_wp2_with fail
  go_loopg [73] 2 (fun gk i wr => ∃ j : Nat, gk + j = 2 ∧ i = .int .i64 j ∧ Below wo.heap.size wo wr ∧ wo.heap.size < wr.heap.size ∧ wr.cell? ⟨wo.heap.size, 0, none⟩ = some (.int .i64 l0) ∧ wr.cell? ⟨wo.heap.size, 1, none⟩ = some (.int .i64 l1))
  case atStart => exact ⟨0, rfl, rfl, by (repeat' (first | (with_reducible exact Below.refl _ _) | (with_reducible assumption) | (with_reducible refine Below.call ?_ ?_ (by with_reducible assumption)) | (with_reducible refine Below.alloc ?_ ?_ _) | (with_reducible refine Below.drew ?_) | (with_reducible refine below_drewN ?_ _) | (with_reducible refine Below.setCell ?_ ?_ _) | (with_reducible exact Nat.le_refl _) | omega | (simp only [World.size_alloc, World.size_setCell, World.size_drew, World.heap_drewN] at *; omega))), by go_simp, by go_simp, by go_simp⟩
  case round =>
    obtain ⟨j, hj, rfl, hbr, hsz, c0, c1⟩ := hrel
    have hs0 := hbr.size
    refine bcUse (n := w.heap.size) hbr (by omega) ?_
    intro cA fA
    refine bcUse (n := w.heap.size + 1) hbr (by omega) ?_
    intro cB fB
    refine bcUse (n := w2.heap.size) hbr (by omega) ?_
    intro cC fC
    refine bcUse (n := w2.heap.size + 1) hbr (by omega) ?_
    intro cC' fC'
    obtain ⟨ga, hga⟩ : ∃ ga : Nat, ga = gk := ⟨_, rfl⟩
    obtain ⟨wi, rfl⟩ : ∃ wi : World, wi = wr := ⟨_, rfl⟩
    have C0 := Lib.hid c0
    have C1 := Lib.hid c1
    have HBR := Lib.hid hbr
    by_cases hlt : j < 2
    · obtain ⟨p, hp, hcell⟩ : ∃ p, (p = l0 ∨ p = l1) ∧ wi.cell? ⟨wo.heap.size, j, none⟩ = some (.int .i64 p) := by
        rcases (show j = 0 ∨ j = 1 by omega) with rfl | rfl
        · exact ⟨l0, .inl rfl, c0⟩
        · exact ⟨l1, .inr rfl, c1⟩
      have hpb : -1000000000000000000 ≤ p ∧ p ≤ 1000000000000000000 := by rcases hp with h | h <;> omega
      have HP := Lib.hid hp
      have HRM := Lib.hid (fun w1 => c_rMod p 1000000000 w1 (by omega) (by omega) (by omega) (by omega))
      have pm0 := Int.emod_nonneg p (show (1000000000 : Int) ≠ 0 by omega)
      have pm1 := Int.emod_lt_of_pos p (show (0 : Int) < 1000000000 by omega)
      clear c0 c1 hbr hp
      rcases (show j = 0 ∨ j = 1 by omega) with rfl | rfl
      all_goals
        go_wp2_with fail
        go_loopg [83] 2 (fun gk i wr => ∃ m : Nat, gk + m = 2 ∧ i = .int .i64 m ∧ Below wi.heap.size wi wr ∧ wi.heap.size < wr.heap.size ∧ wr.cell? ⟨wi.heap.size, 0, none⟩ = some (.int .i64 b0) ∧ wr.cell? ⟨wi.heap.size, 1, none⟩ = some (.int .i64 b1))
        case atStart => exact ⟨0, rfl, rfl, by (repeat' (first | (with_reducible exact Below.refl _ _) | (with_reducible assumption) | (with_reducible refine Below.call ?_ ?_ (by with_reducible assumption)) | (with_reducible refine Below.alloc ?_ ?_ _) | (with_reducible refine Below.drew ?_) | (with_reducible refine below_drewN ?_ _) | (with_reducible refine Below.setCell ?_ ?_ _) | (with_reducible exact Nat.le_refl _) | omega | (simp only [World.size_alloc, World.size_setCell, World.size_drew, World.heap_drewN] at *; omega))), by go_simp, by go_simp, by go_simp⟩
        case round =>
          obtain ⟨m, hm, rfl, hbi, hszi, e0, e1⟩ := hrel
          have hs1 := hbi.size
          refine bcUse (n := w.heap.size) hbi (by omega) ?_
          intro cA2 fA2
          refine bcUse (n := w.heap.size + 1) hbi (by omega) ?_
          intro cB2 fB2
          refine bcUse (n := w2.heap.size) hbi (by omega) ?_
          intro cC2 fC2
          refine bcUse (n := w2.heap.size + 1) hbi (by omega) ?_
          intro cC3 fC3
          refine bcUse (n := wo.heap.size) hbi (by omega) ?_
          intro cD2 fD2
          obtain ⟨gb, hgb⟩ : ∃ gb : Nat, gb = gk := ⟨_, rfl⟩
          obtain ⟨wj, rfl⟩ : ∃ wj : World, wj = wr := ⟨_, rfl⟩
          have HBI := Lib.hid hbi
          have E0 := Lib.hid e0
          have E1 := Lib.hid e1
          by_cases hlm : m < 2
          · obtain ⟨q, hq, hcell2⟩ : ∃ q, (q = b0 ∨ q = b1) ∧ wj.cell? ⟨wi.heap.size, m, none⟩ = some (.int .i64 q) := by
              rcases (show m = 0 ∨ m = 1 by omega) with rfl | rfl
              · exact ⟨b0, .inl rfl, e0⟩
              · exact ⟨b1, .inr rfl, e1⟩
            have hqb : -125000000 ≤ q ∧ q ≤ 125000000 := by rcases hq with h | h <;> omega
            obtain ⟨i1, i2⟩ := HIN.out p q HP.out hq
            obtain ⟨⟨x1, x2⟩, ⟨y1, y2⟩, ⟨z1, z2⟩⟩ := HBD.out p q HP.out hq
            have HQ := Lib.hid (fun w1 => c_rEquator (p % 1000000000 * 1048576) (q * 1048576) w1 (by omega) (by omega) (by omega) (by omega))
            generalize dirX (p % 1000000000 * 1048576) (q * 1048576) = X at *
            generalize dirY (p % 1000000000 * 1048576) (q * 1048576) = Y at *
            generalize dirZ (p % 1000000000 * 1048576) (q * 1048576) = Z at *
            have HX := Lib.hid (fun w1 => c_InArc1 R0 R1 Y X w1 q0 q1 q2 q3 i1 y1 y2 x1 x2)
            have HS := Lib.hid (fun w1 => c_InArcSin1 D0 D1 Z w1 p0 p1 p2 i2 (by omega) (by omega))
            clear e0 e1 hbi hq i1 i2
            rcases (show m = 0 ∨ m = 1 by omega) with rfl | rfl
            all_goals
              go_wp2_with (first | (go_at_call 18; refine (HRM.out _).mono ?_; rintro e w' ⟨rfl, rfl⟩) | (go_at_call 26; (refine (HQ.out _).mono ?_); rintro e w4 ⟨rfl, hb⟩; have hz := hb.size; (try simp only [World.size_alloc, World.size_setCell, World.size_drew, World.heap_drewN] at hz); (try have h_w_0 : w.heap.size < w4.heap.size := by omega); (try have e_w_0 : ¬ w.heap.size = w4.heap.size := by omega); (try have d_w_0 : ¬ w4.heap.size = w.heap.size := by omega); (try (refine bcUse (n := w.heap.size) hb ?_ ?_; (focus ((try simp only [World.size_alloc, World.size_setCell, World.size_drew, World.heap_drewN]); omega)); intro _ _)); (try have h_w_1 : w.heap.size + 1 < w4.heap.size := by omega); (try have e_w_1 : ¬ w.heap.size + 1 = w4.heap.size := by omega); (try have d_w_1 : ¬ w4.heap.size = w.heap.size + 1 := by omega); (try (refine bcUse (n := w.heap.size + 1) hb ?_ ?_; (focus ((try simp only [World.size_alloc, World.size_setCell, World.size_drew, World.heap_drewN]); omega)); intro _ _)); (try have h_w2_0 : w2.heap.size < w4.heap.size := by omega); (try have e_w2_0 : ¬ w2.heap.size = w4.heap.size := by omega); (try have d_w2_0 : ¬ w4.heap.size = w2.heap.size := by omega); (try (refine bcUse (n := w2.heap.size) hb ?_ ?_; (focus ((try simp only [World.size_alloc, World.size_setCell, World.size_drew, World.heap_drewN]); omega)); intro _ _)); (try have h_w2_1 : w2.heap.size + 1 < w4.heap.size := by omega); (try have e_w2_1 : ¬ w2.heap.size + 1 = w4.heap.size := by omega); (try have d_w2_1 : ¬ w4.heap.size = w2.heap.size + 1 := by omega); (try (refine bcUse (n := w2.heap.size + 1) hb ?_ ?_; (focus ((try simp only [World.size_alloc, World.size_setCell, World.size_drew, World.heap_drewN]); omega)); intro _ _)); (try have h_wo_0 : wo.heap.size < w4.heap.size := by omega); (try have e_wo_0 : ¬ wo.heap.size = w4.heap.size := by omega); (try have d_wo_0 : ¬ w4.heap.size = wo.heap.size := by omega); (try (refine bcUse (n := wo.heap.size) hb ?_ ?_; (focus ((try simp only [World.size_alloc, World.size_setCell, World.size_drew, World.heap_drewN]); omega)); intro _ _)); (try have h_wi_0 : wi.heap.size < w4.heap.size := by omega); (try have e_wi_0 : ¬ wi.heap.size = w4.heap.size := by omega); (try have d_wi_0 : ¬ w4.heap.size = wi.heap.size := by omega); (try (refine bcUse (n := wi.heap.size) hb ?_ ?_; (focus ((try simp only [World.size_alloc, World.size_setCell, World.size_drew, World.heap_drewN]); omega)); intro _ _)); (try have h_wj_0 : wj.heap.size < w4.heap.size := by omega); (try have e_wj_0 : ¬ wj.heap.size = w4.heap.size := by omega); (try have d_wj_0 : ¬ w4.heap.size = wj.heap.size := by omega); (try (refine bcUse (n := wj.heap.size) hb ?_ ?_; (focus ((try simp only [World.size_alloc, World.size_setCell, World.size_drew, World.heap_drewN]); omega)); intro _ _))) | (go_at_call 27; (refine (HX.out _).mono ?_); rintro e w5 ⟨rfl, hb⟩; have hz := hb.size; (try simp only [World.size_alloc, World.size_setCell, World.size_drew, World.heap_drewN] at hz); (try have h_w_0 : w.heap.size < w5.heap.size := by omega); (try have e_w_0 : ¬ w.heap.size = w5.heap.size := by omega); (try have d_w_0 : ¬ w5.heap.size = w.heap.size := by omega); (try (refine bcUse (n := w.heap.size) hb ?_ ?_; (focus ((try simp only [World.size_alloc, World.size_setCell, World.size_drew, World.heap_drewN]); omega)); intro _ _)); (try have h_w_1 : w.heap.size + 1 < w5.heap.size := by omega); (try have e_w_1 : ¬ w.heap.size + 1 = w5.heap.size := by omega); (try have d_w_1 : ¬ w5.heap.size = w.heap.size + 1 := by omega); (try (refine bcUse (n := w.heap.size + 1) hb ?_ ?_; (focus ((try simp only [World.size_alloc, World.size_setCell, World.size_drew, World.heap_drewN]); omega)); intro _ _)); (try have h_w2_0 : w2.heap.size < w5.heap.size := by omega); (try have e_w2_0 : ¬ w2.heap.size = w5.heap.size := by omega); (try have d_w2_0 : ¬ w5.heap.size = w2.heap.size := by omega); (try (refine bcUse (n := w2.heap.size) hb ?_ ?_; (focus ((try simp only [World.size_alloc, World.size_setCell, World.size_drew, World.heap_drewN]); omega)); intro _ _)); (try have h_w2_1 : w2.heap.size + 1 < w5.heap.size := by omega); (try have e_w2_1 : ¬ w2.heap.size + 1 = w5.heap.size := by omega); (try have d_w2_1 : ¬ w5.heap.size = w2.heap.size + 1 := by omega); (try (refine bcUse (n := w2.heap.size + 1) hb ?_ ?_; (focus ((try simp only [World.size_alloc, World.size_setCell, World.size_drew, World.heap_drewN]); omega)); intro _ _)); (try have h_wo_0 : wo.heap.size < w5.heap.size := by omega); (try have e_wo_0 : ¬ wo.heap.size = w5.heap.size := by omega); (try have d_wo_0 : ¬ w5.heap.size = wo.heap.size := by omega); (try (refine bcUse (n := wo.heap.size) hb ?_ ?_; (focus ((try simp only [World.size_alloc, World.size_setCell, World.size_drew, World.heap_drewN]); omega)); intro _ _)); (try have h_wi_0 : wi.heap.size < w5.heap.size := by omega); (try have e_wi_0 : ¬ wi.heap.size = w5.heap.size := by omega); (try have d_wi_0 : ¬ w5.heap.size = wi.heap.size := by omega); (try (refine bcUse (n := wi.heap.size) hb ?_ ?_; (focus ((try simp only [World.size_alloc, World.size_setCell, World.size_drew, World.heap_drewN]); omega)); intro _ _)); (try have h_wj_0 : wj.heap.size < w5.heap.size := by omega); (try have e_wj_0 : ¬ wj.heap.size = w5.heap.size := by omega); (try have d_wj_0 : ¬ w5.heap.size = wj.heap.size := by omega); (try (refine bcUse (n := wj.heap.size) hb ?_ ?_; (focus ((try simp only [World.size_alloc, World.size_setCell, World.size_drew, World.heap_drewN]); omega)); intro _ _)); (try have h_w4_0 : w4.heap.size < w5.heap.size := by omega); (try have e_w4_0 : ¬ w4.heap.size = w5.heap.size := by omega); (try have d_w4_0 : ¬ w5.heap.size = w4.heap.size := by omega); (try (refine bcUse (n := w4.heap.size) hb ?_ ?_; (focus ((try simp only [World.size_alloc, World.size_setCell, World.size_drew, World.heap_drewN]); omega)); intro _ _))) | (go_at_call 28; (refine (HS.out _).mono ?_); rintro e w6 ⟨rfl, hb⟩; have hz := hb.size; (try simp only [World.size_alloc, World.size_setCell, World.size_drew, World.heap_drewN] at hz); (try have h_w_0 : w.heap.size < w6.heap.size := by omega); (try have e_w_0 : ¬ w.heap.size = w6.heap.size := by omega); (try have d_w_0 : ¬ w6.heap.size = w.heap.size := by omega); (try (refine bcUse (n := w.heap.size) hb ?_ ?_; (focus ((try simp only [World.size_alloc, World.size_setCell, World.size_drew, World.heap_drewN]); omega)); intro _ _)); (try have h_w_1 : w.heap.size + 1 < w6.heap.size := by omega); (try have e_w_1 : ¬ w.heap.size + 1 = w6.heap.size := by omega); (try have d_w_1 : ¬ w6.heap.size = w.heap.size + 1 := by omega); (try (refine bcUse (n := w.heap.size + 1) hb ?_ ?_; (focus ((try simp only [World.size_alloc, World.size_setCell, World.size_drew, World.heap_drewN]); omega)); intro _ _)); (try have h_w2_0 : w2.heap.size < w6.heap.size := by omega); (try have e_w2_0 : ¬ w2.heap.size = w6.heap.size := by omega); (try have d_w2_0 : ¬ w6.heap.size = w2.heap.size := by omega); (try (refine bcUse (n := w2.heap.size) hb ?_ ?_; (focus ((try simp only [World.size_alloc, World.size_setCell, World.size_drew, World.heap_drewN]); omega)); intro _ _)); (try have h_w2_1 : w2.heap.size + 1 < w6.heap.size := by omega); (try have e_w2_1 : ¬ w2.heap.size + 1 = w6.heap.size := by omega); (try have d_w2_1 : ¬ w6.heap.size = w2.heap.size + 1 := by omega); (try (refine bcUse (n := w2.heap.size + 1) hb ?_ ?_; (focus ((try simp only [World.size_alloc, World.size_setCell, World.size_drew, World.heap_drewN]); omega)); intro _ _)); (try have h_wo_0 : wo.heap.size < w6.heap.size := by omega); (try have e_wo_0 : ¬ wo.heap.size = w6.heap.size := by omega); (try have d_wo_0 : ¬ w6.heap.size = wo.heap.size := by omega); (try (refine bcUse (n := wo.heap.size) hb ?_ ?_; (focus ((try simp only [World.size_alloc, World.size_setCell, World.size_drew, World.heap_drewN]); omega)); intro _ _)); (try have h_wi_0 : wi.heap.size < w6.heap.size := by omega); (try have e_wi_0 : ¬ wi.heap.size = w6.heap.size := by omega); (try have d_wi_0 : ¬ w6.heap.size = wi.heap.size := by omega); (try (refine bcUse (n := wi.heap.size) hb ?_ ?_; (focus ((try simp only [World.size_alloc, World.size_setCell, World.size_drew, World.heap_drewN]); omega)); intro _ _)); (try have h_wj_0 : wj.heap.size < w6.heap.size := by omega); (try have e_wj_0 : ¬ wj.heap.size = w6.heap.size := by omega); (try have d_wj_0 : ¬ w6.heap.size = wj.heap.size := by omega); (try (refine bcUse (n := wj.heap.size) hb ?_ ?_; (focus ((try simp only [World.size_alloc, World.size_setCell, World.size_drew, World.heap_drewN]); omega)); intro _ _)); (try have h_w4_0 : w4.heap.size < w6.heap.size := by omega); (try have e_w4_0 : ¬ w4.heap.size = w6.heap.size := by omega); (try have d_w4_0 : ¬ w6.heap.size = w4.heap.size := by omega); (try (refine bcUse (n := w4.heap.size) hb ?_ ?_; (focus ((try simp only [World.size_alloc, World.size_setCell, World.size_drew, World.heap_drewN]); omega)); intro _ _)); (try have h_w5_0 : w5.heap.size < w6.heap.size := by omega); (try have e_w5_0 : ¬ w5.heap.size = w6.heap.size := by omega); (try have d_w5_0 : ¬ w6.heap.size = w5.heap.size := by omega); (try (refine bcUse (n := w5.heap.size) hb ?_ ?_; (focus ((try simp only [World.size_alloc, World.size_setCell, World.size_drew, World.heap_drewN]); omega)); intro _ _))))
              go_roundg (gb - 1)
              case measure => omega
              case rel =>
                have HO := HBI.out
                have u0 := E0.out
                have u1 := E1.out
                clear hcell2
                first | exact ⟨1, by omega, by go_num, by (repeat' (first | (with_reducible exact Below.refl _ _) | (with_reducible assumption) | (with_reducible refine Below.call ?_ ?_ (by with_reducible assumption)) | (with_reducible refine Below.alloc ?_ ?_ _) | (with_reducible refine Below.drew ?_) | (with_reducible refine below_drewN ?_ _) | (with_reducible refine Below.setCell ?_ ?_ _) | (with_reducible exact Nat.le_refl _) | omega | (simp only [World.size_alloc, World.size_setCell, World.size_drew, World.heap_drewN] at *; omega))), by (first | omega | go_simp), by go_simp, by go_simp⟩ | exact ⟨2, by omega, by go_num, by (repeat' (first | (with_reducible exact Below.refl _ _) | (with_reducible assumption) | (with_reducible refine Below.call ?_ ?_ (by with_reducible assumption)) | (with_reducible refine Below.alloc ?_ ?_ _) | (with_reducible refine Below.drew ?_) | (with_reducible refine below_drewN ?_ _) | (with_reducible refine Below.setCell ?_ ?_ _) | (with_reducible exact Nat.le_refl _) | omega | (simp only [World.size_alloc, World.size_setCell, World.size_drew, World.heap_drewN] at *; omega))), by (first | omega | go_simp), by go_simp, by go_simp⟩
          · have hm2 : m = 2 := by omega
            subst hm2
            clear e0 e1 hbi
            go_wp2_with fail
            go_roundg (ga - 1)
            case measure => omega
            case rel =>
              have HO := HBR.out
              have HO2 := HBI.out
              have u0 := C0.out
              have u1 := C1.out
              clear hcell
              first | exact ⟨1, by omega, by go_num, by (repeat' (first | (with_reducible exact Below.refl _ _) | (with_reducible assumption) | (with_reducible refine Below.call ?_ ?_ (by with_reducible assumption)) | (with_reducible refine Below.alloc ?_ ?_ _) | (with_reducible refine Below.drew ?_) | (with_reducible refine below_drewN ?_ _) | (with_reducible refine Below.setCell ?_ ?_ _) | (with_reducible exact Nat.le_refl _) | omega | (simp only [World.size_alloc, World.size_setCell, World.size_drew, World.heap_drewN] at *; omega))), by (first | omega | go_simp), by go_simp, by go_simp⟩ | exact ⟨2, by omega, by go_num, by (repeat' (first | (with_reducible exact Below.refl _ _) | (with_reducible assumption) | (with_reducible refine Below.call ?_ ?_ (by with_reducible assumption)) | (with_reducible refine Below.alloc ?_ ?_ _) | (with_reducible refine Below.drew ?_) | (with_reducible refine below_drewN ?_ _) | (with_reducible refine Below.setCell ?_ ?_ _) | (with_reducible exact Nat.le_refl _) | omega | (simp only [World.size_alloc, World.size_setCell, World.size_drew, World.heap_drewN] at *; omega))), by (first | omega | go_simp), by go_simp, by go_simp⟩
    · have hj2 : j = 2 := by omega
      subst hj2
      clear c0 c1 hbr
      go_wp2_with fail
      go_ret
      refine ⟨rfl, ?_⟩
      have HO := HBR.out
      (repeat' (first | (with_reducible exact Below.refl _ _) | (with_reducible assumption) | (with_reducible refine Below.call ?_ ?_ (by with_reducible assumption)) | (with_reducible refine Below.alloc ?_ ?_ _) | (with_reducible refine Below.drew ?_) | (with_reducible refine below_drewN ?_ _) | (with_reducible refine Below.setCell ?_ ?_ _) | (with_reducible exact Nat.le_refl _) | omega | (simp only [World.size_alloc, World.size_setCell, World.size_drew, World.heap_drewN] at *; omega)))
theorem span_rngE {a b : Int} (h : spanErr a b = 0) : -1000000000000000000 ≤ a ∧ a ≤ b ∧ b ≤ 1000000000000000000 := by
  unfold spanErr at h
  (repeat' split at h) <;> first | omega | (exfalso; revert h; decide)
theorem sb_45 {b : Int} (h1 : -125000000 ≤ b) (h2 : b ≤ 125000000) : rabs (S (tq * ((b % 1000000000 : Int) : Rat))) ≤ 70711/100000 := by
  have s := siU_tq (a := b) (by omega) (by omega)
  have es : siU b = S (tq * ((b % 1000000000 : Int) : Rat)) := by unfold siU; rw [angU_tq]
  rw [es] at s
  have s := rabs_le.1 s
  have lim : S (tq * 125000000) ≤ 7071068 / 10000000 ∧ -(7071068 / 10000000) ≤ S (tq * -125000000) := by decide +kernel
  have hb1 := icast h1
  have hb2 := icast h2
  have k1 : ((-125000000 : Int) : Rat) = -125000000 := rfl
  have k2 : ((125000000 : Int) : Rat) = 125000000 := rfl
  rw [k1] at hb1
  rw [k2] at hb2
  have t1 := tq_le hb1
  have t2 := tq_le hb2
  have hp := pi_num
  have q := tq_quarter
  have m1 := sin_mono (x := tq * (b : Rat)) (y := tq * 125000000) t2 (rabs_le.2 ⟨by grind, by grind⟩) (rabs_le.2 ⟨by grind, by grind⟩)
  have m2 := sin_mono (x := tq * -125000000) (y := tq * (b : Rat)) t1 (rabs_le.2 ⟨by grind, by grind⟩) (rabs_le.2 ⟨by grind, by grind⟩)
  exact rabs_le.2 ⟨by grind, by grind⟩
theorem zA_whole (n : Int) : zA (argU (n * 1048576)) = ((n % 1000000000 : Int) : Rat) := by
  have e : argU (n * 1048576) = n % 1000000000 * 1000000 := by unfold argU; omega
  rw [e]
  generalize n % 1000000000 = m
  unfold zA
  push_cast
  grind
theorem se_pt {l0 l1 b0 b1 l b : Int} (hl : l0 ≤ l1) (hb : b0 ≤ b1) (el : l = l0 ∨ l = l1) (eb : b = b0 ∨ b = b1) : Pt l0 l1 b0 b1 (zA (argU (l % 1000000000 * 1048576))) (zA (argU (b * 1048576))) := by
  obtain ⟨x0, x1⟩ := argU_bd (l % 1000000000 * 1048576)
  obtain ⟨y0, y1⟩ := argU_bd (b * 1048576)
  refine ⟨hl, hb, zA_bd x0 x1, zA_bd y0 y1, ?_, kl_val (by omega) (by omega)⟩
  rw [zA_whole, show l % 1000000000 % 1000000000 = l % 1000000000 by omega]
  refine ⟨l / 1000000000, ?_⟩
  have e := turn_split l
  have a := icast (show l0 ≤ l by omega)
  have b := icast (show l ≤ l1 by omega)
  constructor <;> grind
theorem se_norm (l : Int) {b : Int} (h1 : -125000000 ≤ b) (h2 : b ≤ 125000000) : rabs (pX (zA (argU (l % 1000000000 * 1048576))) (zA (argU (b * 1048576)))) ≤ 1 + 1 / 1000000 ∧ rabs (pY (zA (argU (l % 1000000000 * 1048576))) (zA (argU (b * 1048576)))) ≤ 1 + 1 / 1000000 ∧ rabs (pZ (zA (argU (l % 1000000000 * 1048576))) (zA (argU (b * 1048576)))) ≤ 1 + 1 / 1000000000 := by
  obtain ⟨x0, x1⟩ := argU_bd (l % 1000000000 * 1048576)
  obtain ⟨y0, y1⟩ := argU_bd (b * 1048576)
  exact (eq_norm (zA_bd x0 x1).1 (zA_bd x0 x1).2 (zA_bd y0 y1).1 (zA_bd y0 y1).2 (s0 := 70711/100000) (c0 := 7071/10000) (r0 := 3674/10000) (by rw [zA_whole]; exact sb_45 h1 h2) (by decide +kernel) (by decide +kernel) (by decide +kernel) (by decide +kernel)).2
theorem walk_SunEquators (l0 l1 b0 b1 : Int) (w : World) (ht : Tab w) :
    Calls Tryd.prog 5 #[.agg #[.int .i64 l0, .int .i64 l1], .agg #[.int .i64 b0, .int .i64 b1]] w fun e w' => e = .returned (.bool true) ∧ Below w.heap.size w w' := by
  by_cases h2 : twoE l0 l1 b0 b1 = 0
  · have hl : spanErr l0 l1 = 0 := by unfold twoE at h2; split at h2 <;> assumption
    have hb : spanErr b0 b1 = 0 := by unfold twoE at h2; rw [if_pos hl] at h2; exact h2
    obtain ⟨r1, r2, r3⟩ := span_rngE hl
    obtain ⟨r4, r5, r6⟩ := span_rngE hb
    by_cases hr : b0 < -125000000 ∨ 125000000 < b1
    · exact walk_SE_range l0 l1 b0 b1 w ht hl hb hr
    · have bx : l0 = l1 → b0 = b1 → Box (eqY0 l0 l1 b0 b1) (eqY1 l0 l1 b0 b1) (eqX0 l0 l1 b0 b1) (eqX1 l0 l1 b0 b1) 367300000 (1/10000000) := by
        rintro rfl rfl
        exact exact_box (by omega) (by omega)
      have ol : l0 ≤ l1 := by omega
      have ob : b0 ≤ b1 := by omega
      by_cases hzz : eqY0 l0 l1 b0 b1 ≤ 0 ∧ 0 ≤ eqY1 l0 l1 b0 b1 ∧ eqX0 l0 l1 b0 b1 ≤ 0 ∧ 0 ≤ eqX1 l0 l1 b0 b1
      · have hne : l0 < l1 ∨ b0 < b1 := by
          by_cases q : l0 < l1 ∨ b0 < b1
          · exact q
          · exact absurd hzz (bx (by omega) (by omega)).off
        refine walk_SE_open l0 l1 b0 b1 w ht hl hb (by omega) (by omega) hne (fun w ht => ?_)
        have N := eqN (l0 := l0) (l1 := l1) (b0 := b0) (b1 := b1) ol (by omega) (by omega) ob (by omega) (by omega)
        obtain ⟨y1, y2, y3⟩ := eqY_bd (l0 := l0) (l1 := l1) ol ob
        obtain ⟨x1, x2, x3⟩ := eqX_sp (l0 := l0) (l1 := l1) ol ob
        have ey : spanErr (eqY0 l0 l1 b0 b1) (eqY1 l0 l1 b0 b1) = 0 := by unfold spanErr; (repeat (first | rw [if_neg (by omega)] | rw [if_pos (by omega)]))
        have ex : spanErr (eqX0 l0 l1 b0 b1) (eqX1 l0 l1 b0 b1) = 0 := by unfold spanErr; (repeat (first | rw [if_neg (by omega)] | rw [if_pos (by omega)]))
        exact c_Equ l0 l1 b0 b1 _ _ _ _ _ _ _ _ _ _ _ _ _ _ _ _ _ _ _ _ 0 0 _ _ 11 0 0 0 0 w N ht (by omega) (by omega) (fun w1 => c_Arc_open (eqY0 l0 l1 b0 b1) (eqY1 l0 l1 b0 b1) (eqX0 l0 l1 b0 b1) (eqX1 l0 l1 b0 b1) w1 ey ex hzz.1 hzz.2.1 hzz.2.2.1 hzz.2.2.2) (fun w1 => c_arcSin_eq ol ob w1) (.inr ⟨rfl, rfl, rfl, rfl, rfl⟩)
      · obtain ⟨⟨A0, E, L, H, hv⟩, ho, hc1, hc2⟩ := c_Equator_all (l0 := l0) (l1 := l1) (b0 := b0) (b1 := b1) ol (by omega) (by omega) ob (by omega) (by omega) hzz
        by_cases hw : 400000000 < raHi l0 l1 b0 b1 - raLo l0 l1 b0 b1
        · have hne : l0 < l1 ∨ b0 < b1 := by
            by_cases q : l0 < l1 ∨ b0 < b1
            · exact q
            · have := (bx (by omega) (by omega)).narrow hv
              unfold raHi raLo at hw
              omega
          exact walk_SE_open l0 l1 b0 b1 w ht hl hb (by omega) (by omega) hne (hc1 hw)
        · have bz := eqZ_bd (l0 := l0) (l1 := l1) ol ob
          have ab := as_bounds (eqZ0 l0 l1 b0 b1)
          have ab2 := as_bounds (eqZ1 l0 l1 b0 b1)
          have m0 := Int.emod_nonneg (raLo l0 l1 b0 b1) (show (1000000000 : Int) ≠ 0 by decide)
          have m1 := Int.emod_lt_of_pos (raLo l0 l1 b0 b1) (show (0 : Int) < 1000000000 by decide)
          refine walk_SE_fine l0 l1 b0 b1 _ _ _ _ w ht hl hb (by omega) (by omega) ob (by omega) (by omega) ol (hc2 (by omega)) m0 m1 (by omega) (by omega) ab.1 (as_order bz.1) ab2.2.2.2.1 ?_ ?_
          · intro l b el eb
            have pt := se_pt ol ob el eb
            have n := se_norm l (b := b) (by omega) (by omega)
            have d := dir_ok (l % 1000000000 * 1048576) (b * 1048576)
            have dx := d.x
            have dy := d.y
            have dz := d.z
            have h := eq_inArc pt hv (by unfold raLo raHi at hw; omega) (u := dirY (l % 1000000000 * 1048576) (b * 1048576)) (v := dirX (l % 1000000000 * 1048576) (b * 1048576)) (by grind) (by grind) (fine_bd (by grind) n.2.1).1 (fine_bd (by grind) n.1).1
            have e : (raLo l0 l1 b0 b1 % 1000000000 + raHi l0 l1 b0 b1 - raLo l0 l1 b0 b1) % 1000000000 = raHi l0 l1 b0 b1 % 1000000000 := by omega
            rw [e]
            exact ⟨h, eq_inAsin pt (by grind) n.2.2⟩
          · intro l b el eb
            have n := se_norm l (b := b) (by omega) (by omega)
            have d := dir_ok (l % 1000000000 * 1048576) (b * 1048576)
            have dx := d.x
            have dy := d.y
            have dz := d.z
            exact ⟨(fine_bd (by grind) n.1).2, (fine_bd (by grind) n.2.1).2, (fine_bd (by grind) (show rabs (pZ (zA (argU (l % 1000000000 * 1048576))) (zA (argU (b * 1048576)))) ≤ 1 + 1 / 1000000 by have := n.2.2; grind)).2⟩
  · exact walk_SE_bad l0 l1 b0 b1 w ht h2
end Go.Proofs.YtaaiamcpdicnhaaDoor
