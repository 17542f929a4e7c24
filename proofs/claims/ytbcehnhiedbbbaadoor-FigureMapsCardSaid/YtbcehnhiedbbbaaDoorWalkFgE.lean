/- The contract of the law's figureErr (as WalkFg's of ephemerislaw2.figureErr). -/
import Derived.Test.YtbcehnhiedbbbaaDoorWalkFg
set_option linter.unusedVariables false
set_option linter.unusedSimpArgs false
namespace Go.Proofs.YtbcehnhiedbbbaaDoor
open Go.RowKit
theorem c_fgErr_large (a b : Option Addr) (ca cb : Nat) (P : List Fp) (L : List (List Int)) (w : World) (h : 60 < P.length ∨ 40 < L.length) : Calls Tryd.prog 28 #[.agg #[.slice a P.length ca, .slice b L.length cb]] w fun e w' => e = .returned (.int .i64 (fgE P L)) ∧ Below w.heap.size w w' := by
  have e : fgE P L = 2 := if_pos h
  rw [e]
  have h' : (60 : Int) < P.length ∨ (¬ (60 : Int) < P.length ∧ (40 : Int) < L.length) := by omega
  clear h e
  generalize P.length = p at *
  generalize L.length = l at *
  rcases h' with h | ⟨h, h1⟩
  · have g := decide_eq_true h
    have hgen := sgen; have hgen2 := sgen2; have hgen3 := sgen3; go_enter Tryd.func28, Tryd.ntmps28
    go_wp2
    go_ret
    refine ⟨rfl, ?_⟩
    exact belz
  · have g := decide_eq_false h
    have g1 := decide_eq_true h1
    have hgen := sgen; have hgen2 := sgen2; have hgen3 := sgen3; go_enter Tryd.func28, Tryd.ntmps28
    go_wp2
    go_ret
    refine ⟨rfl, ?_⟩
    exact belz
set_option maxRecDepth 100000 in
set_option maxHeartbeats 4000000 in
theorem c_fgErr_pts (a b : Option Addr) (ca cb : Nat) (P : List Fp) (L : List (List Int)) (w : World) (hP : FpSlice w a P) (hca : P.length ≤ ca) (h0 : P.length ≤ 60) (h1 : L.length ≤ 40) (he : fe ptE P ≠ 0) : Calls Tryd.prog 28 #[.agg #[.slice a P.length ca, .slice b L.length cb]] w fun e w' => e = .returned (.int .i64 (fgE P L)) ∧ Below w.heap.size w w' := by
  have e : fgE P L = fe ptE P := by unfold fgE; rw [if_neg (by omega), if_pos he]
  rw [e]
  have g := decide_eq_false (show ¬ (60 : Int) < P.length by omega)
  have g1 := decide_eq_false (show ¬ (40 : Int) < L.length by omega)
  have HE := Lib.hid he
  clear e he
  have hgen := sgen; have hgen2 := sgen2; have hgen3 := sgen3; go_enter Tryd.func28, Tryd.ntmps28
  go_wp2
  go_loopg [24] P.length (fun gk i wr => ∃ k : Nat, gk + k = P.length ∧ i = .int .i64 k ∧ wr.cell? ⟨w.heap.size, 0, none⟩ = some (.slice a P.length ca) ∧ wr.cell? ⟨w.heap.size, 1, none⟩ = some (.slice b L.length cb) ∧ w.heap.size < wr.heap.size ∧ Below w.heap.size w wr ∧ fe ptE (P.take k) = 0)
  case atStart => exact ⟨0, by omega, rfl, by go_simp, by go_simp, by go_simp, by exact belz, rfl⟩
  case round =>
    obtain ⟨k, hk, rfl, b0, b1, hsz, hbel, hfe⟩ := hrel
    by_cases hlt : k < P.length
    · obtain ⟨bb, off, ha, hb1, c0, c1, c2, c3⟩ := (hP.below (Nat.le_refl _) hbel) k hlt
      have ix1 := @ix_Fp a bb off P.length ca k ha hlt
      have hat := fe_at ptE P k hlt hfe
      have hsn := fe_snoc ptE P k hlt
      rw [if_pos hfe] at hsn
      clear ha hfe
      generalize P[k] = x at *
      obtain ⟨xn, xd, yn, yd⟩ := x
      dsimp only at c0 c1 c2 c3
      have ea : ptE ⟨xn, xd, yn, yd⟩ = if fcE xn xd ≠ 0 then fcE xn xd else fcE yn yd := rfl
      rw [ea] at hat hsn
      have hx := fun w1 => c_fcCheck xn xd w1
      have hy := fun w1 => c_fcCheck yn yd w1
      rcases fcE_two xn xd with q | q
      · rcases fcE_two yn yd with r | r
        · rw [q] at hx
          rw [r] at hy
          rw [q, r, if_neg (by decide)] at hsn
          have HX := Lib.hid hx
          have HY := Lib.hid hy
          have HS := Lib.hid hsn
          clear hsn hat hx hy q r ea
          go_wp2_with (first | (go_at_call 36; (with_reducible refine (HX.out _).mono ?_); rintro e w1 ⟨rfl, hb⟩; have hz := hb.size; (try simp only [szA, szS, szD, szN] at hz); (try (refine bcB (n := w.heap.size) hb ?_; intro h_w_0 e_w_0 d_w_0 _ _)); (try (refine bcB (n := wr.heap.size) hb ?_; intro h_wr_0 e_wr_0 d_wr_0 _ _)); (try (refine bcB (n := wr.heap.size + 1) hb ?_; intro h_wr_1 e_wr_1 d_wr_1 _ _))) | (go_at_call 36; (with_reducible refine (HY.out _).mono ?_); rintro e w2 ⟨rfl, hb⟩; have hz := hb.size; (try simp only [szA, szS, szD, szN] at hz); (try (refine bcB (n := w.heap.size) hb ?_; intro h_w_0 e_w_0 d_w_0 _ _)); (try (refine bcB (n := wr.heap.size) hb ?_; intro h_wr_0 e_wr_0 d_wr_0 _ _)); (try (refine bcB (n := w1.heap.size) hb ?_; intro h_w1_0 e_w1_0 d_w1_0 _ _))))
          go_roundg (P.length - (k + 1))
          case measure => omega
          case rel =>
            refine ⟨k + 1, by omega, by go_num, ?_, ?_, ?_, ?_, HS.out⟩
            · go_simp
            · go_simp
            · omega
            · exact belz
        · rw [q] at hx
          rw [r] at hy
          rw [q, r, if_neg (by decide)] at hat
          have HX := Lib.hid hx
          have HY := Lib.hid hy
          have HA := Lib.hid (hat (by decide))
          clear hsn hat hx hy q r ea
          go_wp2_with (first | (go_at_call 36; (with_reducible refine (HX.out _).mono ?_); rintro e w1 ⟨rfl, hb⟩; have hz := hb.size; (try simp only [szA, szS, szD, szN] at hz); (try (refine bcB (n := w.heap.size) hb ?_; intro h_w_0 e_w_0 d_w_0 _ _)); (try (refine bcB (n := wr.heap.size) hb ?_; intro h_wr_0 e_wr_0 d_wr_0 _ _)); (try (refine bcB (n := wr.heap.size + 1) hb ?_; intro h_wr_1 e_wr_1 d_wr_1 _ _))) | (go_at_call 36; (with_reducible refine (HY.out _).mono ?_); rintro e w2 ⟨rfl, hb⟩; have hz := hb.size; (try simp only [szA, szS, szD, szN] at hz); (try (refine bcB (n := w.heap.size) hb ?_; intro h_w_0 e_w_0 d_w_0 _ _)); (try (refine bcB (n := wr.heap.size) hb ?_; intro h_wr_0 e_wr_0 d_wr_0 _ _)); (try (refine bcB (n := w1.heap.size) hb ?_; intro h_w1_0 e_w1_0 d_w1_0 _ _))))
          go_ret
          refine ⟨ret_int HA.out.symm, ?_⟩
          exact belz
      · rw [q] at hx
        rw [q, if_pos (by decide)] at hat
        have HX := Lib.hid hx
        have HA := Lib.hid (hat (by decide))
        clear hsn hat hx hy q ea
        go_wp2_with (first | (go_at_call 36; (with_reducible refine (HX.out _).mono ?_); rintro e w1 ⟨rfl, hb⟩; have hz := hb.size; (try simp only [szA, szS, szD, szN] at hz); (try (refine bcB (n := w.heap.size) hb ?_; intro h_w_0 e_w_0 d_w_0 _ _)); (try (refine bcB (n := wr.heap.size) hb ?_; intro h_wr_0 e_wr_0 d_wr_0 _ _)); (try (refine bcB (n := wr.heap.size + 1) hb ?_; intro h_wr_1 e_wr_1 d_wr_1 _ _))))
        go_ret
        refine ⟨ret_int HA.out.symm, ?_⟩
        exact belz
    · have hkl : k = P.length := by omega
      rw [hkl, List.take_of_length_le (Nat.le_refl _)] at hfe
      exact absurd hfe HE.out
set_option maxRecDepth 100000 in
set_option maxHeartbeats 4000000 in
theorem c_fgErr_lns (a b : Option Addr) (ca cb : Nat) (P : List Fp) (L : List (List Int)) (w : World) (hP : FpSlice w a P) (hL : MatSlice w b L) (hca : P.length ≤ ca) (hcb : L.length ≤ cb) (h0 : P.length ≤ 60) (h1 : L.length ≤ 40) (he : fe ptE P = 0) : Calls Tryd.prog 28 #[.agg #[.slice a P.length ca, .slice b L.length cb]] w fun e w' => e = .returned (.int .i64 (fgE P L)) ∧ Below w.heap.size w w' := by
  have e : fgE P L = fe (lnE P.length) L := by unfold fgE; rw [if_neg (by omega), if_neg (by omega)]
  rw [e]
  have g := decide_eq_false (show ¬ (60 : Int) < P.length by omega)
  have g1 := decide_eq_false (show ¬ (40 : Int) < L.length by omega)
  clear e
  have hgen := sgen; have hgen2 := sgen2; have hgen3 := sgen3; go_enter Tryd.func28, Tryd.ntmps28
  go_wp2
  go_loopg [24] P.length (fun gk i wr => ∃ k : Nat, gk + k = P.length ∧ i = .int .i64 k ∧ wr.cell? ⟨w.heap.size, 0, none⟩ = some (.slice a P.length ca) ∧ wr.cell? ⟨w.heap.size, 1, none⟩ = some (.slice b L.length cb) ∧ w.heap.size < wr.heap.size ∧ Below w.heap.size w wr)
  case atStart => exact ⟨0, by omega, rfl, by go_simp, by go_simp, by go_simp, by exact belz⟩
  case round =>
    obtain ⟨k, hk, rfl, b0, b1, hsz, hbel⟩ := hrel
    by_cases hlt : k < P.length
    · obtain ⟨bb, off, ha, hb1, c0, c1, c2, c3⟩ := (hP.below (Nat.le_refl _) hbel) k hlt
      have ix1 := @ix_Fp a bb off P.length ca k ha hlt
      have hat := fe_zero he k hlt
      clear ha
      generalize P[k] = x at *
      obtain ⟨xn, xd, yn, yd⟩ := x
      dsimp only at c0 c1 c2 c3
      obtain ⟨q, r⟩ := ptE_zero hat
      have hx := fun w1 => c_fcCheck xn xd w1
      have hy := fun w1 => c_fcCheck yn yd w1
      dsimp only at q r
      rw [q] at hx
      rw [r] at hy
      have HX := Lib.hid hx
      have HY := Lib.hid hy
      clear hat hx hy q r
      go_wp2_with (first | (go_at_call 36; (with_reducible refine (HX.out _).mono ?_); rintro e w1 ⟨rfl, hb⟩; have hz := hb.size; (try simp only [szA, szS, szD, szN] at hz); (try (refine bcB (n := w.heap.size) hb ?_; intro h_w_0 e_w_0 d_w_0 _ _)); (try (refine bcB (n := wr.heap.size) hb ?_; intro h_wr_0 e_wr_0 d_wr_0 _ _)); (try (refine bcB (n := wr.heap.size + 1) hb ?_; intro h_wr_1 e_wr_1 d_wr_1 _ _))) | (go_at_call 36; (with_reducible refine (HY.out _).mono ?_); rintro e w2 ⟨rfl, hb⟩; have hz := hb.size; (try simp only [szA, szS, szD, szN] at hz); (try (refine bcB (n := w.heap.size) hb ?_; intro h_w_0 e_w_0 d_w_0 _ _)); (try (refine bcB (n := wr.heap.size) hb ?_; intro h_wr_0 e_wr_0 d_wr_0 _ _)); (try (refine bcB (n := w1.heap.size) hb ?_; intro h_w1_0 e_w1_0 d_w1_0 _ _))))
      go_roundg (P.length - (k + 1))
      case measure => omega
      case rel =>
        refine ⟨k + 1, by omega, by go_num, ?_, ?_, ?_, ?_⟩
        · go_simp
        · go_simp
        · omega
        · exact belz
    · obtain rfl : k = P.length := by omega
      clear hlt
      obtain ⟨wo, rfl⟩ : ∃ wo : World, wo = wr := ⟨_, rfl⟩
      go_wp2
      go_loopg [44] L.length (fun gk i wr => ∃ m : Nat, gk + m = L.length ∧ i = .int .i64 m ∧ wr.cell? ⟨w.heap.size, 0, none⟩ = some (.slice a P.length ca) ∧ wr.cell? ⟨w.heap.size, 1, none⟩ = some (.slice b L.length cb) ∧ w.heap.size < wr.heap.size ∧ Below w.heap.size w wr ∧ fe (lnE P.length) (L.take m) = 0)
      case atStart => exact ⟨0, by omega, rfl, b0, b1, hsz, hbel, rfl⟩
      case round =>
        obtain ⟨m, hm, rfl, d0, d1, hsz2, hbel2, hfe⟩ := hrel
        by_cases hlt : m < L.length
        · obtain ⟨bb, off, v, ha, hb1, c0, hrow⟩ := (hL.below (Nat.le_refl _) hbel2) m hlt
          obtain ⟨⟨ar, cr, rfl, hcr, hI⟩⟩ := hrow
          have ix1 := @ix_Row b bb off L.length cb m ha hlt
          have hat := fe_at (lnE P.length) L m hlt hfe
          have hsn := fe_snoc (lnE P.length) L m hlt
          rw [if_pos hfe] at hsn
          clear ha hfe
          generalize L[m] = r at *
          by_cases q : r.length < 2 ∨ 60 < r.length
          · have eq : lnE P.length r = 8 := if_pos q
            rw [eq] at hat
            have HA := Lib.hid (hat (by decide))
            clear hat hsn
            have q' : (r.length : Int) < 2 ∨ (¬ (r.length : Int) < 2 ∧ (60 : Int) < r.length) := by omega
            clear eq q
            rcases q' with q | ⟨q, q2⟩
            · have t1 := decide_eq_true q
              go_wp2
              go_ret
              refine ⟨ret_int HA.out.symm, ?_⟩
              exact belz
            · have t1 := decide_eq_false q
              have t2 := decide_eq_true q2
              go_wp2
              go_ret
              refine ⟨ret_int HA.out.symm, ?_⟩
              exact belz
          · have eq : lnE P.length r = fe (rgO P.length) r := if_neg q
            rw [eq] at hat hsn
            have t1 := decide_eq_false (show ¬ (r.length : Int) < 2 by omega)
            have t2 := decide_eq_false (show ¬ (60 : Int) < r.length by omega)
            have HA := Lib.hid hat
            have HS := Lib.hid hsn
            clear hat hsn eq
            obtain ⟨wi, rfl⟩ : ∃ wi : World, wi = wr := ⟨_, rfl⟩
            go_wp2
            go_loopg [58] r.length (fun gk i wr => ∃ j : Nat, gk + j = r.length ∧ i = .int .i64 j ∧ wi = wr ∧ fe (rgO P.length) (r.take j) = 0)
            case atStart => exact ⟨0, by omega, rfl, rfl, rfl⟩
            case round =>
              obtain ⟨j, hj, rfl, rfl, hfj⟩ := hrel
              by_cases hlj : j < r.length
              · obtain ⟨b3, off3, ha3, hb3, c3⟩ := hI j hlj
                have ix2 := @ix_Int ar b3 off3 r.length cr j ha3 hlj
                have hat := fe_at (rgO P.length) r j hlj hfj
                have hsn := fe_snoc (rgO P.length) r j hlj
                rw [if_pos hfj] at hsn
                clear ha3 hfj
                generalize r[j] = x at *
                by_cases q1 : x < 0
                · have ev : rgO P.length x = 3 := if_pos (.inl q1)
                  rw [ev] at hat
                  have HB := Lib.hid (HA.out (by rw [hat (by decide)]; decide) |>.trans (hat (by decide)))
                  clear hat hsn ev HA HS
                  have t3 := decide_eq_true q1
                  go_wp2
                  go_ret
                  exact ⟨ret_int HB.out.symm, hbel2⟩
                · by_cases q2 : (P.length : Int) ≤ x
                  · have ev : rgO P.length x = 3 := if_pos (.inr q2)
                    rw [ev] at hat
                    have HB := Lib.hid (HA.out (by rw [hat (by decide)]; decide) |>.trans (hat (by decide)))
                    clear hat hsn ev HA HS
                    have t3 := decide_eq_false q1
                    have t4 := decide_eq_true q2
                    go_wp2
                    go_ret
                    exact ⟨ret_int HB.out.symm, hbel2⟩
                  · have ev : rgO P.length x = 0 := if_neg (by omega)
                    rw [ev] at hsn
                    have HB := Lib.hid hsn
                    clear hat hsn ev
                    have t3 := decide_eq_false q1
                    have t4 := decide_eq_false q2
                    go_wp2
                    go_roundg (r.length - (j + 1))
                    case measure => omega
                    case rel => exact ⟨j + 1, by omega, by go_num, rfl, HB.out⟩
              · obtain rfl : j = r.length := by omega
                rw [List.take_of_length_le (Nat.le_refl _)] at hfj
                rw [hfj] at HS
                clear HA hfj
                go_wp2
                go_roundg (L.length - (m + 1))
                case measure => omega
                case rel => exact ⟨m + 1, by omega, by go_num, d0, d1, hsz2, hbel2, HS.out⟩
        · have hml : m = L.length := by omega
          rw [hml, List.take_of_length_le (Nat.le_refl _)] at hfe
          have HF := Lib.hid hfe
          clear hfe hml
          go_wp2
          go_ret
          exact ⟨ret_int HF.out.symm, hbel2⟩
theorem c_fgErr (a b : Option Addr) (ca cb : Nat) (P : List Fp) (L : List (List Int)) (w : World) (hP : FpSlice w a P) (hL : MatSlice w b L) (hca : P.length ≤ ca) (hcb : L.length ≤ cb) : Calls Tryd.prog 28 #[.agg #[.slice a P.length ca, .slice b L.length cb]] w fun e w' => e = .returned (.int .i64 (fgE P L)) ∧ Below w.heap.size w w' := by
  by_cases h : 60 < P.length ∨ 40 < L.length
  · exact c_fgErr_large a b ca cb P L w h
  · by_cases he : fe ptE P = 0
    · exact c_fgErr_lns a b ca cb P L w hP hL hca hcb (by omega) (by omega) he
    · exact c_fgErr_pts a b ca cb P L w hP hca (by omega) (by omega) he
end Go.Proofs.YtbcehnhiedbbbaaDoor
