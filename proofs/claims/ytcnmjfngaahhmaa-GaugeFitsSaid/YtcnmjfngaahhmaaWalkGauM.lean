/- The walk through the law GaugeFits where there are factors. -/
import Derived.Test.YtcnmjfngaahhmaaWalkGauL
set_option linter.unusedVariables false
set_option linter.unusedSimpArgs false
namespace Go.Proofs.Ytcnmjfngaahhmaa
open Go.RowKit
theorem rgcd_gN {Dn : Int} {Nm : Nat → Int} (hD : Dn ≠ 0) (j : Nat) : rgcd (gN Dn Nm j : Int) (Nm j) = (gN Dn Nm (j + 1) : Int) := by
  have e : Nat.gcd ((gN Dn Nm j : Nat) : Int).natAbs (Nm j).natAbs = gN Dn Nm (j + 1) := by
    rw [Int.natAbs_natCast]; rfl
  have := gN_pos hD Nm (j + 1)
  rw [rgcd_pos (by omega), e]
set_option maxRecDepth 100000 in
set_option maxHeartbeats 6400000 in
theorem walk_gau_ok (a ah : Option Addr) (L : List (List Int)) (hs : List Int) (n cap caph : Nat) (w : World) (hM : MatSlice w a L) (hH : IntSlice w ah hs) (he : gErr L hs = 0) (hG : GOk L hs n) (hD : fD L n ≠ 0) :
    Calls Try.prog 3 #[.slice a L.length cap, .slice ah hs.length caph] w fun e w' => e = .returned (.bool true) ∧ Below w.heap.size w w' := by
  have HFI := Lib.hid (fun w1 (h : Below w.heap.size w w1) => c_Fit_ok a ah L hs n cap caph w1 (hM.below (Nat.le_refl _) h) (hH.below (Nat.le_refl _) h) he hG hD)
  have HRE := Lib.hid (fun w1 (h : Below w.heap.size w w1) => c_Res_ok a ah L hs n cap caph w1 (hM.below (Nat.le_refl _) h) (hH.below (Nat.le_refl _) h) he hG hD)
  have hGE := fun w1 (h : Below w.heap.size w w1) => c_gErr a ah L hs cap caph w1 (hM.below (Nat.le_refl _) h) (hH.below (Nat.le_refl _) h)
  have hCH := fun w1 (h : Below w.heap.size w w1) => c_gCheck a ah L hs cap caph w1 (hM.below (Nat.le_refl _) h) (hH.below (Nat.le_refl _) h)
  rw [he] at hGE hCH
  have HGE := Lib.hid hGE
  have HCH := Lib.hid hCH
  have HN := Lib.hid (gnum_of hG hD)
  obtain ⟨N, hN⟩ : ∃ N, N = L.length := ⟨_, rfl⟩
  have hl := hG.hl
  have HHK : Hid (∀ w', Below w.heap.size w w' → ∀ i, i < N → ∃ b off, w'.cell? ⟨b, off + i, none⟩ = some (.int .i64 (hF hs i)) ∧ ∀ w1 : World, (Instr.indexAt 23 (.slice ah N caph) (.int .i64 i)).run Try.prog w1 = .ok (.pointer (some ⟨b, off + i, none⟩)) w1) := Lib.hid (fun w' hb i hi => by
    obtain ⟨b, off, e, hb2, c⟩ := (hH.below (Nat.le_refl _) hb) i (by omega)
    exact ⟨b, off, by rw [hF_get (by omega)]; exact c, @ix_Int ah b off N caph i e hi⟩)
  have HRX : Hid (∀ i, i < N → ∃ b1 off1 a1 cap1, RowX w a N cap n (rwF L) i b1 off1 a1 cap1) := Lib.hid (fun i hi => by
    rw [hN] at hi ⊢
    exact row_x hM hG.len hi)
  obtain ⟨b1, off1, a1, cap1, hX0⟩ := HRX.out 0 (by have := hG.N1; omega)
  have z0 := hX0.c
  have z1 := hX0.ix
  have z2 := hX0.lt
  simp only [Int.natCast_zero, Nat.add_zero] at z0 z1
  rw [hl, ← hN] at HFI HRE HGE HCH
  rw [hl, ← hN]
  rw [← hN] at HN
  clear hM hH he hG hD hGE hCH hN hl hX0
  generalize rwF L = R at *
  generalize hF hs = H at *
  generalize fDn L hs n = Dn at *
  generalize fNm L hs n = Nm at *
  generalize rsL L hs n = LQ at *
  generalize rsG L hs n = G at *
  have N1 := HN.out.N1
  have N8 := HN.out.N8
  have n1 := HN.out.n1
  have n3 := HN.out.n3
  have d1 := HN.out.d1
  have d2 := HN.out.d2
  have q1 := HN.out.q1
  have q2 := HN.out.q2
  have q3 := HN.out.q3
  obtain ⟨QN, hQN⟩ : ∃ q, q = LQ / (G : Int) := ⟨_, rfl⟩
  obtain ⟨QD, hQD⟩ : ∃ q, q = Dn / (G : Int) := ⟨_, rfl⟩
  rw [← hQN] at q3
  rw [← hQD] at q1 q2
  have HQN := Lib.hid hQN
  have HQD := Lib.hid hQD
  simp only [← hQN, ← hQD] at HRE
  have HG1 : Hid (∀ w1, Calls Try.prog 13 #[.int .i64 QN, .int .i64 QD] w1 fun e w' => e = .returned (.int .i64 1) ∧ Below w1.heap.size w1 w') := Lib.hid (fun w1 => by
    have h := c_rGcd QN QD w1 (by omega) (by omega) (by omega) (by omega)
    have e := HN.out.gq
    rw [← hQN, ← hQD] at e
    rwa [e] at h)
  clear hQN hQD
  have t1 : ((n : Int) != (n : Int)) = false := by simp
  have t2 : decide (Dn < 1) = false := decide_eq_false (by omega)
  have t3 : decide (QD < 1) = false := decide_eq_false (by omega)
  have hN0 : 0 < N := N1
  have hgen := sgen; have hgen2 := sgen2; have hgen3 := sgen3; go_enter Try.func3, Try.ntmps3
  go_upto_region 12 with (first | (go_at_call 7; (with_reducible refine (c_gaugeWorks _).mono ?_); rintro e w1 ⟨rfl, hb⟩; have hz := hb.size; (try simp only [szA, szS, szD, szN] at hz); (try (refine bcB (n := w.heap.size) hb ?_; intro h_w_0 e_w_0 d_w_0 _ _))) | (go_at_call 8; (with_reducible refine (HFI.out _ (by exact belz)).mono ?_); rintro e w2 ⟨g, c, rfl, hc, hg, hgl, hcl, hb⟩; have hz := hb.size; (try simp only [szA, szS, szD, szN] at hz); (try (refine bcB (n := w.heap.size) hb ?_; intro h_w_0 e_w_0 d_w_0 _ _)); (try (refine bcB (n := w1.heap.size) hb ?_; intro h_w1_0 e_w1_0 d_w1_0 _ _))) | (go_at_call 9; (with_reducible refine (HRE.out _ (by exact belz)).mono ?_); rintro e w3 ⟨rfl, hb⟩; have hz := hb.size; (try simp only [szA, szS, szD, szN] at hz); (try (refine bcB (n := w.heap.size) hb ?_; intro h_w_0 e_w_0 d_w_0 _ _)); (try (refine bcB (n := w1.heap.size) hb ?_; intro h_w1_0 e_w1_0 d_w1_0 _ _)); (try (refine bcB (n := w2.heap.size) hb ?_; intro h_w2_0 e_w2_0 d_w2_0 _ _))) | (go_at_call 10; (with_reducible refine (HGE.out _ (by exact belz)).mono ?_); rintro e w' ⟨rfl, rfl⟩) | (go_at_call 11; (with_reducible refine (HCH.out _ (by exact belz)).mono ?_); rintro e w' ⟨rfl, rfl⟩))
  have hA : FitAt w3 w2.heap.size (.slice (some ⟨g, 0, none⟩) n c) Dn := by
    refine ⟨by omega, by go_simp, by go_simp, fun o => by go_simp⟩
  have hN3 : ∀ j, j < n → w3.cell? ⟨g, j, none⟩ = some (.int .i64 (Nm j)) := fun j hj => by
    have h5 := hcl j hj
    refine (hb.cell (p := ⟨g, j, none⟩) (by simp; omega)).trans ?_
    clear hcl
    go_simp
  have hg3 : g < w3.heap.size := by omega
  have hb3 : Below w.heap.size w w3 := by exact belz
  have a0 := hA.c0
  have a1' := hA.c1
  have y0 : w3.cell? ⟨b1, off1, none⟩ = some (.slice a1 n cap1) := (hb3.cell (p := ⟨b1, off1, none⟩) z2).trans z0
  have hz3 := hb3.size
  have hlA := hA.lt
  have hlb : b1 < w3.heap.size := by omega
  clear HFI HRE HGE HCH hcl hb
  go_cut [132] (fun x wc => x = .bool false ∧ Below w3.heap.size w3 wc)
  case first =>
    go_wp2_with fail
    go_region_held3 (fun w' => w'.cell? ⟨w2.heap.size, 0, none⟩ = some (.slice (some ⟨g, 0, none⟩) n c) ∧ w'.cell? ⟨w2.heap.size, 1, none⟩ = some (.int .i64 Dn) ∧ w'.cell? ⟨b1, off1, none⟩ = some (.slice a1 n cap1)) (refine ⟨?_, ?_, ?_⟩ <;> (first | (go_simp; done) | go_keep)) (first | (go_at_call 13; (with_reducible refine (HG1.out _).mono ?_); rintro e w4 ⟨rfl, hb⟩; have hz := hb.size; (try simp only [szA, szS, szD, szN] at hz); (try (refine bcB (n := w3.heap.size) hb ?_; intro h_w3_0 e_w3_0 d_w3_0 _ _)); (try (refine bcB (n := w2.heap.size) hb ?_; intro h_w2_0 e_w2_0 d_w2_0 _ _)); (try (refine bcB (n := b1) hb ?_; intro h_bb1_0 e_bb1_0 d_bb1_0 _ _))))
    all_goals go_wp2_with fail
    all_goals go_meet
    all_goals exact ⟨rfl, by exact belz⟩
  case rest =>
    obtain ⟨rfl, hbc⟩ := hcut
    obtain ⟨wd, rfl⟩ : ∃ wd : World, wd = wc := ⟨_, rfl⟩
    have hA4 := hA.below (B := w3.heap.size) hA.lt hbc
    have hN4 : ∀ j, j < n → wd.cell? ⟨g, j, none⟩ = some (.int .i64 (Nm j)) := fun j hj => (hbc.cell (p := ⟨g, j, none⟩) hg3).trans (hN3 j hj)
    have hb4 : Below w.heap.size w wd := hb3.trans (hbc.mono hz3)
    have hgd : g < wd.heap.size := Nat.lt_of_lt_of_le hg3 hbc.size
    clear hA hN3 hb3 a0 a1' y0 HG1 hbc
    have HA4 := Lib.hid hA4
    have HN4 := Lib.hid hN4
    have a0 := hA4.c0
    have a1' := hA4.c1
    clear hN4
    have hDz : Dn ≠ 0 := by omega
    have HST : Hid (Value.int .i64 Dn = .int .i64 (gN Dn Nm 0 : Int)) := Lib.hid (by unfold gN; congr 1; omega)
    go_upto_region 16 with fail
    go_loopg [11, 138] n (fun gk x11 i wr => ∃ j : Nat, gk + j = n ∧ i = .int .i64 (j : Int) ∧ x11 = .int .i64 (gN Dn Nm j : Int) ∧ Below wd.heap.size wd wr)
    case atStart => exact ⟨0, by omega, rfl, HST.out, Below.refl _ _⟩
    case round =>
      clear HST
      obtain ⟨j, hj, rfl, rfl, hbr⟩ := hrel
      obtain ⟨wo, rfl⟩ : ∃ wo : World, wo = wr := ⟨_, rfl⟩
      by_cases hjn : j < n
      · have hjz : (j : Int) < (n : Int) := by omega
        have hjc : (j : Int) < (c : Int) := by omega
        have c5 : wo.cell? ⟨g, j, none⟩ = some (.int .i64 (Nm j)) := (hbr.cell (p := ⟨g, j, none⟩) hgd).trans (HN4.out j hjn)
        have nmb := HN.out.nm j hjn
        have gle := gN_le hDz Nm j
        have HGC := Lib.hid (fun w1 => c_rGcd (gN Dn Nm j : Int) (Nm j) w1 (by omega) (by omega) (by omega) (by omega))
        rw [rgcd_gN hDz] at HGC
        go_wp2_with (go_at_call 13; (with_reducible refine (HGC.out _).mono ?_); rintro e w5 ⟨rfl, hb⟩; have hz := hb.size; (try simp only [szA, szS, szD, szN] at hz); (try (refine bcB (n := wo.heap.size) hb ?_; intro h_wo_0 e_wo_0 d_wo_0 _ _)))
        have hb5 : Below wd.heap.size wd w5 := hbr.trans (hb.mono hbr.size)
        go_roundg (n - (j + 1))
        case measure => omega
        case rel => exact ⟨j + 1, by omega, rfl, rfl, hb5⟩
      · obtain rfl : j = n := by omega
        rw [HN.out.one]
        have hA5 := hA4.below (B := wd.heap.size) hA4.lt hbr
        have hN5 : ∀ q, q < j → wo.cell? ⟨g, q, none⟩ = some (.int .i64 (Nm q)) := fun q hq => (hbr.cell (p := ⟨g, q, none⟩) hgd).trans (HN4.out q hq)
        have hb5 : Below w.heap.size w wo := hb4.trans (hbr.mono hb4.size)
        have HN5 := Lib.hid hN5
        clear HN4 HA4 hA4 hN5 a0 a1' hbr hb4
        have a0 := hA5.c0
        have a1' := hA5.c1
        have hlA5 := hA5.lt
        clear hA5
        go_upto_region 22 with fail
        go_loopg [14, 149] j (fun gk x14 i wr => ∃ q : Nat, ∃ xl : Int, gk + q = j ∧ i = .int .i64 (q : Int) ∧ x14 = .int .i64 xl ∧ (q = 0 → xl = 0) ∧ (q ≠ 0 → xl = LQ) ∧ ∃ kk, wr = wo.drewN kk)
        case atStart => exact ⟨0, 0, by omega, rfl, rfl, fun _ => rfl, fun h => absurd rfl h, 0, rfl⟩
        case round =>
          obtain ⟨q, xl, hq, rfl, rfl, hx0, hx1, kd, rfl⟩ := hrel
          have HX0 := Lib.hid hx0
          have HX1 := Lib.hid hx1
          clear hx0 hx1
          obtain ⟨ga, hga⟩ : ∃ ga, ga = gk := ⟨gk, rfl⟩
          by_cases hqj : q < j
          · have hqz : (q : Int) < (j : Int) := by omega
            go_upto_region 26 with fail
            go_loopg [14, 16, 154] N (fun gk x14 x16 i wr => ∃ k : Nat, ∃ xl : Int, gk + k = N ∧ i = .int .i64 (k : Int) ∧ x14 = .int .i64 xl ∧ (q = 0 → xl = smN k (fun i => dfF R H Dn Nm i j * H i)) ∧ (q ≠ 0 → xl = LQ) ∧ x16 = .int .i64 (smN k (fun i => dfF R H Dn Nm i j * R i q)) ∧ ∃ kk, wr = wo.drewN kk)
            case atStart => exact ⟨0, xl, by omega, rfl, rfl, HX0.out, HX1.out, rfl, kd, rfl⟩
            case round =>
              clear HX0 HX1
              obtain ⟨k, xl, hk, rfl, rfl, hx0, hx1, rfl, ke, rfl⟩ := hrel
              have HX0 := Lib.hid hx0
              have HX1 := Lib.hid hx1
              clear hx0 hx1
              obtain ⟨gb, hgb⟩ : ∃ gb, gb = gk := ⟨gk, rfl⟩
              by_cases hkN : k < N
              · have hkz : (k : Int) < (N : Int) := by omega
                obtain ⟨b2, off2, a2, cap2, hX⟩ := HRX.out k hkN
                have hXw := hX.below (hb5)
                have x0 := hXw.c
                have x1 := hXw.ix
                have HX := Lib.hid hXw
                clear hX hXw
                obtain ⟨b6, off6, c6, ix6⟩ := HHK.out wo hb5 k hkN
                have v1 := HN.out.bd.2 k hkN
                have v2 := mul_bd (A := 3072000000) (D := 1000) (x := Dn) (y := H k) ⟨by omega, d2⟩ v1
                have e1 : IntKind.i64.wrap (Dn * H k) = dfF R H Dn Nm k 0 := (IntWalk.i64_in _ (by omega)).trans (by unfold dfF; simp [smN])
                go_upto_region 28 with fail
                go_quiet (fail)
                clear e1 v1 v2
                go_upto_region 30 with fail
                go_loopg [19, 169] j (fun gk x19 i wr => ∃ p : Nat, gk + p = j ∧ i = .int .i64 (p : Int) ∧ x19 = .int .i64 (dfF R H Dn Nm k p) ∧ ∃ kk, wr = wo.drewN kk)
                case atStart => exact ⟨0, by omega, rfl, rfl, _, rfl⟩
                case round =>
                  obtain ⟨p, hp, rfl, rfl, kf, rfl⟩ := hrel
                  obtain ⟨gc, hgc⟩ : ∃ gc, gc = gk := ⟨gk, rfl⟩
                  by_cases hpj : p < j
                  · have hpz : (p : Int) < (j : Int) := by omega
                    have hpc : (p : Int) < (c : Int) := by omega
                    have c5 := HN5.out p hpj
                    obtain ⟨b7, off7, -, c7, ix7⟩ := HX.out.e p hpj
                    have u1 := HN.out.nm p hpj
                    have u2 := HN.out.bd.1 k p hkN hpj
                    have u3 := mul_bd (A := 10) (D := 307200000000) u2 u1
                    have u4 := HN.out.df hkN p (by omega)
                    have HDX : Hid (dfF R H Dn Nm k (p + 1) = dfF R H Dn Nm k p - R k p * Nm p) := Lib.hid (by unfold dfF; simp only [smN]; omega)
                    generalize dfF R H Dn Nm k p = df at *
                    generalize R k p = rr at *
                    generalize Nm p = nn at *
                    have e1 : IntKind.i64.wrap (rr * nn) = rr * nn := IntWalk.i64_in _ (by omega)
                    have e2 : IntKind.i64.wrap (df - rr * nn) = df - rr * nn := IntWalk.i64_in _ (by omega)
                    go_wp2_with fail
                    go_roundg (j - (p + 1))
                    case measure => omega
                    case rel => exact ⟨p + 1, by omega, rfl, by rw [HDX.out], kf, rfl⟩
                  · obtain rfl : p = j := by omega
                    obtain ⟨b7, off7, -, c7, ix7⟩ := HX.out.e q hqj
                    have u1 := HN.out.df hkN p (Nat.le_refl _)
                    have u2 := HN.out.bd.1 k q hkN hqj
                    have u3 := mul_bd (A := 12288000000000) (D := 10) u1 u2
                    have u4 := (HN.out.sums k (by omega)).1 q hqj
                    have HSX : Hid (smN (k + 1) (fun i => dfF R H Dn Nm i p * R i q) = smN k (fun i => dfF R H Dn Nm i p * R i q) + dfF R H Dn Nm k p * R k q) := Lib.hid rfl
                    have HSY : Hid (smN (k + 1) (fun i => dfF R H Dn Nm i p * H i) = smN k (fun i => dfF R H Dn Nm i p * H i) + dfF R H Dn Nm k p * H k) := Lib.hid rfl
                    have y1 := HN.out.bd.2 k hkN
                    have y2 := mul_bd (A := 12288000000000) (D := 1000) u1 y1
                    have y3 := (HN.out.sums k (by omega)).2
                    generalize smN k (fun i => dfF R H Dn Nm i p * R i q) = ss at *
                    generalize smN k (fun i => dfF R H Dn Nm i p * H i) = sy at *
                    generalize dfF R H Dn Nm k p = df at *
                    generalize R k q = rr at *
                    generalize H k = hk' at *
                    have e1 : IntKind.i64.wrap (df * rr) = df * rr := IntWalk.i64_in _ (by omega)
                    have e2 : IntKind.i64.wrap (ss + df * rr) = ss + df * rr := IntWalk.i64_in _ (by omega)
                    have e3 : IntKind.i64.wrap (df * hk') = df * hk' := IntWalk.i64_in _ (by omega)
                    have e4 : IntKind.i64.wrap (sy + df * hk') = sy + df * hk' := IntWalk.i64_in _ (by omega)
                    have hxl : -98304000000000000 ≤ xl ∧ xl ≤ 98304000000000000 ∨ q ≠ 0 := by
                      by_cases h : q = 0
                      · left; rw [HX0.out h]; exact y3
                      · exact .inr h
                    by_cases hq0 : q = 0
                    · have hxs := HX0.out hq0
                      subst hq0
                      subst hxs
                      simp only [Int.natCast_zero, Nat.add_zero] at c7 ix7
                      go_wp2_with fail
                      go_roundg (N - (k + 1))
                      case measure => omega
                      case rel => exact ⟨k + 1, _, by omega, rfl, rfl, fun _ => HSY.out.symm, fun h => absurd rfl h, by rw [HSX.out], kf, rfl⟩
                    · have f1 : ((q : Int) == 0) = false := by simp; omega
                      have HXL := Lib.hid (HX1.out hq0)
                      go_wp2_with fail
                      go_roundg (N - (k + 1))
                      case measure => omega
                      case rel => exact ⟨k + 1, _, by omega, rfl, rfl, fun h => absurd h hq0, fun _ => HXL.out, by rw [HSX.out], kf, rfl⟩
              · obtain rfl : k = N := by omega
                have ho := HN.out.orth q hqj
                have hlft := HN.out.left
                rw [ho]
                rw [hlft] at HX0
                go_wp2_with fail
                go_roundg (j - (q + 1))
                case measure => omega
                case rel =>
                  refine ⟨q + 1, xl, by omega, rfl, rfl, fun h => by omega, fun _ => ?_, ke, rfl⟩
                  by_cases h : q = 0
                  · exact HX0.out h
                  · exact HX1.out h
          · obtain rfl : q = j := by omega
            have hxl := HX1.out (by omega)
            subst hxl
            have lqb := HN.out.lq
            have HG2 := Lib.hid (fun w1 => c_rGcd xl Dn w1 (by omega) (by omega) (by omega) (by omega))
            rw [HN.out.gl] at HG2
            have hgp := HN.out.gp
            have hgn : G ≠ 0 := by omega
            have g0 : (((G : Nat) : Int) == 0) = false := by simp; omega
            have e1 : xl.tdiv (G : Int) = QN := HN.out.q4.trans HQN.out.symm
            have e2 : Dn.tdiv (G : Int) = QD := HN.out.q5.trans HQD.out.symm
            have e3 : IntKind.i64.wrap QN = QN := IntWalk.i64_in _ (by omega)
            have e4 : IntKind.i64.wrap QD = QD := IntWalk.i64_in _ (by omega)
            have e5 : (QN == QN) = true := by simp
            have e6 : (QD == QD) = true := by simp
            clear HX0 HX1 lqb HRX HHK
            go_upto_region 41 with fail
            have hb6 : Below w.heap.size w (wo.drewN kd) := by exact belz
            have hlA6 : w2.heap.size < (wo.drewN kd).heap.size := by simp; exact hlA5
            have a0' : (wo.drewN kd).cell? ⟨w2.heap.size, 1, none⟩ = some (.int .i64 Dn) := a1'
            clear a0 a1' hb5 HN5
            generalize wo.drewN kd = wx at *
            go_region_held3 (fun w' => w'.cell? ⟨w2.heap.size, 1, none⟩ = some (.int .i64 Dn)) (first | (go_simp; done) | go_keep) (first | ((have h := w8; clear h); (go_at_call 13; (with_reducible refine (HG2.out _).mono ?_); rintro e w9 ⟨rfl, hb⟩; have hz := hb.size; (try simp only [szA, szS, szD, szN] at hz); (try (refine bcB (n := wx.heap.size) hb ?_; intro h_wx_0 e_wx_0 d_wx_0 _ _)); (try (refine bcB (n := w2.heap.size) hb ?_; intro h_w2_0 e_w2_0 d_w2_0 _ _)); (try (refine bcB (n := w8.heap.size) hb ?_; intro h_w8_0 e_w8_0 d_w8_0 _ _)))) | (go_at_call 13; (with_reducible refine (HG2.out _).mono ?_); rintro e w8 ⟨rfl, hb⟩; have hz := hb.size; (try simp only [szA, szS, szD, szN] at hz); (try (refine bcB (n := wx.heap.size) hb ?_; intro h_wx_0 e_wx_0 d_wx_0 _ _)); (try (refine bcB (n := w2.heap.size) hb ?_; intro h_w2_0 e_w2_0 d_w2_0 _ _))))
            go_wp2
            go_ret
            refine ⟨rfl, ?_⟩
            exact belz
theorem walk_GaugeFits (a ah : Option Addr) (L : List (List Int)) (hs : List Int) (len cap lenh caph : Nat) (w : World) (hM : MatSlice w a L) (hH : IntSlice w ah hs) (e1 : L.length = len) (e2 : hs.length = lenh) :
    Calls Try.prog 3 #[.slice a len cap, .slice ah lenh caph] w fun e w' => e = .returned (.bool true) ∧ Below w.heap.size w w' := by
  subst e1 e2
  by_cases he : gErr L hs = 0
  · obtain ⟨n, hG, -⟩ := gok_of he
    by_cases hD : fD L n = 0
    · exact walk_gau_zero a ah L hs n cap caph w hM hH he hG hD
    · exact walk_gau_ok a ah L hs n cap caph w hM hH he hG hD
  · exact walk_gau_err a ah L hs cap caph w hM hH he
end Go.Proofs.Ytcnmjfngaahhmaa
