/- The walk through the law TideEnds where the tide is found. -/
import Derived.Test.YtjkhoepohiafeaaDoorWalkTde
set_option linter.unusedVariables false
set_option linter.unusedSimpArgs false
namespace Go.Proofs.YtjkhoepohiafeaaDoor
open Go.RowKit
theorem inst_mid2 {t t' x : Int} (h : instB t = true) (h' : instB t' = true) (h1 : t ≤ x) (h2 : x ≤ t') : instB x = true := by
  unfold instB at *
  simp at *
  omega
set_option maxRecDepth 100000 in
set_option maxHeartbeats 8000000 in
theorem walk_TdE_ok (l : List Tm) (t t' : Int) (a : Option Addr) (cap : Nat) (w : World) (hT : Tab w) (hc : l.length ≤ cap) (hs : TmSlice w a l) (hv : tdE l = 0) (ht : instB t = true) (ht' : instB t' = true) (h1 : t ≤ t') (h2 : t' - t ≤ 1728000000) :
    Calls Tryd.prog 10 #[.slice a l.length cap, .int .i64 t, .int .i64 t'] w fun e w' => e = .returned (.bool true) ∧ Below w.heap.size w w' := by
  obtain ⟨i1, i2⟩ := inst_bd ht
  obtain ⟨i3, i4⟩ := inst_bd ht'
  have HHI := Lib.hid (fun w1 h hs1 => c_tHigh l t t' a cap w1 h hc hs1 hv ht ht' h1 h2)
  have HLO := Lib.hid (fun w1 h hs1 => c_tLow l t t' a cap w1 h hc hs1 hv ht ht' h1 h2)
  have he := fun w1 hs1 => c_tideErr a cap l w1 hc hs1
  rw [hv] at he
  have hi := fun w1 => c_instErr t w1
  rw [instE_of.1 ht] at hi
  have hi' := fun w1 => c_instErr t' w1
  rw [instE_of.1 ht'] at hi'
  have HE := Lib.hid he
  have HI := Lib.hid hi
  have HI' := Lib.hid hi'
  have HB := Lib.hid (fun x => td_bd hv x)
  have HG := Lib.hid (fun x w1 (h : Tab w1) hs1 (x1 : t ≤ x) (x2 : x ≤ t') => c_tHeight l x a cap w1 h hc hs1 hv (inst_mid2 ht ht' x1 x2))
  have HS := Lib.hid hs
  have HT := Lib.hid hT
  obtain ⟨N, hN⟩ : ∃ N : Nat, N = tdN t t' - 1 := ⟨_, rfl⟩
  have hN2 : (N : Int) = (t' - t) / 3600000 := by rw [hN]; unfold tdN; omega
  rw [← hN] at HHI HLO
  have HRA := Lib.hid (fun (m : Nat) (T : Int) hT2 h => tdO_round PH l t m N (T := T) hT2 h)
  have HRB := Lib.hid (fun (m : Nat) (T : Int) hT2 h => tdO_round PL l t m N (T := T) hT2 h)
  have HTA := Lib.hid (fun (m : Nat) (T : Int) hT2 => tdT_at PH l t m (T := T) hT2)
  have HTB := Lib.hid (fun (m : Nat) (T : Int) hT2 => tdT_at PL l t m (T := T) hT2)
  have HZA : Hid (tdO PH l t N = tdO PH l t N) := Lib.hid rfl
  have la := tdO_len PH l t N
  have lb := tdO_len PL l t N
  have lA := Lib.hid (fun i => tdO_len PH l t i)
  have lB := Lib.hid (fun i => tdO_len PL l t i)
  have HEA := Lib.hid (fun (m : Nat) (h : m + 1 = N ∨ m = 0 ∧ N = 0) => show (tdO PH l t (m + 1)).length = (tdO PH l t N).length by
    rcases h with h | ⟨h, h'⟩
    · rw [h]
    · subst h; rw [h']; rfl)
  have HEB := Lib.hid (fun (m : Nat) (h : m + 1 = N ∨ m = 0 ∧ N = 0) => show (tdO PL l t (m + 1)).length = (tdO PL l t N).length by
    rcases h with h | ⟨h, h'⟩
    · rw [h]
    · subst h; rw [h']; rfl)
  have g1 : decide (t' < t) = false := decide_eq_false (by omega)
  have g2 : decide (1728000000 < t' - t) = false := decide_eq_false (by omega)
  have g3 : IntKind.i64.wrap (t' - t) = t' - t := IntWalk.i64_in _ (by omega)
  have HN2 := Lib.hid hN2
  have hn480 : N ≤ 480 := by omega
  clear hs hT hv he hi hi' ht ht' h1 h2 hN hN2
  generalize hLA : tdO PH l t N = LA at *
  generalize hLB : tdO PL l t N = LB at *
  have hgen := sgen; have hgen2 := sgen2; have hgen3 := sgen3; go_enter Tryd.func10, Tryd.ntmps10
  go_upto_region 15 with (first | (go_at_call 31; (refine (c_tideWorks _ (HT.out.below (by exact belz))).mono ?_); rintro e w1 ⟨rfl, hb⟩; have hz := hb.size; (try simp only [szA, szS, szD, szN] at hz); (try (refine bcB (n := w.heap.size) hb ?_; intro h_w_0 e_w_0 d_w_0 _ _))) | (go_at_call 38; (refine (HHI.out _ (HT.out.below (by exact belz)) (HS.out.below (Nat.le_refl _) (by exact belz))).mono ?_); rintro e w2 ⟨aA, capA, rfl, hcA, hsA, hb⟩; have hz := hb.size; (try simp only [szA, szS, szD, szN] at hz); (try (refine bcB (n := w.heap.size) hb ?_; intro h_w_0 e_w_0 d_w_0 _ _)); (try (refine bcB (n := w1.heap.size) hb ?_; intro h_w1_0 e_w1_0 d_w1_0 _ _))) | (go_at_call 39; (refine (HLO.out _ (HT.out.below (by exact belz)) (HS.out.below (Nat.le_refl _) (by exact belz))).mono ?_); rintro e w3 ⟨aB, capB, rfl, hcB, hsB, hb⟩; have hz := hb.size; (try simp only [szA, szS, szD, szN] at hz); (try (refine bcB (n := w.heap.size) hb ?_; intro h_w_0 e_w_0 d_w_0 _ _)); (try (refine bcB (n := w1.heap.size) hb ?_; intro h_w1_0 e_w1_0 d_w1_0 _ _)); (try (refine bcB (n := w2.heap.size) hb ?_; intro h_w2_0 e_w2_0 d_w2_0 _ _))) | (go_at_call 33; (refine (HE.out _ (HS.out.below (Nat.le_refl _) (by exact belz))).mono ?_); rintro e w4 ⟨rfl, hb⟩; have hz := hb.size; (try simp only [szA, szS, szD, szN] at hz); (try (refine bcB (n := w.heap.size) hb ?_; intro h_w_0 e_w_0 d_w_0 _ _)); (try (refine bcB (n := w1.heap.size) hb ?_; intro h_w1_0 e_w1_0 d_w1_0 _ _)); (try (refine bcB (n := w2.heap.size) hb ?_; intro h_w2_0 e_w2_0 d_w2_0 _ _)); (try (refine bcB (n := w3.heap.size) hb ?_; intro h_w3_0 e_w3_0 d_w3_0 _ _))) | (go_at_call 23; (first | (with_reducible refine (HI.out _).mono ?_) | (with_reducible refine (HI'.out _).mono ?_)); rintro e w' ⟨rfl, rfl⟩))
  have hb4 : Below w.heap.size w w4 := by exact belz
  have HA := Lib.hid (hsA.below (Nat.le_refl _) (Below.call (show Below w2.heap.size w2 w3 by assumption) (by omega) hb))
  have HB2 := Lib.hid (hsB.below (Nat.le_refl _) hb)
  clear hsA hsB HHI HLO HE HI HI'
  clear hLA hLB HZA g1 g2 g3
  go_wp2_with fail
  go_loopg [12, 13, 14] N (fun gk x12 x13 x14 wr => ∃ m : Nat, gk + m = N ∧ (m + 1 ≤ N ∨ m = 0) ∧ x12 = .int .i64 ((tdO PH l t (m + 1)).length : Int) ∧ x13 = .int .i64 ((tdO PL l t (m + 1)).length : Int) ∧ x14 = .int .i64 (t + 3600000 * ((m : Int) + 1)) ∧ Below w4.heap.size w4 wr)
  case atStart => exact ⟨0, by omega, .inr rfl, rfl, rfl, by simp, Below.refl _ _⟩
  case round =>
    obtain ⟨m, hm, hm2, rfl, rfl, rfl, hbel⟩ := hrel
    have hsz := hbel.size
    have hsz4 := hb4.size
    have hbW : Below w.heap.size w wr := Below.call hb4 hsz4 hbel
    by_cases hlt : m + 2 ≤ N
    · obtain ⟨T, hT2⟩ : ∃ T, T = t + 3600000 * ((m : Int) + 1) := ⟨_, rfl⟩
      have nT : t + 3600000 * (((m + 1 : Nat) : Int) + 1) = T + 3600000 := by omega
      have NT := Lib.hid nT
      have rA := HRA.out m T hT2 hlt
      have rB := HRB.out m T hT2 hlt
      rw [HTA.out m T hT2] at rA
      rw [HTB.out m T hT2] at rB
      have hn2 := HN2.out
      have t1 : t ≤ T - 3600000 := by omega
      have t2 : T + 3600000 ≤ t' := by omega
      have oA := lA.out (m + 1)
      have oB := lB.out (m + 1)
      obtain ⟨b1, b2, b3, b4⟩ := HB.out T
      obtain ⟨b5, b6, b7, b8⟩ := HB.out (T - 3600000)
      obtain ⟨b9, b10, b11, b12⟩ := HB.out (T + 3600000)
      have HP := Lib.hid (fun w1 h hs1 => HG.out (T - 3600000) w1 h hs1 t1 (by omega))
      have HQ := Lib.hid (fun w1 h hs1 => HG.out T w1 h hs1 (by omega) (by omega))
      have HR := Lib.hid (fun w1 h hs1 => HG.out (T + 3600000) w1 h hs1 (by omega) t2)
      rw [← hT2]
      unfold PH at rA
      unfold PL at rB
      change _ ∨ _ at rA
      generalize tdLo l (T - 3600000) = pl at *
      generalize tdHi l (T - 3600000) = ph at *
      generalize tdLo l (T + 3600000) = rl at *
      generalize tdHi l (T + 3600000) = rh at *
      generalize tdLo l T = ql at *
      generalize tdHi l T = qh at *
      have sA : (decide (ph < ql) = true ∧ decide (rh < ql) = true ∧ (tdO PH l t (m + 1 + 1)).length = (tdO PH l t (m + 1)).length + 1 ∧ ∃ h : (tdO PH l t (m + 1)).length < LA.length, LA[(tdO PH l t (m + 1)).length] = ⟨T - 3600000, T + 3600000⟩) ∨ (decide (ph < ql) = false ∧ (tdO PH l t (m + 1 + 1)).length = (tdO PH l t (m + 1)).length) ∨ (decide (ph < ql) = true ∧ decide (rh < ql) = false ∧ (tdO PH l t (m + 1 + 1)).length = (tdO PH l t (m + 1)).length) := by
        rcases rA with ⟨e, e2, e3⟩ | ⟨e, e2⟩
        · rw [Bool.and_eq_true] at e
          exact .inl ⟨e.1, e.2, e2, e3⟩
        · cases hx : decide (ph < ql) with
          | false => exact .inr (.inl ⟨rfl, e2⟩)
          | true => rw [hx, Bool.true_and] at e; exact .inr (.inr ⟨rfl, e, e2⟩)
      have sB : (decide (qh < pl) = true ∧ decide (qh < rl) = true ∧ (tdO PL l t (m + 1 + 1)).length = (tdO PL l t (m + 1)).length + 1 ∧ ∃ h : (tdO PL l t (m + 1)).length < LB.length, LB[(tdO PL l t (m + 1)).length] = ⟨T - 3600000, T + 3600000⟩) ∨ (decide (qh < pl) = false ∧ (tdO PL l t (m + 1 + 1)).length = (tdO PL l t (m + 1)).length) ∨ (decide (qh < pl) = true ∧ decide (qh < rl) = false ∧ (tdO PL l t (m + 1 + 1)).length = (tdO PL l t (m + 1)).length) := by
        rcases rB with ⟨e, e2, e3⟩ | ⟨e, e2⟩
        · rw [Bool.and_eq_true] at e
          exact .inl ⟨e.1, e.2, e2, e3⟩
        · cases hx : decide (qh < pl) with
          | false => exact .inr (.inl ⟨rfl, e2⟩)
          | true => rw [hx, Bool.true_and] at e; exact .inr (.inr ⟨rfl, e, e2⟩)
      clear rA rB
      obtain ⟨iA', hiA⟩ : ∃ i, i = (tdO PH l t (m + 1 + 1)).length := ⟨_, rfl⟩
      obtain ⟨iB', hiB⟩ : ∃ i, i = (tdO PL l t (m + 1 + 1)).length := ⟨_, rfl⟩
      rw [← hiA] at sA
      rw [← hiB] at sB
      have HIA := Lib.hid hiA
      have HIB := Lib.hid hiB
      clear hiA hiB
      generalize (tdO PH l t (m + 1)).length = iA at *
      generalize (tdO PL l t (m + 1)).length = iB at *
      have gt1 : decide (T + 3600000 ≤ t') = true := decide_eq_true t2
      have v1 : IntKind.i64.wrap (T - 3600000) = T - 3600000 := IntWalk.i64_in _ (by omega)
      have v2 : IntKind.i64.wrap (T + 3600000) = T + 3600000 := IntWalk.i64_in _ (by omega)
      have m480 : (m : Int) ≤ 480 := by omega
      have iA0 : (iA : Int) ≤ 1000 := by omega
      have iB0 : (iB : Int) ≤ 1000 := by omega
      clear hT2 hn2 nT oA oB b1 b2 b3 b4 b5 b6 b7 b8 b9 b10 b11 b12
      rcases sA with ⟨d1, d2, eA, hlA, elA⟩ | ⟨d1, eA⟩ | ⟨d1, d2, eA⟩ <;> rcases sB with ⟨d3, d4, eB, hlB, elB⟩ | ⟨d3, eB⟩ | ⟨d3, d4, eB⟩
      · subst eA eB
        obtain ⟨bA, offA, haA, hbA, e0A, e1A⟩ := HA.out iA hlA
        have ixA := @ix_Sp aA bA offA LA.length capA iA haA hlA
        rw [elA] at e0A e1A
        dsimp only at e0A e1A
        refine bcUse (n := bA) hbel hbA ?_
        intro cA fA
        have wwA : bA < wr.heap.size := by omega
        have geA : decide ((LA.length : Int) ≤ (iA : Int)) = false := decide_eq_false (by omega)
        clear haA
        obtain ⟨bB, offB, haB, hbB, e0B, e1B⟩ := HB2.out iB hlB
        have ixB := @ix_Sp aB bB offB LB.length capB iB haB hlB
        rw [elB] at e0B e1B
        dsimp only at e0B e1B
        refine bcUse (n := bB) hbel hbB ?_
        intro cB fB
        have wwB : bB < wr.heap.size := by omega
        have geB : decide ((LB.length : Int) ≤ (iB : Int)) = false := decide_eq_false (by omega)
        clear haB
        clear HRA HRB HTA HTB HB HG HEA HEB HA HB2 HN2 lA lB
        go_upto_region 24 with (first | (go_at_call 32; (with_reducible refine (HP.out _ (HT.out.below (by exact belz)) (HS.out.below (Nat.le_refl _) (by exact belz))).mono ?_); rintro e w5 ⟨rfl, hb⟩; have hz := hb.size; (try simp only [szA, szS, szD, szN] at hz); (try (refine bcB (n := w4.heap.size) hb ?_; intro h_w4_0 e_w4_0 d_w4_0 _ _)); (try (refine bcB (n := wr.heap.size) hb ?_; intro h_wr_0 e_wr_0 d_wr_0 _ _)); (try (refine bcB (n := bA) hb ?_; intro h_bbA_0 e_bbA_0 d_bbA_0 _ _)); (try (refine bcB (n := bB) hb ?_; intro h_bbB_0 e_bbB_0 d_bbB_0 _ _))) | (go_at_call 32; (with_reducible refine (HQ.out _ (HT.out.below (by exact belz)) (HS.out.below (Nat.le_refl _) (by exact belz))).mono ?_); rintro e w6 ⟨rfl, hb⟩; have hz := hb.size; (try simp only [szA, szS, szD, szN] at hz); (try (refine bcB (n := w4.heap.size) hb ?_; intro h_w4_0 e_w4_0 d_w4_0 _ _)); (try (refine bcB (n := wr.heap.size) hb ?_; intro h_wr_0 e_wr_0 d_wr_0 _ _)); (try (refine bcB (n := w5.heap.size) hb ?_; intro h_w5_0 e_w5_0 d_w5_0 _ _)); (try (refine bcB (n := bA) hb ?_; intro h_bbA_0 e_bbA_0 d_bbA_0 _ _)); (try (refine bcB (n := bB) hb ?_; intro h_bbB_0 e_bbB_0 d_bbB_0 _ _))) | (go_at_call 32; (with_reducible refine (HR.out _ (HT.out.below (by exact belz)) (HS.out.below (Nat.le_refl _) (by exact belz))).mono ?_); rintro e w7 ⟨rfl, hb⟩; have hz := hb.size; (try simp only [szA, szS, szD, szN] at hz); (try (refine bcB (n := w4.heap.size) hb ?_; intro h_w4_0 e_w4_0 d_w4_0 _ _)); (try (refine bcB (n := wr.heap.size) hb ?_; intro h_wr_0 e_wr_0 d_wr_0 _ _)); (try (refine bcB (n := w5.heap.size) hb ?_; intro h_w5_0 e_w5_0 d_w5_0 _ _)); (try (refine bcB (n := w6.heap.size) hb ?_; intro h_w6_0 e_w6_0 d_w6_0 _ _)); (try (refine bcB (n := bA) hb ?_; intro h_bbA_0 e_bbA_0 d_bbA_0 _ _)); (try (refine bcB (n := bB) hb ?_; intro h_bbB_0 e_bbB_0 d_bbB_0 _ _))))
        go_quiet (fail)
        go_upto_region 28 with (first | (go_at_call 32; (with_reducible refine (HP.out _ (HT.out.below (by exact belz)) (HS.out.below (Nat.le_refl _) (by exact belz))).mono ?_); rintro e w5 ⟨rfl, hb⟩; have hz := hb.size; (try simp only [szA, szS, szD, szN] at hz); (try (refine bcB (n := w4.heap.size) hb ?_; intro h_w4_0 e_w4_0 d_w4_0 _ _)); (try (refine bcB (n := wr.heap.size) hb ?_; intro h_wr_0 e_wr_0 d_wr_0 _ _)); (try (refine bcB (n := bA) hb ?_; intro h_bbA_0 e_bbA_0 d_bbA_0 _ _)); (try (refine bcB (n := bB) hb ?_; intro h_bbB_0 e_bbB_0 d_bbB_0 _ _))) | (go_at_call 32; (with_reducible refine (HQ.out _ (HT.out.below (by exact belz)) (HS.out.below (Nat.le_refl _) (by exact belz))).mono ?_); rintro e w6 ⟨rfl, hb⟩; have hz := hb.size; (try simp only [szA, szS, szD, szN] at hz); (try (refine bcB (n := w4.heap.size) hb ?_; intro h_w4_0 e_w4_0 d_w4_0 _ _)); (try (refine bcB (n := wr.heap.size) hb ?_; intro h_wr_0 e_wr_0 d_wr_0 _ _)); (try (refine bcB (n := w5.heap.size) hb ?_; intro h_w5_0 e_w5_0 d_w5_0 _ _)); (try (refine bcB (n := bA) hb ?_; intro h_bbA_0 e_bbA_0 d_bbA_0 _ _)); (try (refine bcB (n := bB) hb ?_; intro h_bbB_0 e_bbB_0 d_bbB_0 _ _))) | (go_at_call 32; (with_reducible refine (HR.out _ (HT.out.below (by exact belz)) (HS.out.below (Nat.le_refl _) (by exact belz))).mono ?_); rintro e w7 ⟨rfl, hb⟩; have hz := hb.size; (try simp only [szA, szS, szD, szN] at hz); (try (refine bcB (n := w4.heap.size) hb ?_; intro h_w4_0 e_w4_0 d_w4_0 _ _)); (try (refine bcB (n := wr.heap.size) hb ?_; intro h_wr_0 e_wr_0 d_wr_0 _ _)); (try (refine bcB (n := w5.heap.size) hb ?_; intro h_w5_0 e_w5_0 d_w5_0 _ _)); (try (refine bcB (n := w6.heap.size) hb ?_; intro h_w6_0 e_w6_0 d_w6_0 _ _)); (try (refine bcB (n := bA) hb ?_; intro h_bbA_0 e_bbA_0 d_bbA_0 _ _)); (try (refine bcB (n := bB) hb ?_; intro h_bbB_0 e_bbB_0 d_bbB_0 _ _))))
        go_quiet (fail)
        go_wp2_with (first | (go_at_call 32; (with_reducible refine (HP.out _ (HT.out.below (by exact belz)) (HS.out.below (Nat.le_refl _) (by exact belz))).mono ?_); rintro e w5 ⟨rfl, hb⟩; have hz := hb.size; (try simp only [szA, szS, szD, szN] at hz); (try (refine bcB (n := w4.heap.size) hb ?_; intro h_w4_0 e_w4_0 d_w4_0 _ _)); (try (refine bcB (n := wr.heap.size) hb ?_; intro h_wr_0 e_wr_0 d_wr_0 _ _)); (try (refine bcB (n := bA) hb ?_; intro h_bbA_0 e_bbA_0 d_bbA_0 _ _)); (try (refine bcB (n := bB) hb ?_; intro h_bbB_0 e_bbB_0 d_bbB_0 _ _))) | (go_at_call 32; (with_reducible refine (HQ.out _ (HT.out.below (by exact belz)) (HS.out.below (Nat.le_refl _) (by exact belz))).mono ?_); rintro e w6 ⟨rfl, hb⟩; have hz := hb.size; (try simp only [szA, szS, szD, szN] at hz); (try (refine bcB (n := w4.heap.size) hb ?_; intro h_w4_0 e_w4_0 d_w4_0 _ _)); (try (refine bcB (n := wr.heap.size) hb ?_; intro h_wr_0 e_wr_0 d_wr_0 _ _)); (try (refine bcB (n := w5.heap.size) hb ?_; intro h_w5_0 e_w5_0 d_w5_0 _ _)); (try (refine bcB (n := bA) hb ?_; intro h_bbA_0 e_bbA_0 d_bbA_0 _ _)); (try (refine bcB (n := bB) hb ?_; intro h_bbB_0 e_bbB_0 d_bbB_0 _ _))) | (go_at_call 32; (with_reducible refine (HR.out _ (HT.out.below (by exact belz)) (HS.out.below (Nat.le_refl _) (by exact belz))).mono ?_); rintro e w7 ⟨rfl, hb⟩; have hz := hb.size; (try simp only [szA, szS, szD, szN] at hz); (try (refine bcB (n := w4.heap.size) hb ?_; intro h_w4_0 e_w4_0 d_w4_0 _ _)); (try (refine bcB (n := wr.heap.size) hb ?_; intro h_wr_0 e_wr_0 d_wr_0 _ _)); (try (refine bcB (n := w5.heap.size) hb ?_; intro h_w5_0 e_w5_0 d_w5_0 _ _)); (try (refine bcB (n := w6.heap.size) hb ?_; intro h_w6_0 e_w6_0 d_w6_0 _ _)); (try (refine bcB (n := bA) hb ?_; intro h_bbA_0 e_bbA_0 d_bbA_0 _ _)); (try (refine bcB (n := bB) hb ?_; intro h_bbB_0 e_bbB_0 d_bbB_0 _ _))))
        go_roundg (N - (m + 1))
        case measure => omega
        case rel =>
          refine ⟨m + 1, by omega, .inl (by omega), by rw [← HIA.out]; (try first | rfl | (push_cast; rfl)), by rw [← HIB.out]; (try first | rfl | (push_cast; rfl)), by rw [NT.out], ?_⟩
          exact belz
      · subst eA eB
        obtain ⟨bA, offA, haA, hbA, e0A, e1A⟩ := HA.out iA hlA
        have ixA := @ix_Sp aA bA offA LA.length capA iA haA hlA
        rw [elA] at e0A e1A
        dsimp only at e0A e1A
        refine bcUse (n := bA) hbel hbA ?_
        intro cA fA
        have wwA : bA < wr.heap.size := by omega
        have geA : decide ((LA.length : Int) ≤ (iA : Int)) = false := decide_eq_false (by omega)
        clear haA
        clear HRA HRB HTA HTB HB HG HEA HEB HA HB2 HN2 lA lB
        go_upto_region 24 with (first | (go_at_call 32; (with_reducible refine (HP.out _ (HT.out.below (by exact belz)) (HS.out.below (Nat.le_refl _) (by exact belz))).mono ?_); rintro e w5 ⟨rfl, hb⟩; have hz := hb.size; (try simp only [szA, szS, szD, szN] at hz); (try (refine bcB (n := w4.heap.size) hb ?_; intro h_w4_0 e_w4_0 d_w4_0 _ _)); (try (refine bcB (n := wr.heap.size) hb ?_; intro h_wr_0 e_wr_0 d_wr_0 _ _)); (try (refine bcB (n := bA) hb ?_; intro h_bbA_0 e_bbA_0 d_bbA_0 _ _)); (try (refine bcB (n := bB) hb ?_; intro h_bbB_0 e_bbB_0 d_bbB_0 _ _))) | (go_at_call 32; (with_reducible refine (HQ.out _ (HT.out.below (by exact belz)) (HS.out.below (Nat.le_refl _) (by exact belz))).mono ?_); rintro e w6 ⟨rfl, hb⟩; have hz := hb.size; (try simp only [szA, szS, szD, szN] at hz); (try (refine bcB (n := w4.heap.size) hb ?_; intro h_w4_0 e_w4_0 d_w4_0 _ _)); (try (refine bcB (n := wr.heap.size) hb ?_; intro h_wr_0 e_wr_0 d_wr_0 _ _)); (try (refine bcB (n := w5.heap.size) hb ?_; intro h_w5_0 e_w5_0 d_w5_0 _ _)); (try (refine bcB (n := bA) hb ?_; intro h_bbA_0 e_bbA_0 d_bbA_0 _ _)); (try (refine bcB (n := bB) hb ?_; intro h_bbB_0 e_bbB_0 d_bbB_0 _ _))) | (go_at_call 32; (with_reducible refine (HR.out _ (HT.out.below (by exact belz)) (HS.out.below (Nat.le_refl _) (by exact belz))).mono ?_); rintro e w7 ⟨rfl, hb⟩; have hz := hb.size; (try simp only [szA, szS, szD, szN] at hz); (try (refine bcB (n := w4.heap.size) hb ?_; intro h_w4_0 e_w4_0 d_w4_0 _ _)); (try (refine bcB (n := wr.heap.size) hb ?_; intro h_wr_0 e_wr_0 d_wr_0 _ _)); (try (refine bcB (n := w5.heap.size) hb ?_; intro h_w5_0 e_w5_0 d_w5_0 _ _)); (try (refine bcB (n := w6.heap.size) hb ?_; intro h_w6_0 e_w6_0 d_w6_0 _ _)); (try (refine bcB (n := bA) hb ?_; intro h_bbA_0 e_bbA_0 d_bbA_0 _ _)); (try (refine bcB (n := bB) hb ?_; intro h_bbB_0 e_bbB_0 d_bbB_0 _ _))))
        go_quiet (fail)
        go_wp2_with (first | (go_at_call 32; (with_reducible refine (HP.out _ (HT.out.below (by exact belz)) (HS.out.below (Nat.le_refl _) (by exact belz))).mono ?_); rintro e w5 ⟨rfl, hb⟩; have hz := hb.size; (try simp only [szA, szS, szD, szN] at hz); (try (refine bcB (n := w4.heap.size) hb ?_; intro h_w4_0 e_w4_0 d_w4_0 _ _)); (try (refine bcB (n := wr.heap.size) hb ?_; intro h_wr_0 e_wr_0 d_wr_0 _ _)); (try (refine bcB (n := bA) hb ?_; intro h_bbA_0 e_bbA_0 d_bbA_0 _ _)); (try (refine bcB (n := bB) hb ?_; intro h_bbB_0 e_bbB_0 d_bbB_0 _ _))) | (go_at_call 32; (with_reducible refine (HQ.out _ (HT.out.below (by exact belz)) (HS.out.below (Nat.le_refl _) (by exact belz))).mono ?_); rintro e w6 ⟨rfl, hb⟩; have hz := hb.size; (try simp only [szA, szS, szD, szN] at hz); (try (refine bcB (n := w4.heap.size) hb ?_; intro h_w4_0 e_w4_0 d_w4_0 _ _)); (try (refine bcB (n := wr.heap.size) hb ?_; intro h_wr_0 e_wr_0 d_wr_0 _ _)); (try (refine bcB (n := w5.heap.size) hb ?_; intro h_w5_0 e_w5_0 d_w5_0 _ _)); (try (refine bcB (n := bA) hb ?_; intro h_bbA_0 e_bbA_0 d_bbA_0 _ _)); (try (refine bcB (n := bB) hb ?_; intro h_bbB_0 e_bbB_0 d_bbB_0 _ _))) | (go_at_call 32; (with_reducible refine (HR.out _ (HT.out.below (by exact belz)) (HS.out.below (Nat.le_refl _) (by exact belz))).mono ?_); rintro e w7 ⟨rfl, hb⟩; have hz := hb.size; (try simp only [szA, szS, szD, szN] at hz); (try (refine bcB (n := w4.heap.size) hb ?_; intro h_w4_0 e_w4_0 d_w4_0 _ _)); (try (refine bcB (n := wr.heap.size) hb ?_; intro h_wr_0 e_wr_0 d_wr_0 _ _)); (try (refine bcB (n := w5.heap.size) hb ?_; intro h_w5_0 e_w5_0 d_w5_0 _ _)); (try (refine bcB (n := w6.heap.size) hb ?_; intro h_w6_0 e_w6_0 d_w6_0 _ _)); (try (refine bcB (n := bA) hb ?_; intro h_bbA_0 e_bbA_0 d_bbA_0 _ _)); (try (refine bcB (n := bB) hb ?_; intro h_bbB_0 e_bbB_0 d_bbB_0 _ _))))
        go_roundg (N - (m + 1))
        case measure => omega
        case rel =>
          refine ⟨m + 1, by omega, .inl (by omega), by rw [← HIA.out]; (try first | rfl | (push_cast; rfl)), by rw [← HIB.out]; (try first | rfl | (push_cast; rfl)), by rw [NT.out], ?_⟩
          exact belz
      · subst eA eB
        obtain ⟨bA, offA, haA, hbA, e0A, e1A⟩ := HA.out iA hlA
        have ixA := @ix_Sp aA bA offA LA.length capA iA haA hlA
        rw [elA] at e0A e1A
        dsimp only at e0A e1A
        refine bcUse (n := bA) hbel hbA ?_
        intro cA fA
        have wwA : bA < wr.heap.size := by omega
        have geA : decide ((LA.length : Int) ≤ (iA : Int)) = false := decide_eq_false (by omega)
        clear haA
        clear HRA HRB HTA HTB HB HG HEA HEB HA HB2 HN2 lA lB
        go_upto_region 24 with (first | (go_at_call 32; (with_reducible refine (HP.out _ (HT.out.below (by exact belz)) (HS.out.below (Nat.le_refl _) (by exact belz))).mono ?_); rintro e w5 ⟨rfl, hb⟩; have hz := hb.size; (try simp only [szA, szS, szD, szN] at hz); (try (refine bcB (n := w4.heap.size) hb ?_; intro h_w4_0 e_w4_0 d_w4_0 _ _)); (try (refine bcB (n := wr.heap.size) hb ?_; intro h_wr_0 e_wr_0 d_wr_0 _ _)); (try (refine bcB (n := bA) hb ?_; intro h_bbA_0 e_bbA_0 d_bbA_0 _ _)); (try (refine bcB (n := bB) hb ?_; intro h_bbB_0 e_bbB_0 d_bbB_0 _ _))) | (go_at_call 32; (with_reducible refine (HQ.out _ (HT.out.below (by exact belz)) (HS.out.below (Nat.le_refl _) (by exact belz))).mono ?_); rintro e w6 ⟨rfl, hb⟩; have hz := hb.size; (try simp only [szA, szS, szD, szN] at hz); (try (refine bcB (n := w4.heap.size) hb ?_; intro h_w4_0 e_w4_0 d_w4_0 _ _)); (try (refine bcB (n := wr.heap.size) hb ?_; intro h_wr_0 e_wr_0 d_wr_0 _ _)); (try (refine bcB (n := w5.heap.size) hb ?_; intro h_w5_0 e_w5_0 d_w5_0 _ _)); (try (refine bcB (n := bA) hb ?_; intro h_bbA_0 e_bbA_0 d_bbA_0 _ _)); (try (refine bcB (n := bB) hb ?_; intro h_bbB_0 e_bbB_0 d_bbB_0 _ _))) | (go_at_call 32; (with_reducible refine (HR.out _ (HT.out.below (by exact belz)) (HS.out.below (Nat.le_refl _) (by exact belz))).mono ?_); rintro e w7 ⟨rfl, hb⟩; have hz := hb.size; (try simp only [szA, szS, szD, szN] at hz); (try (refine bcB (n := w4.heap.size) hb ?_; intro h_w4_0 e_w4_0 d_w4_0 _ _)); (try (refine bcB (n := wr.heap.size) hb ?_; intro h_wr_0 e_wr_0 d_wr_0 _ _)); (try (refine bcB (n := w5.heap.size) hb ?_; intro h_w5_0 e_w5_0 d_w5_0 _ _)); (try (refine bcB (n := w6.heap.size) hb ?_; intro h_w6_0 e_w6_0 d_w6_0 _ _)); (try (refine bcB (n := bA) hb ?_; intro h_bbA_0 e_bbA_0 d_bbA_0 _ _)); (try (refine bcB (n := bB) hb ?_; intro h_bbB_0 e_bbB_0 d_bbB_0 _ _))))
        go_quiet (fail)
        go_wp2_with (first | (go_at_call 32; (with_reducible refine (HP.out _ (HT.out.below (by exact belz)) (HS.out.below (Nat.le_refl _) (by exact belz))).mono ?_); rintro e w5 ⟨rfl, hb⟩; have hz := hb.size; (try simp only [szA, szS, szD, szN] at hz); (try (refine bcB (n := w4.heap.size) hb ?_; intro h_w4_0 e_w4_0 d_w4_0 _ _)); (try (refine bcB (n := wr.heap.size) hb ?_; intro h_wr_0 e_wr_0 d_wr_0 _ _)); (try (refine bcB (n := bA) hb ?_; intro h_bbA_0 e_bbA_0 d_bbA_0 _ _)); (try (refine bcB (n := bB) hb ?_; intro h_bbB_0 e_bbB_0 d_bbB_0 _ _))) | (go_at_call 32; (with_reducible refine (HQ.out _ (HT.out.below (by exact belz)) (HS.out.below (Nat.le_refl _) (by exact belz))).mono ?_); rintro e w6 ⟨rfl, hb⟩; have hz := hb.size; (try simp only [szA, szS, szD, szN] at hz); (try (refine bcB (n := w4.heap.size) hb ?_; intro h_w4_0 e_w4_0 d_w4_0 _ _)); (try (refine bcB (n := wr.heap.size) hb ?_; intro h_wr_0 e_wr_0 d_wr_0 _ _)); (try (refine bcB (n := w5.heap.size) hb ?_; intro h_w5_0 e_w5_0 d_w5_0 _ _)); (try (refine bcB (n := bA) hb ?_; intro h_bbA_0 e_bbA_0 d_bbA_0 _ _)); (try (refine bcB (n := bB) hb ?_; intro h_bbB_0 e_bbB_0 d_bbB_0 _ _))) | (go_at_call 32; (with_reducible refine (HR.out _ (HT.out.below (by exact belz)) (HS.out.below (Nat.le_refl _) (by exact belz))).mono ?_); rintro e w7 ⟨rfl, hb⟩; have hz := hb.size; (try simp only [szA, szS, szD, szN] at hz); (try (refine bcB (n := w4.heap.size) hb ?_; intro h_w4_0 e_w4_0 d_w4_0 _ _)); (try (refine bcB (n := wr.heap.size) hb ?_; intro h_wr_0 e_wr_0 d_wr_0 _ _)); (try (refine bcB (n := w5.heap.size) hb ?_; intro h_w5_0 e_w5_0 d_w5_0 _ _)); (try (refine bcB (n := w6.heap.size) hb ?_; intro h_w6_0 e_w6_0 d_w6_0 _ _)); (try (refine bcB (n := bA) hb ?_; intro h_bbA_0 e_bbA_0 d_bbA_0 _ _)); (try (refine bcB (n := bB) hb ?_; intro h_bbB_0 e_bbB_0 d_bbB_0 _ _))))
        go_roundg (N - (m + 1))
        case measure => omega
        case rel =>
          refine ⟨m + 1, by omega, .inl (by omega), by rw [← HIA.out]; (try first | rfl | (push_cast; rfl)), by rw [← HIB.out]; (try first | rfl | (push_cast; rfl)), by rw [NT.out], ?_⟩
          exact belz
      · subst eA eB
        obtain ⟨bB, offB, haB, hbB, e0B, e1B⟩ := HB2.out iB hlB
        have ixB := @ix_Sp aB bB offB LB.length capB iB haB hlB
        rw [elB] at e0B e1B
        dsimp only at e0B e1B
        refine bcUse (n := bB) hbel hbB ?_
        intro cB fB
        have wwB : bB < wr.heap.size := by omega
        have geB : decide ((LB.length : Int) ≤ (iB : Int)) = false := decide_eq_false (by omega)
        clear haB
        clear HRA HRB HTA HTB HB HG HEA HEB HA HB2 HN2 lA lB
        go_upto_region 28 with (first | (go_at_call 32; (with_reducible refine (HP.out _ (HT.out.below (by exact belz)) (HS.out.below (Nat.le_refl _) (by exact belz))).mono ?_); rintro e w5 ⟨rfl, hb⟩; have hz := hb.size; (try simp only [szA, szS, szD, szN] at hz); (try (refine bcB (n := w4.heap.size) hb ?_; intro h_w4_0 e_w4_0 d_w4_0 _ _)); (try (refine bcB (n := wr.heap.size) hb ?_; intro h_wr_0 e_wr_0 d_wr_0 _ _)); (try (refine bcB (n := bA) hb ?_; intro h_bbA_0 e_bbA_0 d_bbA_0 _ _)); (try (refine bcB (n := bB) hb ?_; intro h_bbB_0 e_bbB_0 d_bbB_0 _ _))) | (go_at_call 32; (with_reducible refine (HQ.out _ (HT.out.below (by exact belz)) (HS.out.below (Nat.le_refl _) (by exact belz))).mono ?_); rintro e w6 ⟨rfl, hb⟩; have hz := hb.size; (try simp only [szA, szS, szD, szN] at hz); (try (refine bcB (n := w4.heap.size) hb ?_; intro h_w4_0 e_w4_0 d_w4_0 _ _)); (try (refine bcB (n := wr.heap.size) hb ?_; intro h_wr_0 e_wr_0 d_wr_0 _ _)); (try (refine bcB (n := w5.heap.size) hb ?_; intro h_w5_0 e_w5_0 d_w5_0 _ _)); (try (refine bcB (n := bA) hb ?_; intro h_bbA_0 e_bbA_0 d_bbA_0 _ _)); (try (refine bcB (n := bB) hb ?_; intro h_bbB_0 e_bbB_0 d_bbB_0 _ _))) | (go_at_call 32; (with_reducible refine (HR.out _ (HT.out.below (by exact belz)) (HS.out.below (Nat.le_refl _) (by exact belz))).mono ?_); rintro e w7 ⟨rfl, hb⟩; have hz := hb.size; (try simp only [szA, szS, szD, szN] at hz); (try (refine bcB (n := w4.heap.size) hb ?_; intro h_w4_0 e_w4_0 d_w4_0 _ _)); (try (refine bcB (n := wr.heap.size) hb ?_; intro h_wr_0 e_wr_0 d_wr_0 _ _)); (try (refine bcB (n := w5.heap.size) hb ?_; intro h_w5_0 e_w5_0 d_w5_0 _ _)); (try (refine bcB (n := w6.heap.size) hb ?_; intro h_w6_0 e_w6_0 d_w6_0 _ _)); (try (refine bcB (n := bA) hb ?_; intro h_bbA_0 e_bbA_0 d_bbA_0 _ _)); (try (refine bcB (n := bB) hb ?_; intro h_bbB_0 e_bbB_0 d_bbB_0 _ _))))
        go_quiet (fail)
        go_wp2_with (first | (go_at_call 32; (with_reducible refine (HP.out _ (HT.out.below (by exact belz)) (HS.out.below (Nat.le_refl _) (by exact belz))).mono ?_); rintro e w5 ⟨rfl, hb⟩; have hz := hb.size; (try simp only [szA, szS, szD, szN] at hz); (try (refine bcB (n := w4.heap.size) hb ?_; intro h_w4_0 e_w4_0 d_w4_0 _ _)); (try (refine bcB (n := wr.heap.size) hb ?_; intro h_wr_0 e_wr_0 d_wr_0 _ _)); (try (refine bcB (n := bA) hb ?_; intro h_bbA_0 e_bbA_0 d_bbA_0 _ _)); (try (refine bcB (n := bB) hb ?_; intro h_bbB_0 e_bbB_0 d_bbB_0 _ _))) | (go_at_call 32; (with_reducible refine (HQ.out _ (HT.out.below (by exact belz)) (HS.out.below (Nat.le_refl _) (by exact belz))).mono ?_); rintro e w6 ⟨rfl, hb⟩; have hz := hb.size; (try simp only [szA, szS, szD, szN] at hz); (try (refine bcB (n := w4.heap.size) hb ?_; intro h_w4_0 e_w4_0 d_w4_0 _ _)); (try (refine bcB (n := wr.heap.size) hb ?_; intro h_wr_0 e_wr_0 d_wr_0 _ _)); (try (refine bcB (n := w5.heap.size) hb ?_; intro h_w5_0 e_w5_0 d_w5_0 _ _)); (try (refine bcB (n := bA) hb ?_; intro h_bbA_0 e_bbA_0 d_bbA_0 _ _)); (try (refine bcB (n := bB) hb ?_; intro h_bbB_0 e_bbB_0 d_bbB_0 _ _))) | (go_at_call 32; (with_reducible refine (HR.out _ (HT.out.below (by exact belz)) (HS.out.below (Nat.le_refl _) (by exact belz))).mono ?_); rintro e w7 ⟨rfl, hb⟩; have hz := hb.size; (try simp only [szA, szS, szD, szN] at hz); (try (refine bcB (n := w4.heap.size) hb ?_; intro h_w4_0 e_w4_0 d_w4_0 _ _)); (try (refine bcB (n := wr.heap.size) hb ?_; intro h_wr_0 e_wr_0 d_wr_0 _ _)); (try (refine bcB (n := w5.heap.size) hb ?_; intro h_w5_0 e_w5_0 d_w5_0 _ _)); (try (refine bcB (n := w6.heap.size) hb ?_; intro h_w6_0 e_w6_0 d_w6_0 _ _)); (try (refine bcB (n := bA) hb ?_; intro h_bbA_0 e_bbA_0 d_bbA_0 _ _)); (try (refine bcB (n := bB) hb ?_; intro h_bbB_0 e_bbB_0 d_bbB_0 _ _))))
        go_roundg (N - (m + 1))
        case measure => omega
        case rel =>
          refine ⟨m + 1, by omega, .inl (by omega), by rw [← HIA.out]; (try first | rfl | (push_cast; rfl)), by rw [← HIB.out]; (try first | rfl | (push_cast; rfl)), by rw [NT.out], ?_⟩
          exact belz
      · subst eA eB
        clear HRA HRB HTA HTB HB HG HEA HEB HA HB2 HN2 lA lB
        go_wp2_with (first | (go_at_call 32; (with_reducible refine (HP.out _ (HT.out.below (by exact belz)) (HS.out.below (Nat.le_refl _) (by exact belz))).mono ?_); rintro e w5 ⟨rfl, hb⟩; have hz := hb.size; (try simp only [szA, szS, szD, szN] at hz); (try (refine bcB (n := w4.heap.size) hb ?_; intro h_w4_0 e_w4_0 d_w4_0 _ _)); (try (refine bcB (n := wr.heap.size) hb ?_; intro h_wr_0 e_wr_0 d_wr_0 _ _)); (try (refine bcB (n := bA) hb ?_; intro h_bbA_0 e_bbA_0 d_bbA_0 _ _)); (try (refine bcB (n := bB) hb ?_; intro h_bbB_0 e_bbB_0 d_bbB_0 _ _))) | (go_at_call 32; (with_reducible refine (HQ.out _ (HT.out.below (by exact belz)) (HS.out.below (Nat.le_refl _) (by exact belz))).mono ?_); rintro e w6 ⟨rfl, hb⟩; have hz := hb.size; (try simp only [szA, szS, szD, szN] at hz); (try (refine bcB (n := w4.heap.size) hb ?_; intro h_w4_0 e_w4_0 d_w4_0 _ _)); (try (refine bcB (n := wr.heap.size) hb ?_; intro h_wr_0 e_wr_0 d_wr_0 _ _)); (try (refine bcB (n := w5.heap.size) hb ?_; intro h_w5_0 e_w5_0 d_w5_0 _ _)); (try (refine bcB (n := bA) hb ?_; intro h_bbA_0 e_bbA_0 d_bbA_0 _ _)); (try (refine bcB (n := bB) hb ?_; intro h_bbB_0 e_bbB_0 d_bbB_0 _ _))) | (go_at_call 32; (with_reducible refine (HR.out _ (HT.out.below (by exact belz)) (HS.out.below (Nat.le_refl _) (by exact belz))).mono ?_); rintro e w7 ⟨rfl, hb⟩; have hz := hb.size; (try simp only [szA, szS, szD, szN] at hz); (try (refine bcB (n := w4.heap.size) hb ?_; intro h_w4_0 e_w4_0 d_w4_0 _ _)); (try (refine bcB (n := wr.heap.size) hb ?_; intro h_wr_0 e_wr_0 d_wr_0 _ _)); (try (refine bcB (n := w5.heap.size) hb ?_; intro h_w5_0 e_w5_0 d_w5_0 _ _)); (try (refine bcB (n := w6.heap.size) hb ?_; intro h_w6_0 e_w6_0 d_w6_0 _ _)); (try (refine bcB (n := bA) hb ?_; intro h_bbA_0 e_bbA_0 d_bbA_0 _ _)); (try (refine bcB (n := bB) hb ?_; intro h_bbB_0 e_bbB_0 d_bbB_0 _ _))))
        go_roundg (N - (m + 1))
        case measure => omega
        case rel =>
          refine ⟨m + 1, by omega, .inl (by omega), by rw [← HIA.out]; (try first | rfl | (push_cast; rfl)), by rw [← HIB.out]; (try first | rfl | (push_cast; rfl)), by rw [NT.out], ?_⟩
          exact belz
      · subst eA eB
        clear HRA HRB HTA HTB HB HG HEA HEB HA HB2 HN2 lA lB
        go_wp2_with (first | (go_at_call 32; (with_reducible refine (HP.out _ (HT.out.below (by exact belz)) (HS.out.below (Nat.le_refl _) (by exact belz))).mono ?_); rintro e w5 ⟨rfl, hb⟩; have hz := hb.size; (try simp only [szA, szS, szD, szN] at hz); (try (refine bcB (n := w4.heap.size) hb ?_; intro h_w4_0 e_w4_0 d_w4_0 _ _)); (try (refine bcB (n := wr.heap.size) hb ?_; intro h_wr_0 e_wr_0 d_wr_0 _ _)); (try (refine bcB (n := bA) hb ?_; intro h_bbA_0 e_bbA_0 d_bbA_0 _ _)); (try (refine bcB (n := bB) hb ?_; intro h_bbB_0 e_bbB_0 d_bbB_0 _ _))) | (go_at_call 32; (with_reducible refine (HQ.out _ (HT.out.below (by exact belz)) (HS.out.below (Nat.le_refl _) (by exact belz))).mono ?_); rintro e w6 ⟨rfl, hb⟩; have hz := hb.size; (try simp only [szA, szS, szD, szN] at hz); (try (refine bcB (n := w4.heap.size) hb ?_; intro h_w4_0 e_w4_0 d_w4_0 _ _)); (try (refine bcB (n := wr.heap.size) hb ?_; intro h_wr_0 e_wr_0 d_wr_0 _ _)); (try (refine bcB (n := w5.heap.size) hb ?_; intro h_w5_0 e_w5_0 d_w5_0 _ _)); (try (refine bcB (n := bA) hb ?_; intro h_bbA_0 e_bbA_0 d_bbA_0 _ _)); (try (refine bcB (n := bB) hb ?_; intro h_bbB_0 e_bbB_0 d_bbB_0 _ _))) | (go_at_call 32; (with_reducible refine (HR.out _ (HT.out.below (by exact belz)) (HS.out.below (Nat.le_refl _) (by exact belz))).mono ?_); rintro e w7 ⟨rfl, hb⟩; have hz := hb.size; (try simp only [szA, szS, szD, szN] at hz); (try (refine bcB (n := w4.heap.size) hb ?_; intro h_w4_0 e_w4_0 d_w4_0 _ _)); (try (refine bcB (n := wr.heap.size) hb ?_; intro h_wr_0 e_wr_0 d_wr_0 _ _)); (try (refine bcB (n := w5.heap.size) hb ?_; intro h_w5_0 e_w5_0 d_w5_0 _ _)); (try (refine bcB (n := w6.heap.size) hb ?_; intro h_w6_0 e_w6_0 d_w6_0 _ _)); (try (refine bcB (n := bA) hb ?_; intro h_bbA_0 e_bbA_0 d_bbA_0 _ _)); (try (refine bcB (n := bB) hb ?_; intro h_bbB_0 e_bbB_0 d_bbB_0 _ _))))
        go_roundg (N - (m + 1))
        case measure => omega
        case rel =>
          refine ⟨m + 1, by omega, .inl (by omega), by rw [← HIA.out]; (try first | rfl | (push_cast; rfl)), by rw [← HIB.out]; (try first | rfl | (push_cast; rfl)), by rw [NT.out], ?_⟩
          exact belz
      · subst eA eB
        obtain ⟨bB, offB, haB, hbB, e0B, e1B⟩ := HB2.out iB hlB
        have ixB := @ix_Sp aB bB offB LB.length capB iB haB hlB
        rw [elB] at e0B e1B
        dsimp only at e0B e1B
        refine bcUse (n := bB) hbel hbB ?_
        intro cB fB
        have wwB : bB < wr.heap.size := by omega
        have geB : decide ((LB.length : Int) ≤ (iB : Int)) = false := decide_eq_false (by omega)
        clear haB
        clear HRA HRB HTA HTB HB HG HEA HEB HA HB2 HN2 lA lB
        go_upto_region 28 with (first | (go_at_call 32; (with_reducible refine (HP.out _ (HT.out.below (by exact belz)) (HS.out.below (Nat.le_refl _) (by exact belz))).mono ?_); rintro e w5 ⟨rfl, hb⟩; have hz := hb.size; (try simp only [szA, szS, szD, szN] at hz); (try (refine bcB (n := w4.heap.size) hb ?_; intro h_w4_0 e_w4_0 d_w4_0 _ _)); (try (refine bcB (n := wr.heap.size) hb ?_; intro h_wr_0 e_wr_0 d_wr_0 _ _)); (try (refine bcB (n := bA) hb ?_; intro h_bbA_0 e_bbA_0 d_bbA_0 _ _)); (try (refine bcB (n := bB) hb ?_; intro h_bbB_0 e_bbB_0 d_bbB_0 _ _))) | (go_at_call 32; (with_reducible refine (HQ.out _ (HT.out.below (by exact belz)) (HS.out.below (Nat.le_refl _) (by exact belz))).mono ?_); rintro e w6 ⟨rfl, hb⟩; have hz := hb.size; (try simp only [szA, szS, szD, szN] at hz); (try (refine bcB (n := w4.heap.size) hb ?_; intro h_w4_0 e_w4_0 d_w4_0 _ _)); (try (refine bcB (n := wr.heap.size) hb ?_; intro h_wr_0 e_wr_0 d_wr_0 _ _)); (try (refine bcB (n := w5.heap.size) hb ?_; intro h_w5_0 e_w5_0 d_w5_0 _ _)); (try (refine bcB (n := bA) hb ?_; intro h_bbA_0 e_bbA_0 d_bbA_0 _ _)); (try (refine bcB (n := bB) hb ?_; intro h_bbB_0 e_bbB_0 d_bbB_0 _ _))) | (go_at_call 32; (with_reducible refine (HR.out _ (HT.out.below (by exact belz)) (HS.out.below (Nat.le_refl _) (by exact belz))).mono ?_); rintro e w7 ⟨rfl, hb⟩; have hz := hb.size; (try simp only [szA, szS, szD, szN] at hz); (try (refine bcB (n := w4.heap.size) hb ?_; intro h_w4_0 e_w4_0 d_w4_0 _ _)); (try (refine bcB (n := wr.heap.size) hb ?_; intro h_wr_0 e_wr_0 d_wr_0 _ _)); (try (refine bcB (n := w5.heap.size) hb ?_; intro h_w5_0 e_w5_0 d_w5_0 _ _)); (try (refine bcB (n := w6.heap.size) hb ?_; intro h_w6_0 e_w6_0 d_w6_0 _ _)); (try (refine bcB (n := bA) hb ?_; intro h_bbA_0 e_bbA_0 d_bbA_0 _ _)); (try (refine bcB (n := bB) hb ?_; intro h_bbB_0 e_bbB_0 d_bbB_0 _ _))))
        go_quiet (fail)
        go_wp2_with (first | (go_at_call 32; (with_reducible refine (HP.out _ (HT.out.below (by exact belz)) (HS.out.below (Nat.le_refl _) (by exact belz))).mono ?_); rintro e w5 ⟨rfl, hb⟩; have hz := hb.size; (try simp only [szA, szS, szD, szN] at hz); (try (refine bcB (n := w4.heap.size) hb ?_; intro h_w4_0 e_w4_0 d_w4_0 _ _)); (try (refine bcB (n := wr.heap.size) hb ?_; intro h_wr_0 e_wr_0 d_wr_0 _ _)); (try (refine bcB (n := bA) hb ?_; intro h_bbA_0 e_bbA_0 d_bbA_0 _ _)); (try (refine bcB (n := bB) hb ?_; intro h_bbB_0 e_bbB_0 d_bbB_0 _ _))) | (go_at_call 32; (with_reducible refine (HQ.out _ (HT.out.below (by exact belz)) (HS.out.below (Nat.le_refl _) (by exact belz))).mono ?_); rintro e w6 ⟨rfl, hb⟩; have hz := hb.size; (try simp only [szA, szS, szD, szN] at hz); (try (refine bcB (n := w4.heap.size) hb ?_; intro h_w4_0 e_w4_0 d_w4_0 _ _)); (try (refine bcB (n := wr.heap.size) hb ?_; intro h_wr_0 e_wr_0 d_wr_0 _ _)); (try (refine bcB (n := w5.heap.size) hb ?_; intro h_w5_0 e_w5_0 d_w5_0 _ _)); (try (refine bcB (n := bA) hb ?_; intro h_bbA_0 e_bbA_0 d_bbA_0 _ _)); (try (refine bcB (n := bB) hb ?_; intro h_bbB_0 e_bbB_0 d_bbB_0 _ _))) | (go_at_call 32; (with_reducible refine (HR.out _ (HT.out.below (by exact belz)) (HS.out.below (Nat.le_refl _) (by exact belz))).mono ?_); rintro e w7 ⟨rfl, hb⟩; have hz := hb.size; (try simp only [szA, szS, szD, szN] at hz); (try (refine bcB (n := w4.heap.size) hb ?_; intro h_w4_0 e_w4_0 d_w4_0 _ _)); (try (refine bcB (n := wr.heap.size) hb ?_; intro h_wr_0 e_wr_0 d_wr_0 _ _)); (try (refine bcB (n := w5.heap.size) hb ?_; intro h_w5_0 e_w5_0 d_w5_0 _ _)); (try (refine bcB (n := w6.heap.size) hb ?_; intro h_w6_0 e_w6_0 d_w6_0 _ _)); (try (refine bcB (n := bA) hb ?_; intro h_bbA_0 e_bbA_0 d_bbA_0 _ _)); (try (refine bcB (n := bB) hb ?_; intro h_bbB_0 e_bbB_0 d_bbB_0 _ _))))
        go_roundg (N - (m + 1))
        case measure => omega
        case rel =>
          refine ⟨m + 1, by omega, .inl (by omega), by rw [← HIA.out]; (try first | rfl | (push_cast; rfl)), by rw [← HIB.out]; (try first | rfl | (push_cast; rfl)), by rw [NT.out], ?_⟩
          exact belz
      · subst eA eB
        clear HRA HRB HTA HTB HB HG HEA HEB HA HB2 HN2 lA lB
        go_wp2_with (first | (go_at_call 32; (with_reducible refine (HP.out _ (HT.out.below (by exact belz)) (HS.out.below (Nat.le_refl _) (by exact belz))).mono ?_); rintro e w5 ⟨rfl, hb⟩; have hz := hb.size; (try simp only [szA, szS, szD, szN] at hz); (try (refine bcB (n := w4.heap.size) hb ?_; intro h_w4_0 e_w4_0 d_w4_0 _ _)); (try (refine bcB (n := wr.heap.size) hb ?_; intro h_wr_0 e_wr_0 d_wr_0 _ _)); (try (refine bcB (n := bA) hb ?_; intro h_bbA_0 e_bbA_0 d_bbA_0 _ _)); (try (refine bcB (n := bB) hb ?_; intro h_bbB_0 e_bbB_0 d_bbB_0 _ _))) | (go_at_call 32; (with_reducible refine (HQ.out _ (HT.out.below (by exact belz)) (HS.out.below (Nat.le_refl _) (by exact belz))).mono ?_); rintro e w6 ⟨rfl, hb⟩; have hz := hb.size; (try simp only [szA, szS, szD, szN] at hz); (try (refine bcB (n := w4.heap.size) hb ?_; intro h_w4_0 e_w4_0 d_w4_0 _ _)); (try (refine bcB (n := wr.heap.size) hb ?_; intro h_wr_0 e_wr_0 d_wr_0 _ _)); (try (refine bcB (n := w5.heap.size) hb ?_; intro h_w5_0 e_w5_0 d_w5_0 _ _)); (try (refine bcB (n := bA) hb ?_; intro h_bbA_0 e_bbA_0 d_bbA_0 _ _)); (try (refine bcB (n := bB) hb ?_; intro h_bbB_0 e_bbB_0 d_bbB_0 _ _))) | (go_at_call 32; (with_reducible refine (HR.out _ (HT.out.below (by exact belz)) (HS.out.below (Nat.le_refl _) (by exact belz))).mono ?_); rintro e w7 ⟨rfl, hb⟩; have hz := hb.size; (try simp only [szA, szS, szD, szN] at hz); (try (refine bcB (n := w4.heap.size) hb ?_; intro h_w4_0 e_w4_0 d_w4_0 _ _)); (try (refine bcB (n := wr.heap.size) hb ?_; intro h_wr_0 e_wr_0 d_wr_0 _ _)); (try (refine bcB (n := w5.heap.size) hb ?_; intro h_w5_0 e_w5_0 d_w5_0 _ _)); (try (refine bcB (n := w6.heap.size) hb ?_; intro h_w6_0 e_w6_0 d_w6_0 _ _)); (try (refine bcB (n := bA) hb ?_; intro h_bbA_0 e_bbA_0 d_bbA_0 _ _)); (try (refine bcB (n := bB) hb ?_; intro h_bbB_0 e_bbB_0 d_bbB_0 _ _))))
        go_roundg (N - (m + 1))
        case measure => omega
        case rel =>
          refine ⟨m + 1, by omega, .inl (by omega), by rw [← HIA.out]; (try first | rfl | (push_cast; rfl)), by rw [← HIB.out]; (try first | rfl | (push_cast; rfl)), by rw [NT.out], ?_⟩
          exact belz
      · subst eA eB
        clear HRA HRB HTA HTB HB HG HEA HEB HA HB2 HN2 lA lB
        go_wp2_with (first | (go_at_call 32; (with_reducible refine (HP.out _ (HT.out.below (by exact belz)) (HS.out.below (Nat.le_refl _) (by exact belz))).mono ?_); rintro e w5 ⟨rfl, hb⟩; have hz := hb.size; (try simp only [szA, szS, szD, szN] at hz); (try (refine bcB (n := w4.heap.size) hb ?_; intro h_w4_0 e_w4_0 d_w4_0 _ _)); (try (refine bcB (n := wr.heap.size) hb ?_; intro h_wr_0 e_wr_0 d_wr_0 _ _)); (try (refine bcB (n := bA) hb ?_; intro h_bbA_0 e_bbA_0 d_bbA_0 _ _)); (try (refine bcB (n := bB) hb ?_; intro h_bbB_0 e_bbB_0 d_bbB_0 _ _))) | (go_at_call 32; (with_reducible refine (HQ.out _ (HT.out.below (by exact belz)) (HS.out.below (Nat.le_refl _) (by exact belz))).mono ?_); rintro e w6 ⟨rfl, hb⟩; have hz := hb.size; (try simp only [szA, szS, szD, szN] at hz); (try (refine bcB (n := w4.heap.size) hb ?_; intro h_w4_0 e_w4_0 d_w4_0 _ _)); (try (refine bcB (n := wr.heap.size) hb ?_; intro h_wr_0 e_wr_0 d_wr_0 _ _)); (try (refine bcB (n := w5.heap.size) hb ?_; intro h_w5_0 e_w5_0 d_w5_0 _ _)); (try (refine bcB (n := bA) hb ?_; intro h_bbA_0 e_bbA_0 d_bbA_0 _ _)); (try (refine bcB (n := bB) hb ?_; intro h_bbB_0 e_bbB_0 d_bbB_0 _ _))) | (go_at_call 32; (with_reducible refine (HR.out _ (HT.out.below (by exact belz)) (HS.out.below (Nat.le_refl _) (by exact belz))).mono ?_); rintro e w7 ⟨rfl, hb⟩; have hz := hb.size; (try simp only [szA, szS, szD, szN] at hz); (try (refine bcB (n := w4.heap.size) hb ?_; intro h_w4_0 e_w4_0 d_w4_0 _ _)); (try (refine bcB (n := wr.heap.size) hb ?_; intro h_wr_0 e_wr_0 d_wr_0 _ _)); (try (refine bcB (n := w5.heap.size) hb ?_; intro h_w5_0 e_w5_0 d_w5_0 _ _)); (try (refine bcB (n := w6.heap.size) hb ?_; intro h_w6_0 e_w6_0 d_w6_0 _ _)); (try (refine bcB (n := bA) hb ?_; intro h_bbA_0 e_bbA_0 d_bbA_0 _ _)); (try (refine bcB (n := bB) hb ?_; intro h_bbB_0 e_bbB_0 d_bbB_0 _ _))))
        go_roundg (N - (m + 1))
        case measure => omega
        case rel =>
          refine ⟨m + 1, by omega, .inl (by omega), by rw [← HIA.out]; (try first | rfl | (push_cast; rfl)), by rw [← HIB.out]; (try first | rfl | (push_cast; rfl)), by rw [NT.out], ?_⟩
          exact belz
    · have gt1 : decide (t + 3600000 * ((m : Int) + 1) + 3600000 ≤ t') = false := decide_eq_false (by have := HN2.out; omega)
      have ea := HEA.out m (by omega)
      have eb := HEB.out m (by omega)
      have q1 : ((LA.length : Int) == (LA.length : Int)) = true := by simp
      have q2 : ((LB.length : Int) == (LB.length : Int)) = true := by simp
      have m480 : (m : Int) ≤ 480 := by omega
      rw [ea, eb]
      clear HRA HRB HTA HTB HB HG HEA HEB HA HB2 HN2 lA lB ea eb
      go_wp2
      go_ret
      refine ⟨rfl, ?_⟩
      exact belz
theorem walk_TideEnds (a : Option Addr) (len cap : Nat) (l : List Tm) (t t' : Int) (w : World) (hT : Tab w) (hl : l.length = len) (hc : len ≤ cap) (hs : TmSlice w a l) (hi : -9223372036854775808 ≤ t ∧ t ≤ 9223372036854775807) (hi' : -9223372036854775808 ≤ t' ∧ t' ≤ 9223372036854775807) :
    Calls Tryd.prog 10 #[.slice a len cap, .int .i64 t, .int .i64 t'] w fun e w' => e = .returned (.bool true) ∧ Below w.heap.size w w' := by
  subst hl
  have no := fun er (h : TdNo l t t' er) => walk_TdE_no l t t' er a cap w hT hc hs h hi.1 hi.2 hi'.1 hi'.2
  by_cases he : tdE l = 0
  · cases ht : instB t with
    | false => exact no 3 ⟨.inr (.inl ⟨he, ht, rfl⟩)⟩
    | true =>
      cases ht' : instB t' with
      | false => exact no 3 ⟨.inr (.inr (.inl ⟨he, ht, ht', rfl⟩))⟩
      | true =>
        by_cases h1 : t' < t
        · exact no 9 ⟨.inr (.inr (.inr (.inl ⟨he, ht, ht', h1, rfl⟩)))⟩
        · by_cases h2 : 1728000000 < t' - t
          · exact no 2 ⟨.inr (.inr (.inr (.inr ⟨he, ht, ht', by omega, h2, rfl⟩)))⟩
          · exact walk_TdE_ok l t t' a cap w hT hc hs he ht ht' (by omega) (by omega)
  · exact no (tdE l) ⟨.inl ⟨rfl, he⟩⟩
end Go.Proofs.YtjkhoepohiafeaaDoor
