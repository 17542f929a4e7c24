/- The walk through the law RisesetFinds. -/
import Derived.Test.YtmjdcabniefifaaGreatDoorWalkRa
import Derived.Deep.LoopGhost
import Derived.Deep.DeepCutAuto
set_option linter.unusedVariables false
set_option linter.unusedSimpArgs false
namespace Go.Proofs.YtmjdcabniefifaaGreatDoor
open Go.RowKit
theorem walk_Rf_site (lon lat d b k l : Int) (r : Bool) (w : World) (hT : Tab w) (hL : LTab w) (hp : plB lon lat = false) :
    Calls Tryz.prog 5 #[.agg #[.int .i64 lon, .int .i64 lat], .int .i64 d, .int .i64 b, .bool r, .int .i64 k, .int .i64 l] w fun e w' => e = .returned (.bool true) ∧ Below w.heap.size w w' := by
  have er : rsE lon lat b = 3 := by unfold rsE; rw [if_pos hp]
  have ef : fdR lon lat d b r = ⟨0, 0, 3⟩ := by unfold fdR; rw [if_pos (by rw [er]; decide), er]
  have ha := fun w1 h1 h2 => c_FindA lon lat d b r w1 h1 h2
  rw [ef] at ha
  have HA := Lib.hid ha
  have hr := fun w1 => c_rPlaceErr lon lat w1
  rw [plE_f hp] at hr
  have HR := Lib.hid hr
  have HT := Lib.hid hT
  have HLT := Lib.hid hL
  clear hT hL ha hr hp er ef
  have hgen := sgen; have hgen2 := sgen2; have hgen3 := sgen3; go_enter Tryz.func5, Tryz.ntmps5
  go_wp2_with (first | (go_at_call 28; (with_reducible refine (c_risesetWorks _ (HT.out.below (by exact belz)) (HLT.out.below (by exact belz))).mono ?_); rintro e w1 ⟨rfl, hb⟩; have hz := hb.size; (try simp only [szA, szS, szD, szN] at hz); (try (refine bcB (n := w.heap.size) hb ?_; intro h_w_0 e_w_0 d_w_0 _ _))) | (go_at_call 31; (with_reducible refine (HA.out _ (HT.out.below (by exact belz)) (HLT.out.below (by exact belz))).mono ?_); rintro e w2 ⟨rfl, hb⟩; have hz := hb.size; (try simp only [szA, szS, szD, szN] at hz); (try (refine bcB (n := w.heap.size) hb ?_; intro h_w_0 e_w_0 d_w_0 _ _)); (try (refine bcB (n := w1.heap.size) hb ?_; intro h_w1_0 e_w1_0 d_w1_0 _ _))) | (go_at_call 17; (refine (HR.out _).mono ?_); rintro e w3 ⟨rfl, hb⟩; have hz := hb.size; (try simp only [szA, szS, szD, szN] at hz); (try (refine bcB (n := w.heap.size) hb ?_; intro h_w_0 e_w_0 d_w_0 _ _)); (try (refine bcB (n := w1.heap.size) hb ?_; intro h_w1_0 e_w1_0 d_w1_0 _ _)); (try (refine bcB (n := w2.heap.size) hb ?_; intro h_w2_0 e_w2_0 d_w2_0 _ _))) | (go_at_call 18; (refine (c_none1 _ _).mono ?_); rintro e w4 ⟨rfl, hb⟩; have hz := hb.size; (try simp only [szA, szS, szD, szN] at hz); (try (refine bcB (n := w.heap.size) hb ?_; intro h_w_0 e_w_0 d_w_0 _ _)); (try (refine bcB (n := w1.heap.size) hb ?_; intro h_w1_0 e_w1_0 d_w1_0 _ _)); (try (refine bcB (n := w2.heap.size) hb ?_; intro h_w2_0 e_w2_0 d_w2_0 _ _)); (try (refine bcB (n := w3.heap.size) hb ?_; intro h_w3_0 e_w3_0 d_w3_0 _ _))))
  go_ret
  refine ⟨rfl, ?_⟩
  exact belz
theorem walk_Rf_body (lon lat d b k l : Int) (r : Bool) (w : World) (hT : Tab w) (hL : LTab w) (hp : plB lon lat = true) (b0 : ¬ b = 0) (b1 : ¬ b = 1) :
    Calls Tryz.prog 5 #[.agg #[.int .i64 lon, .int .i64 lat], .int .i64 d, .int .i64 b, .bool r, .int .i64 k, .int .i64 l] w fun e w' => e = .returned (.bool true) ∧ Below w.heap.size w w' := by
  have er : rsE lon lat b = 1 := by unfold rsE; rw [hp, if_neg (by decide), if_neg (by omega)]
  have ef : fdR lon lat d b r = ⟨0, 0, 1⟩ := by unfold fdR; rw [if_pos (by rw [er]; decide), er]
  have ha := fun w1 h1 h2 => c_FindA lon lat d b r w1 h1 h2
  rw [ef] at ha
  have HA := Lib.hid ha
  have hr := fun w1 => c_rPlaceErr lon lat w1
  rw [plE_t hp] at hr
  have HR := Lib.hid hr
  have HT := Lib.hid hT
  have HLT := Lib.hid hL
  have g0 : (b != 0) = true := by simpa using b0
  have g1 : (b != 1) = true := by simpa using b1
  have g2 : (b == 0) = false := by simpa using b0
  have g3 : (b == 1) = false := by simpa using b1
  clear hT hL ha hr hp er ef
  have hgen := sgen; have hgen2 := sgen2; have hgen3 := sgen3; go_enter Tryz.func5, Tryz.ntmps5
  go_wp2_with (first | (go_at_call 28; (with_reducible refine (c_risesetWorks _ (HT.out.below (by exact belz)) (HLT.out.below (by exact belz))).mono ?_); rintro e w1 ⟨rfl, hb⟩; have hz := hb.size; (try simp only [szA, szS, szD, szN] at hz); (try (refine bcB (n := w.heap.size) hb ?_; intro h_w_0 e_w_0 d_w_0 _ _))) | (go_at_call 31; (with_reducible refine (HA.out _ (HT.out.below (by exact belz)) (HLT.out.below (by exact belz))).mono ?_); rintro e w2 ⟨rfl, hb⟩; have hz := hb.size; (try simp only [szA, szS, szD, szN] at hz); (try (refine bcB (n := w.heap.size) hb ?_; intro h_w_0 e_w_0 d_w_0 _ _)); (try (refine bcB (n := w1.heap.size) hb ?_; intro h_w1_0 e_w1_0 d_w1_0 _ _))) | (go_at_call 17; (refine (HR.out _).mono ?_); rintro e w3 ⟨rfl, hb⟩; have hz := hb.size; (try simp only [szA, szS, szD, szN] at hz); (try (refine bcB (n := w.heap.size) hb ?_; intro h_w_0 e_w_0 d_w_0 _ _)); (try (refine bcB (n := w1.heap.size) hb ?_; intro h_w1_0 e_w1_0 d_w1_0 _ _)); (try (refine bcB (n := w2.heap.size) hb ?_; intro h_w2_0 e_w2_0 d_w2_0 _ _))) | (go_at_call 18; (refine (c_none1 _ _).mono ?_); rintro e w4 ⟨rfl, hb⟩; have hz := hb.size; (try simp only [szA, szS, szD, szN] at hz); (try (refine bcB (n := w.heap.size) hb ?_; intro h_w_0 e_w_0 d_w_0 _ _)); (try (refine bcB (n := w1.heap.size) hb ?_; intro h_w1_0 e_w1_0 d_w1_0 _ _)); (try (refine bcB (n := w2.heap.size) hb ?_; intro h_w2_0 e_w2_0 d_w2_0 _ _)); (try (refine bcB (n := w3.heap.size) hb ?_; intro h_w3_0 e_w3_0 d_w3_0 _ _))))
  go_ret
  refine ⟨rfl, ?_⟩
  exact belz
theorem walk_Rf_rng (lon lat d b k l : Int) (r : Bool) (w : World) (hT : Tab w) (hL : LTab w) (hp : plB lon lat = true) (hb : b = 0 ∨ b = 1) (hd : d < -4000000 ∨ 4000000 ≤ d) :
    Calls Tryz.prog 5 #[.agg #[.int .i64 lon, .int .i64 lat], .int .i64 d, .int .i64 b, .bool r, .int .i64 k, .int .i64 l] w fun e w' => e = .returned (.bool true) ∧ Below w.heap.size w w' := by
  have er : rsE lon lat b = 0 := by unfold rsE; rw [hp, if_neg (by decide), if_pos hb]
  have ef : fdR lon lat d b r = ⟨0, 0, 3⟩ := by unfold fdR; rw [if_neg (by rw [er]; decide), if_pos hd]
  have ha := fun w1 h1 h2 => c_FindA lon lat d b r w1 h1 h2
  rw [ef] at ha
  have HA := Lib.hid ha
  have hr := fun w1 => c_rPlaceErr lon lat w1
  rw [plE_t hp] at hr
  have HR := Lib.hid hr
  have HT := Lib.hid hT
  have HLT := Lib.hid hL
  clear hT hL ha hr hp er ef
  by_cases f1 : d < -4000000
  · have F1 : decide (d < -4000000) = true := decide_eq_true f1
    rcases hb with rfl | rfl
    all_goals
      have hgen := sgen; have hgen2 := sgen2; have hgen3 := sgen3; go_enter Tryz.func5, Tryz.ntmps5
      go_wp2_with (first | (go_at_call 28; (with_reducible refine (c_risesetWorks _ (HT.out.below (by exact belz)) (HLT.out.below (by exact belz))).mono ?_); rintro e w1 ⟨rfl, hb⟩; have hz := hb.size; (try simp only [szA, szS, szD, szN] at hz); (try (refine bcB (n := w.heap.size) hb ?_; intro h_w_0 e_w_0 d_w_0 _ _))) | (go_at_call 31; (with_reducible refine (HA.out _ (HT.out.below (by exact belz)) (HLT.out.below (by exact belz))).mono ?_); rintro e w2 ⟨rfl, hb⟩; have hz := hb.size; (try simp only [szA, szS, szD, szN] at hz); (try (refine bcB (n := w.heap.size) hb ?_; intro h_w_0 e_w_0 d_w_0 _ _)); (try (refine bcB (n := w1.heap.size) hb ?_; intro h_w1_0 e_w1_0 d_w1_0 _ _))) | (go_at_call 17; (refine (HR.out _).mono ?_); rintro e w3 ⟨rfl, hb⟩; have hz := hb.size; (try simp only [szA, szS, szD, szN] at hz); (try (refine bcB (n := w.heap.size) hb ?_; intro h_w_0 e_w_0 d_w_0 _ _)); (try (refine bcB (n := w1.heap.size) hb ?_; intro h_w1_0 e_w1_0 d_w1_0 _ _)); (try (refine bcB (n := w2.heap.size) hb ?_; intro h_w2_0 e_w2_0 d_w2_0 _ _))) | (go_at_call 18; (refine (c_none1 _ _).mono ?_); rintro e w4 ⟨rfl, hb⟩; have hz := hb.size; (try simp only [szA, szS, szD, szN] at hz); (try (refine bcB (n := w.heap.size) hb ?_; intro h_w_0 e_w_0 d_w_0 _ _)); (try (refine bcB (n := w1.heap.size) hb ?_; intro h_w1_0 e_w1_0 d_w1_0 _ _)); (try (refine bcB (n := w2.heap.size) hb ?_; intro h_w2_0 e_w2_0 d_w2_0 _ _)); (try (refine bcB (n := w3.heap.size) hb ?_; intro h_w3_0 e_w3_0 d_w3_0 _ _))))
      go_ret
      refine ⟨rfl, ?_⟩
      exact belz
  · have F1 : decide (d < -4000000) = false := decide_eq_false f1
    have F2 : decide (4000000 ≤ d) = true := decide_eq_true (by omega)
    rcases hb with rfl | rfl
    all_goals
      have hgen := sgen; have hgen2 := sgen2; have hgen3 := sgen3; go_enter Tryz.func5, Tryz.ntmps5
      go_wp2_with (first | (go_at_call 28; (with_reducible refine (c_risesetWorks _ (HT.out.below (by exact belz)) (HLT.out.below (by exact belz))).mono ?_); rintro e w1 ⟨rfl, hb⟩; have hz := hb.size; (try simp only [szA, szS, szD, szN] at hz); (try (refine bcB (n := w.heap.size) hb ?_; intro h_w_0 e_w_0 d_w_0 _ _))) | (go_at_call 31; (with_reducible refine (HA.out _ (HT.out.below (by exact belz)) (HLT.out.below (by exact belz))).mono ?_); rintro e w2 ⟨rfl, hb⟩; have hz := hb.size; (try simp only [szA, szS, szD, szN] at hz); (try (refine bcB (n := w.heap.size) hb ?_; intro h_w_0 e_w_0 d_w_0 _ _)); (try (refine bcB (n := w1.heap.size) hb ?_; intro h_w1_0 e_w1_0 d_w1_0 _ _))) | (go_at_call 17; (refine (HR.out _).mono ?_); rintro e w3 ⟨rfl, hb⟩; have hz := hb.size; (try simp only [szA, szS, szD, szN] at hz); (try (refine bcB (n := w.heap.size) hb ?_; intro h_w_0 e_w_0 d_w_0 _ _)); (try (refine bcB (n := w1.heap.size) hb ?_; intro h_w1_0 e_w1_0 d_w1_0 _ _)); (try (refine bcB (n := w2.heap.size) hb ?_; intro h_w2_0 e_w2_0 d_w2_0 _ _))) | (go_at_call 18; (refine (c_none1 _ _).mono ?_); rintro e w4 ⟨rfl, hb⟩; have hz := hb.size; (try simp only [szA, szS, szD, szN] at hz); (try (refine bcB (n := w.heap.size) hb ?_; intro h_w_0 e_w_0 d_w_0 _ _)); (try (refine bcB (n := w1.heap.size) hb ?_; intro h_w1_0 e_w1_0 d_w1_0 _ _)); (try (refine bcB (n := w2.heap.size) hb ?_; intro h_w2_0 e_w2_0 d_w2_0 _ _)); (try (refine bcB (n := w3.heap.size) hb ?_; intro h_w3_0 e_w3_0 d_w3_0 _ _))))
      go_ret
      refine ⟨rfl, ?_⟩
      exact belz
theorem rfL_step {s : Int → Int} {base : Int} {n : Nat} {k : Int} {op : Bool} {be wa v : Int} (hv : s (base + k * 900000) = v) : rfL s base (n + 1) k op be wa = if v = 0 then rfL s base n (k + 1) true be wa
    else if wa = -1 ∧ v = 1 then (if (narF s 120000 62 be (base + k * 900000)).is = true then ⟨(narF s 120000 62 be (base + k * 900000)).lo, (narF s 120000 62 be (base + k * 900000)).hi, 0⟩ else ⟨0, 0, 11⟩)
    else rfL s base n (k + 1) op (base + k * 900000) v := by
  conv => lhs; unfold rfL
  rw [hv]
theorem rsS_of {lon lat b sg t v : Int} (h : rsV lon lat t b = v) : rsS lon lat b sg t = sg * v := by unfold rsS; rw [h]
set_option maxRecDepth 100000 in
set_option maxHeartbeats 8000000 in
theorem walk_Rf_okB (lon lat d b k l sg : Int) (r : Bool) (w : World) (hr : r = true ∧ sg = 1 ∨ r = false ∧ sg = -1) (hT : Tab w) (hL : LTab w) (hp : plB lon lat = true) (hb : b = 0 ∨ b = 1) (d1 : -4000000 ≤ d) (d2 : d < 4000000) (k1 : -9223372036854775808 ≤ k) (k2 : k ≤ 9223372036854775807) (l1 : -9223372036854775808 ≤ l) (l2 : l ≤ 9223372036854775807) :
    Calls Tryz.prog 5 #[.agg #[.int .i64 lon, .int .i64 lat], .int .i64 d, .int .i64 b, .bool r, .int .i64 k, .int .i64 l] w fun e w' => e = .returned (.bool true) ∧ Below w.heap.size w w' := by
  have er : rsE lon lat b = 0 := by unfold rsE; rw [hp, if_neg (by decide), if_pos hb]
  have ha := fun w1 h1 h2 => c_FindS lon lat d b sg r w1 hr h1 h2 er d1 d2
  have hok := rfR_ok lon lat d b (sg := sg) (by omega)
  have HOK := Lib.hid hok
  have HAB := Lib.hid (fun t w1 h1 h2 ht => c_Above lon lat t b w1 h1 h2 er ht)
  have HHI := Lib.hid (fun t n f v w1 ht n1 n2 f1 f2 hv hv2 => c_high lon lat t b n f v w1 hp hb ht n1 n2 f1 f2 hv hv2)
  have hre := fun w1 => c_rPlaceErr lon lat w1
  rw [plE_t hp] at hre
  have HR := Lib.hid hre
  have HT := Lib.hid hT
  have HLT := Lib.hid hL
  have HAK := Lib.hid (fun w1 => c_at17 k w1 k1 k2)
  have HAL := Lib.hid (fun w1 => c_at17 l w1 l1 l2)
  have F1 : decide (d < -4000000) = false := decide_eq_false (by omega)
  have F2 : decide (4000000 ≤ d) = false := decide_eq_false (by omega)
  have V1 : IntKind.i64.wrap (d * 86400000) = d * 86400000 := IntWalk.i64_in _ (by omega)
  obtain ⟨R, hR⟩ : ∃ R, R = rfR lon lat d b sg := ⟨_, rfl⟩
  rw [← hR] at ha HOK
  unfold rfR at hR
  have HRR := Lib.hid hR
  have HA := Lib.hid ha
  have Hb := Lib.hid hb
  clear hT hL hp hre ha er hR hok hb k1 k2 l1 l2
  rcases hr with ⟨rfl, rfl⟩ | ⟨rfl, rfl⟩
  · rcases Hb.out with rfl | rfl
    · skip
      have hgen := sgen; have hgen2 := sgen2; have hgen3 := sgen3; go_enter Tryz.func5, Tryz.ntmps5
      go_wp2_with (first | (go_at_call 28; (with_reducible refine (c_risesetWorks _ (HT.out.below (by exact belz)) (HLT.out.below (by exact belz))).mono ?_); rintro e w1 ⟨rfl, hb⟩; have hz := hb.size; (try simp only [szA, szS, szD, szN] at hz); (try (refine bcB (n := w.heap.size) hb ?_; intro h_w_0 e_w_0 d_w_0 _ _))) | (go_at_call 31; (with_reducible refine (HA.out _ (HT.out.below (by exact belz)) (HLT.out.below (by exact belz))).mono ?_); rintro e w2 ⟨rfl, hb⟩; have hz := hb.size; (try simp only [szA, szS, szD, szN] at hz); (try (refine bcB (n := w.heap.size) hb ?_; intro h_w_0 e_w_0 d_w_0 _ _)); (try (refine bcB (n := w1.heap.size) hb ?_; intro h_w1_0 e_w1_0 d_w1_0 _ _))) | (go_at_call 17; (refine (HR.out _).mono ?_); rintro e w3 ⟨rfl, hb⟩; have hz := hb.size; (try simp only [szA, szS, szD, szN] at hz); (try (refine bcB (n := w.heap.size) hb ?_; intro h_w_0 e_w_0 d_w_0 _ _)); (try (refine bcB (n := w1.heap.size) hb ?_; intro h_w1_0 e_w1_0 d_w1_0 _ _)); (try (refine bcB (n := w2.heap.size) hb ?_; intro h_w2_0 e_w2_0 d_w2_0 _ _))))
      go_loopg [4, 5, 17, 18, 19, 64] 97 (fun gk x4 x5 x17 x18 x19 x64 wr => ∃ (j : Nat) (op : Bool) (be la : Int), gk + j = 97 ∧ x4 = .int .i64 k ∧ x5 = .int .i64 l ∧ x64 = .int .i64 j ∧ x19 = .bool op ∧ x18 = .int .i64 be ∧ x17 = .int .i64 la ∧ ((1) * la = -1 → d * 86400000 ≤ be ∧ be < d * 86400000 + j * 900000) ∧ (la = 1 ∨ la = -1 ∨ la = 0) ∧ ((1) * la = -1 → rsV lon lat be 0 = la) ∧ rfL (rsS lon lat 0 (1)) (d * 86400000) gk j op be ((1) * la) = R ∧ SpAt wr w.heap.size lon lat ∧ SpAt wr w2.heap.size R.lo R.hi ∧ Below w.heap.size w wr)
      case atStart =>
        refine ⟨0, false, 0, 0, by omega, rfl, rfl, rfl, rfl, rfl, rfl, (by intro h; cases h), .inr (.inr rfl), (by intro h; cases h), HRR.out.symm, ?_, ?_, by exact belz⟩
        · constructor <;> go_simp
        · constructor <;> go_simp
      case round =>
        obtain ⟨j, op, be, la, hj, rfl, rfl, rfl, rfl, rfl, rfl, hbe, hla, hbv, hF, hS, hP, hbel⟩ := hrel
        have hsz := hbel.size
        obtain ⟨s8, k80, k81, m80, m81⟩ := hS
        obtain ⟨p8, c80, c81, f80, f81⟩ := hP
        cases gk with
        | zero =>
          obtain rfl : j = 97 := by omega
          have hk9 : decide (((97 : Nat) : Int) < 97) = false := by decide
          unfold rfL at hF
          subst hF
          clear HRR HOK
          cases op with
          | true =>
            go_wp2_with (go_at_call 18; (refine (c_none1 _ _).mono ?_); rintro e w5 ⟨rfl, hb⟩; have hz := hb.size; (try simp only [szA, szS, szD, szN] at hz); (try (refine bcB (n := w.heap.size) hb ?_; intro h_w_0 e_w_0 d_w_0 _ _)); (try (refine bcB (n := w1.heap.size) hb ?_; intro h_w1_0 e_w1_0 d_w1_0 _ _)); (try (refine bcB (n := w2.heap.size) hb ?_; intro h_w2_0 e_w2_0 d_w2_0 _ _)); (try (refine bcB (n := w3.heap.size) hb ?_; intro h_w3_0 e_w3_0 d_w3_0 _ _)); (try (refine bcB (n := wr.heap.size) hb ?_; intro h_wr_0 e_wr_0 d_wr_0 _ _)))
            go_ret
            refine ⟨rfl, ?_⟩
            exact belz
          | false =>
            go_wp2_with (go_at_call 18; (refine (c_none1 _ _).mono ?_); rintro e w5 ⟨rfl, hb⟩; have hz := hb.size; (try simp only [szA, szS, szD, szN] at hz); (try (refine bcB (n := w.heap.size) hb ?_; intro h_w_0 e_w_0 d_w_0 _ _)); (try (refine bcB (n := w1.heap.size) hb ?_; intro h_w1_0 e_w1_0 d_w1_0 _ _)); (try (refine bcB (n := w2.heap.size) hb ?_; intro h_w2_0 e_w2_0 d_w2_0 _ _)); (try (refine bcB (n := w3.heap.size) hb ?_; intro h_w3_0 e_w3_0 d_w3_0 _ _)); (try (refine bcB (n := wr.heap.size) hb ?_; intro h_wr_0 e_wr_0 d_wr_0 _ _)))
            go_ret
            refine ⟨rfl, ?_⟩
            exact belz
        | succ m =>
          have hk8 : decide ((j : Int) < 97) = true := decide_eq_true (by omega)
          have hat : -345600000000000 ≤ d * 86400000 + (j : Int) * 900000 ∧ d * 86400000 + (j : Int) * 900000 < 345600086400000 := by omega
          have V2 : IntKind.i64.wrap ((j : Int) * 900000) = (j : Int) * 900000 := IntWalk.i64_in _ (by omega)
          have V3 : IntKind.i64.wrap (d * 86400000 + (j : Int) * 900000) = d * 86400000 + (j : Int) * 900000 := IntWalk.i64_in _ (by omega)
          have hat1 : d * 86400000 ≤ d * 86400000 + (j : Int) * 900000 ∧ d * 86400000 + (j : Int) * 900000 < d * 86400000 + ((j + 1 : Nat) : Int) * 900000 := by omega
          obtain ⟨v, hv⟩ : ∃ v, v = rsV lon lat (d * 86400000 + (j : Int) * 900000) 0 := ⟨_, rfl⟩
          have hvo := rsV_or lon lat (d * 86400000 + (j : Int) * 900000) 0
          have HAV := Lib.hid (fun w1 h1 h2 => HAB.out (d * 86400000 + (j : Int) * 900000) w1 h1 h2 (inst_mk hat.1 hat.2))
          rw [rfL_step (rsS_of hv.symm)] at hF
          have HBE := Lib.hid hbe
          have HBV := Lib.hid hbv
          rw [← hv] at hvo HAV
          have HV := Lib.hid hv.symm
          clear hbe hv hat hbv
          rcases hvo with rfl | rfl | rfl
          · by_cases cl : la = -1
            · subst cl
              rw [if_neg (by decide)] at hF
              rw [if_pos (by decide)] at hF
              obtain ⟨b1, b2⟩ := HBE.out (by decide)
              have hn := (narF_all (s := (rsS lon lat 0 (1))) (width := 120000) (by decide) 62 be (d * 86400000 + (j : Int) * 900000) (by omega) (by rw [show (2 : Int) ^ 62 = 4611686018427387904 from rfl]; omega) (by rw [show (2 : Int) ^ 62 = 4611686018427387904 from rfl]; omega) (by rw [rsS_of (HBV.out (by decide))]; decide) (by rw [rsS_of HV.out]; decide)).1
              generalize narF (rsS lon lat 0 (1)) 120000 62 be (d * 86400000 + (j : Int) * 900000) = N at *
              obtain ⟨n0, n1, ni⟩ := N
              simp only at hF
              cases ni with
              | false =>
                rw [if_neg (by decide)] at hF
                subst hF
                clear HRR hn HOK
                go_wp2_with (first | (go_at_call 29; (with_reducible refine (HAV.out _ (HT.out.below (by exact belz)) (HLT.out.below (by exact belz))).mono ?_); rintro e w5 ⟨rfl, hb⟩; have hz := hb.size; (try simp only [szA, szS, szD, szN] at hz); (try (refine bcB (n := w.heap.size) hb ?_; intro h_w_0 e_w_0 d_w_0 _ _)); (try (refine bcB (n := w1.heap.size) hb ?_; intro h_w1_0 e_w1_0 d_w1_0 _ _)); (try (refine bcB (n := w2.heap.size) hb ?_; intro h_w2_0 e_w2_0 d_w2_0 _ _)); (try (refine bcB (n := w3.heap.size) hb ?_; intro h_w3_0 e_w3_0 d_w3_0 _ _)); (try (refine bcB (n := wr.heap.size) hb ?_; intro h_wr_0 e_wr_0 d_wr_0 _ _))) | (go_at_call 18; (refine (c_none1 _ _).mono ?_); rintro e w6 ⟨rfl, hb⟩; have hz := hb.size; (try simp only [szA, szS, szD, szN] at hz); (try (refine bcB (n := w.heap.size) hb ?_; intro h_w_0 e_w_0 d_w_0 _ _)); (try (refine bcB (n := w1.heap.size) hb ?_; intro h_w1_0 e_w1_0 d_w1_0 _ _)); (try (refine bcB (n := w2.heap.size) hb ?_; intro h_w2_0 e_w2_0 d_w2_0 _ _)); (try (refine bcB (n := w3.heap.size) hb ?_; intro h_w3_0 e_w3_0 d_w3_0 _ _)); (try (refine bcB (n := wr.heap.size) hb ?_; intro h_wr_0 e_wr_0 d_wr_0 _ _)); (try (refine bcB (n := w5.heap.size) hb ?_; intro h_w5_0 e_w5_0 d_w5_0 _ _))))
                go_ret
                refine ⟨rfl, ?_⟩
                exact belz
              | true =>
                rw [if_pos rfl] at hF
                subst hF
                clear HRR HOK
                have nw : n1 - n0 ≤ 120000 := hn.w rfl
                have na : be ≤ n0 := hn.a
                have nb : n0 < n1 := hn.b
                have nc : n1 ≤ d * 86400000 + (j : Int) * 900000 := hn.c
                have nm := hn.m
                have np := hn.p
                simp only at nm np
                clear hn
                have q0 : rsV lon lat n0 0 = -1 := by unfold rsS at nm; omega
                have q1 : rsV lon lat n1 0 = 1 := by unfold rsS at np; omega
                have HH0 := Lib.hid (fun w1 n f u1 u2 f1 f2 => HHI.out n0 n f (-1) w1 (inst_mk (by omega) (by omega)) u1 u2 f1 f2 q0 (by decide))
                have HH1 := Lib.hid (fun w1 n f u1 u2 f1 f2 => HHI.out n1 n f (1) w1 (inst_mk (by omega) (by omega)) u1 u2 f1 f2 q1 (by decide))
                have D1 : decide (be ≤ n0) = true := decide_eq_true na
                have D2 : decide (n1 ≤ d * 86400000 + (j : Int) * 900000) = true := decide_eq_true nc
                have D3 : decide (n0 < n1) = true := decide_eq_true nb
                have D4 : decide (n1 - n0 ≤ 120000) = true := decide_eq_true nw
                have V4 : IntKind.i64.wrap (n1 - n0) = n1 - n0 := IntWalk.i64_in _ (by omega)
                clear q0 q1 nm np hla
                go_wp2_with (first | (go_at_call 29; (with_reducible refine (HAV.out _ (HT.out.below (by exact belz)) (HLT.out.below (by exact belz))).mono ?_); rintro e w5 ⟨rfl, hb⟩; have hz := hb.size; (try simp only [szA, szS, szD, szN] at hz); (try (refine bcB (n := w.heap.size) hb ?_; intro h_w_0 e_w_0 d_w_0 _ _)); (try (refine bcB (n := w1.heap.size) hb ?_; intro h_w1_0 e_w1_0 d_w1_0 _ _)); (try (refine bcB (n := w2.heap.size) hb ?_; intro h_w2_0 e_w2_0 d_w2_0 _ _)); (try (refine bcB (n := w3.heap.size) hb ?_; intro h_w3_0 e_w3_0 d_w3_0 _ _)); (try (refine bcB (n := wr.heap.size) hb ?_; intro h_wr_0 e_wr_0 d_wr_0 _ _))) | (go_at_call 13; (with_reducible refine (HAK.out _).mono ?_); rintro e w' ⟨x, rfl, x1, x2, rfl⟩; have ex : IntKind.i64.wrap (x - 8) = x - 8 := IntWalk.i64_in _ (by omega)) | (go_at_call 13; (with_reducible refine (HAL.out _).mono ?_); rintro e w' ⟨y, rfl, y1, y2, rfl⟩; have ey : IntKind.i64.wrap (y - 8) = y - 8 := IntWalk.i64_in _ (by omega)) | (go_at_call 30; (with_reducible refine (HH0.out _ _ _ (by omega) (by omega) (by omega) (by omega)).mono ?_); rintro e w7 ⟨rfl, hb⟩; have hz := hb.size; (try simp only [szA, szS, szD, szN] at hz); (try (refine bcB (n := w.heap.size) hb ?_; intro h_w_0 e_w_0 d_w_0 _ _)); (try (refine bcB (n := w1.heap.size) hb ?_; intro h_w1_0 e_w1_0 d_w1_0 _ _)); (try (refine bcB (n := w2.heap.size) hb ?_; intro h_w2_0 e_w2_0 d_w2_0 _ _)); (try (refine bcB (n := w3.heap.size) hb ?_; intro h_w3_0 e_w3_0 d_w3_0 _ _)); (try (refine bcB (n := wr.heap.size) hb ?_; intro h_wr_0 e_wr_0 d_wr_0 _ _)); (try (refine bcB (n := w5.heap.size) hb ?_; intro h_w5_0 e_w5_0 d_w5_0 _ _))) | (go_at_call 30; (with_reducible refine (HH1.out _ _ _ (by omega) (by omega) (by omega) (by omega)).mono ?_); rintro e w8 ⟨rfl, hb⟩; have hz := hb.size; (try simp only [szA, szS, szD, szN] at hz); (try (refine bcB (n := w.heap.size) hb ?_; intro h_w_0 e_w_0 d_w_0 _ _)); (try (refine bcB (n := w1.heap.size) hb ?_; intro h_w1_0 e_w1_0 d_w1_0 _ _)); (try (refine bcB (n := w2.heap.size) hb ?_; intro h_w2_0 e_w2_0 d_w2_0 _ _)); (try (refine bcB (n := w3.heap.size) hb ?_; intro h_w3_0 e_w3_0 d_w3_0 _ _)); (try (refine bcB (n := wr.heap.size) hb ?_; intro h_wr_0 e_wr_0 d_wr_0 _ _)); (try (refine bcB (n := w5.heap.size) hb ?_; intro h_w5_0 e_w5_0 d_w5_0 _ _)); (try (refine bcB (n := w7.heap.size) hb ?_; intro h_w7_0 e_w7_0 d_w7_0 _ _))))
                go_ret
                refine ⟨rfl, ?_⟩
                exact belz
            · have GL : (la == -1) = false := by simpa using cl
              rw [if_neg (by decide), if_neg (by intro h; omega)] at hF
              have HF := Lib.hid hF
              clear hF
              go_wp2_with (go_at_call 29; (with_reducible refine (HAV.out _ (HT.out.below (by exact belz)) (HLT.out.below (by exact belz))).mono ?_); rintro e w5 ⟨rfl, hb⟩; have hz := hb.size; (try simp only [szA, szS, szD, szN] at hz); (try (refine bcB (n := w.heap.size) hb ?_; intro h_w_0 e_w_0 d_w_0 _ _)); (try (refine bcB (n := w1.heap.size) hb ?_; intro h_w1_0 e_w1_0 d_w1_0 _ _)); (try (refine bcB (n := w2.heap.size) hb ?_; intro h_w2_0 e_w2_0 d_w2_0 _ _)); (try (refine bcB (n := w3.heap.size) hb ?_; intro h_w3_0 e_w3_0 d_w3_0 _ _)); (try (refine bcB (n := wr.heap.size) hb ?_; intro h_wr_0 e_wr_0 d_wr_0 _ _)))
              go_roundg m
              case measure => omega
              case rel => exact ⟨j + 1, op, (d * 86400000 + (j : Int) * 900000), 1, by omega, rfl, rfl, by go_num, rfl, rfl, rfl, fun _ => hat1, .inl rfl, fun _ => HV.out, HF.out, by constructor <;> go_simp, by constructor <;> go_simp, by exact belz⟩
          · by_cases cl : la = -1
            · subst cl
              rw [if_neg (by decide)] at hF
              rw [if_neg (by decide)] at hF
              have HF := Lib.hid hF
              clear hF
              go_wp2_with (go_at_call 29; (with_reducible refine (HAV.out _ (HT.out.below (by exact belz)) (HLT.out.below (by exact belz))).mono ?_); rintro e w5 ⟨rfl, hb⟩; have hz := hb.size; (try simp only [szA, szS, szD, szN] at hz); (try (refine bcB (n := w.heap.size) hb ?_; intro h_w_0 e_w_0 d_w_0 _ _)); (try (refine bcB (n := w1.heap.size) hb ?_; intro h_w1_0 e_w1_0 d_w1_0 _ _)); (try (refine bcB (n := w2.heap.size) hb ?_; intro h_w2_0 e_w2_0 d_w2_0 _ _)); (try (refine bcB (n := w3.heap.size) hb ?_; intro h_w3_0 e_w3_0 d_w3_0 _ _)); (try (refine bcB (n := wr.heap.size) hb ?_; intro h_wr_0 e_wr_0 d_wr_0 _ _)))
              go_roundg m
              case measure => omega
              case rel => exact ⟨j + 1, op, (d * 86400000 + (j : Int) * 900000), -1, by omega, rfl, rfl, by go_num, rfl, rfl, rfl, fun _ => hat1, .inr (.inl rfl), fun _ => HV.out, HF.out, by constructor <;> go_simp, by constructor <;> go_simp, by exact belz⟩
            · have GL : (la == -1) = false := by simpa using cl
              rw [if_neg (by decide), if_neg (by intro h; omega)] at hF
              have HF := Lib.hid hF
              clear hF
              go_wp2_with (go_at_call 29; (with_reducible refine (HAV.out _ (HT.out.below (by exact belz)) (HLT.out.below (by exact belz))).mono ?_); rintro e w5 ⟨rfl, hb⟩; have hz := hb.size; (try simp only [szA, szS, szD, szN] at hz); (try (refine bcB (n := w.heap.size) hb ?_; intro h_w_0 e_w_0 d_w_0 _ _)); (try (refine bcB (n := w1.heap.size) hb ?_; intro h_w1_0 e_w1_0 d_w1_0 _ _)); (try (refine bcB (n := w2.heap.size) hb ?_; intro h_w2_0 e_w2_0 d_w2_0 _ _)); (try (refine bcB (n := w3.heap.size) hb ?_; intro h_w3_0 e_w3_0 d_w3_0 _ _)); (try (refine bcB (n := wr.heap.size) hb ?_; intro h_wr_0 e_wr_0 d_wr_0 _ _)))
              go_roundg m
              case measure => omega
              case rel => exact ⟨j + 1, op, (d * 86400000 + (j : Int) * 900000), -1, by omega, rfl, rfl, by go_num, rfl, rfl, rfl, fun _ => hat1, .inr (.inl rfl), fun _ => HV.out, HF.out, by constructor <;> go_simp, by constructor <;> go_simp, by exact belz⟩
          · rw [if_pos (by decide)] at hF
            have HF := Lib.hid hF
            clear hF
            go_wp2_with (go_at_call 29; (with_reducible refine (HAV.out _ (HT.out.below (by exact belz)) (HLT.out.below (by exact belz))).mono ?_); rintro e w5 ⟨rfl, hb⟩; have hz := hb.size; (try simp only [szA, szS, szD, szN] at hz); (try (refine bcB (n := w.heap.size) hb ?_; intro h_w_0 e_w_0 d_w_0 _ _)); (try (refine bcB (n := w1.heap.size) hb ?_; intro h_w1_0 e_w1_0 d_w1_0 _ _)); (try (refine bcB (n := w2.heap.size) hb ?_; intro h_w2_0 e_w2_0 d_w2_0 _ _)); (try (refine bcB (n := w3.heap.size) hb ?_; intro h_w3_0 e_w3_0 d_w3_0 _ _)); (try (refine bcB (n := wr.heap.size) hb ?_; intro h_wr_0 e_wr_0 d_wr_0 _ _)))
            go_roundg m
            case measure => omega
            case rel => exact ⟨j + 1, true, be, la, by omega, rfl, rfl, by go_num, rfl, rfl, rfl, (by intro h; have := HBE.out h; omega), hla, HBV.out, HF.out, by constructor <;> go_simp, by constructor <;> go_simp, by exact belz⟩
    · skip
      have hgen := sgen; have hgen2 := sgen2; have hgen3 := sgen3; go_enter Tryz.func5, Tryz.ntmps5
      go_wp2_with (first | (go_at_call 28; (with_reducible refine (c_risesetWorks _ (HT.out.below (by exact belz)) (HLT.out.below (by exact belz))).mono ?_); rintro e w1 ⟨rfl, hb⟩; have hz := hb.size; (try simp only [szA, szS, szD, szN] at hz); (try (refine bcB (n := w.heap.size) hb ?_; intro h_w_0 e_w_0 d_w_0 _ _))) | (go_at_call 31; (with_reducible refine (HA.out _ (HT.out.below (by exact belz)) (HLT.out.below (by exact belz))).mono ?_); rintro e w2 ⟨rfl, hb⟩; have hz := hb.size; (try simp only [szA, szS, szD, szN] at hz); (try (refine bcB (n := w.heap.size) hb ?_; intro h_w_0 e_w_0 d_w_0 _ _)); (try (refine bcB (n := w1.heap.size) hb ?_; intro h_w1_0 e_w1_0 d_w1_0 _ _))) | (go_at_call 17; (refine (HR.out _).mono ?_); rintro e w3 ⟨rfl, hb⟩; have hz := hb.size; (try simp only [szA, szS, szD, szN] at hz); (try (refine bcB (n := w.heap.size) hb ?_; intro h_w_0 e_w_0 d_w_0 _ _)); (try (refine bcB (n := w1.heap.size) hb ?_; intro h_w1_0 e_w1_0 d_w1_0 _ _)); (try (refine bcB (n := w2.heap.size) hb ?_; intro h_w2_0 e_w2_0 d_w2_0 _ _))))
      go_loopg [4, 5, 17, 18, 19, 64] 97 (fun gk x4 x5 x17 x18 x19 x64 wr => ∃ (j : Nat) (op : Bool) (be la : Int), gk + j = 97 ∧ x4 = .int .i64 k ∧ x5 = .int .i64 l ∧ x64 = .int .i64 j ∧ x19 = .bool op ∧ x18 = .int .i64 be ∧ x17 = .int .i64 la ∧ ((1) * la = -1 → d * 86400000 ≤ be ∧ be < d * 86400000 + j * 900000) ∧ (la = 1 ∨ la = -1 ∨ la = 0) ∧ ((1) * la = -1 → rsV lon lat be 1 = la) ∧ rfL (rsS lon lat 1 (1)) (d * 86400000) gk j op be ((1) * la) = R ∧ SpAt wr w.heap.size lon lat ∧ SpAt wr w2.heap.size R.lo R.hi ∧ Below w.heap.size w wr)
      case atStart =>
        refine ⟨0, false, 0, 0, by omega, rfl, rfl, rfl, rfl, rfl, rfl, (by intro h; cases h), .inr (.inr rfl), (by intro h; cases h), HRR.out.symm, ?_, ?_, by exact belz⟩
        · constructor <;> go_simp
        · constructor <;> go_simp
      case round =>
        obtain ⟨j, op, be, la, hj, rfl, rfl, rfl, rfl, rfl, rfl, hbe, hla, hbv, hF, hS, hP, hbel⟩ := hrel
        have hsz := hbel.size
        obtain ⟨s8, k80, k81, m80, m81⟩ := hS
        obtain ⟨p8, c80, c81, f80, f81⟩ := hP
        cases gk with
        | zero =>
          obtain rfl : j = 97 := by omega
          have hk9 : decide (((97 : Nat) : Int) < 97) = false := by decide
          unfold rfL at hF
          subst hF
          clear HRR HOK
          cases op with
          | true =>
            go_wp2_with (go_at_call 18; (refine (c_none1 _ _).mono ?_); rintro e w5 ⟨rfl, hb⟩; have hz := hb.size; (try simp only [szA, szS, szD, szN] at hz); (try (refine bcB (n := w.heap.size) hb ?_; intro h_w_0 e_w_0 d_w_0 _ _)); (try (refine bcB (n := w1.heap.size) hb ?_; intro h_w1_0 e_w1_0 d_w1_0 _ _)); (try (refine bcB (n := w2.heap.size) hb ?_; intro h_w2_0 e_w2_0 d_w2_0 _ _)); (try (refine bcB (n := w3.heap.size) hb ?_; intro h_w3_0 e_w3_0 d_w3_0 _ _)); (try (refine bcB (n := wr.heap.size) hb ?_; intro h_wr_0 e_wr_0 d_wr_0 _ _)))
            go_ret
            refine ⟨rfl, ?_⟩
            exact belz
          | false =>
            go_wp2_with (go_at_call 18; (refine (c_none1 _ _).mono ?_); rintro e w5 ⟨rfl, hb⟩; have hz := hb.size; (try simp only [szA, szS, szD, szN] at hz); (try (refine bcB (n := w.heap.size) hb ?_; intro h_w_0 e_w_0 d_w_0 _ _)); (try (refine bcB (n := w1.heap.size) hb ?_; intro h_w1_0 e_w1_0 d_w1_0 _ _)); (try (refine bcB (n := w2.heap.size) hb ?_; intro h_w2_0 e_w2_0 d_w2_0 _ _)); (try (refine bcB (n := w3.heap.size) hb ?_; intro h_w3_0 e_w3_0 d_w3_0 _ _)); (try (refine bcB (n := wr.heap.size) hb ?_; intro h_wr_0 e_wr_0 d_wr_0 _ _)))
            go_ret
            refine ⟨rfl, ?_⟩
            exact belz
        | succ m =>
          have hk8 : decide ((j : Int) < 97) = true := decide_eq_true (by omega)
          have hat : -345600000000000 ≤ d * 86400000 + (j : Int) * 900000 ∧ d * 86400000 + (j : Int) * 900000 < 345600086400000 := by omega
          have V2 : IntKind.i64.wrap ((j : Int) * 900000) = (j : Int) * 900000 := IntWalk.i64_in _ (by omega)
          have V3 : IntKind.i64.wrap (d * 86400000 + (j : Int) * 900000) = d * 86400000 + (j : Int) * 900000 := IntWalk.i64_in _ (by omega)
          have hat1 : d * 86400000 ≤ d * 86400000 + (j : Int) * 900000 ∧ d * 86400000 + (j : Int) * 900000 < d * 86400000 + ((j + 1 : Nat) : Int) * 900000 := by omega
          obtain ⟨v, hv⟩ : ∃ v, v = rsV lon lat (d * 86400000 + (j : Int) * 900000) 1 := ⟨_, rfl⟩
          have hvo := rsV_or lon lat (d * 86400000 + (j : Int) * 900000) 1
          have HAV := Lib.hid (fun w1 h1 h2 => HAB.out (d * 86400000 + (j : Int) * 900000) w1 h1 h2 (inst_mk hat.1 hat.2))
          rw [rfL_step (rsS_of hv.symm)] at hF
          have HBE := Lib.hid hbe
          have HBV := Lib.hid hbv
          rw [← hv] at hvo HAV
          have HV := Lib.hid hv.symm
          clear hbe hv hat hbv
          rcases hvo with rfl | rfl | rfl
          · by_cases cl : la = -1
            · subst cl
              rw [if_neg (by decide)] at hF
              rw [if_pos (by decide)] at hF
              obtain ⟨b1, b2⟩ := HBE.out (by decide)
              have hn := (narF_all (s := (rsS lon lat 1 (1))) (width := 120000) (by decide) 62 be (d * 86400000 + (j : Int) * 900000) (by omega) (by rw [show (2 : Int) ^ 62 = 4611686018427387904 from rfl]; omega) (by rw [show (2 : Int) ^ 62 = 4611686018427387904 from rfl]; omega) (by rw [rsS_of (HBV.out (by decide))]; decide) (by rw [rsS_of HV.out]; decide)).1
              generalize narF (rsS lon lat 1 (1)) 120000 62 be (d * 86400000 + (j : Int) * 900000) = N at *
              obtain ⟨n0, n1, ni⟩ := N
              simp only at hF
              cases ni with
              | false =>
                rw [if_neg (by decide)] at hF
                subst hF
                clear HRR hn HOK
                go_wp2_with (first | (go_at_call 29; (with_reducible refine (HAV.out _ (HT.out.below (by exact belz)) (HLT.out.below (by exact belz))).mono ?_); rintro e w5 ⟨rfl, hb⟩; have hz := hb.size; (try simp only [szA, szS, szD, szN] at hz); (try (refine bcB (n := w.heap.size) hb ?_; intro h_w_0 e_w_0 d_w_0 _ _)); (try (refine bcB (n := w1.heap.size) hb ?_; intro h_w1_0 e_w1_0 d_w1_0 _ _)); (try (refine bcB (n := w2.heap.size) hb ?_; intro h_w2_0 e_w2_0 d_w2_0 _ _)); (try (refine bcB (n := w3.heap.size) hb ?_; intro h_w3_0 e_w3_0 d_w3_0 _ _)); (try (refine bcB (n := wr.heap.size) hb ?_; intro h_wr_0 e_wr_0 d_wr_0 _ _))) | (go_at_call 18; (refine (c_none1 _ _).mono ?_); rintro e w6 ⟨rfl, hb⟩; have hz := hb.size; (try simp only [szA, szS, szD, szN] at hz); (try (refine bcB (n := w.heap.size) hb ?_; intro h_w_0 e_w_0 d_w_0 _ _)); (try (refine bcB (n := w1.heap.size) hb ?_; intro h_w1_0 e_w1_0 d_w1_0 _ _)); (try (refine bcB (n := w2.heap.size) hb ?_; intro h_w2_0 e_w2_0 d_w2_0 _ _)); (try (refine bcB (n := w3.heap.size) hb ?_; intro h_w3_0 e_w3_0 d_w3_0 _ _)); (try (refine bcB (n := wr.heap.size) hb ?_; intro h_wr_0 e_wr_0 d_wr_0 _ _)); (try (refine bcB (n := w5.heap.size) hb ?_; intro h_w5_0 e_w5_0 d_w5_0 _ _))))
                go_ret
                refine ⟨rfl, ?_⟩
                exact belz
              | true =>
                rw [if_pos rfl] at hF
                subst hF
                clear HRR HOK
                have nw : n1 - n0 ≤ 120000 := hn.w rfl
                have na : be ≤ n0 := hn.a
                have nb : n0 < n1 := hn.b
                have nc : n1 ≤ d * 86400000 + (j : Int) * 900000 := hn.c
                have nm := hn.m
                have np := hn.p
                simp only at nm np
                clear hn
                have q0 : rsV lon lat n0 1 = -1 := by unfold rsS at nm; omega
                have q1 : rsV lon lat n1 1 = 1 := by unfold rsS at np; omega
                have HH0 := Lib.hid (fun w1 n f u1 u2 f1 f2 => HHI.out n0 n f (-1) w1 (inst_mk (by omega) (by omega)) u1 u2 f1 f2 q0 (by decide))
                have HH1 := Lib.hid (fun w1 n f u1 u2 f1 f2 => HHI.out n1 n f (1) w1 (inst_mk (by omega) (by omega)) u1 u2 f1 f2 q1 (by decide))
                have D1 : decide (be ≤ n0) = true := decide_eq_true na
                have D2 : decide (n1 ≤ d * 86400000 + (j : Int) * 900000) = true := decide_eq_true nc
                have D3 : decide (n0 < n1) = true := decide_eq_true nb
                have D4 : decide (n1 - n0 ≤ 120000) = true := decide_eq_true nw
                have V4 : IntKind.i64.wrap (n1 - n0) = n1 - n0 := IntWalk.i64_in _ (by omega)
                clear q0 q1 nm np hla
                go_wp2_with (first | (go_at_call 29; (with_reducible refine (HAV.out _ (HT.out.below (by exact belz)) (HLT.out.below (by exact belz))).mono ?_); rintro e w5 ⟨rfl, hb⟩; have hz := hb.size; (try simp only [szA, szS, szD, szN] at hz); (try (refine bcB (n := w.heap.size) hb ?_; intro h_w_0 e_w_0 d_w_0 _ _)); (try (refine bcB (n := w1.heap.size) hb ?_; intro h_w1_0 e_w1_0 d_w1_0 _ _)); (try (refine bcB (n := w2.heap.size) hb ?_; intro h_w2_0 e_w2_0 d_w2_0 _ _)); (try (refine bcB (n := w3.heap.size) hb ?_; intro h_w3_0 e_w3_0 d_w3_0 _ _)); (try (refine bcB (n := wr.heap.size) hb ?_; intro h_wr_0 e_wr_0 d_wr_0 _ _))) | (go_at_call 13; (with_reducible refine (HAK.out _).mono ?_); rintro e w' ⟨x, rfl, x1, x2, rfl⟩; have ex : IntKind.i64.wrap (x - 8) = x - 8 := IntWalk.i64_in _ (by omega)) | (go_at_call 13; (with_reducible refine (HAL.out _).mono ?_); rintro e w' ⟨y, rfl, y1, y2, rfl⟩; have ey : IntKind.i64.wrap (y - 8) = y - 8 := IntWalk.i64_in _ (by omega)) | (go_at_call 30; (with_reducible refine (HH0.out _ _ _ (by omega) (by omega) (by omega) (by omega)).mono ?_); rintro e w7 ⟨rfl, hb⟩; have hz := hb.size; (try simp only [szA, szS, szD, szN] at hz); (try (refine bcB (n := w.heap.size) hb ?_; intro h_w_0 e_w_0 d_w_0 _ _)); (try (refine bcB (n := w1.heap.size) hb ?_; intro h_w1_0 e_w1_0 d_w1_0 _ _)); (try (refine bcB (n := w2.heap.size) hb ?_; intro h_w2_0 e_w2_0 d_w2_0 _ _)); (try (refine bcB (n := w3.heap.size) hb ?_; intro h_w3_0 e_w3_0 d_w3_0 _ _)); (try (refine bcB (n := wr.heap.size) hb ?_; intro h_wr_0 e_wr_0 d_wr_0 _ _)); (try (refine bcB (n := w5.heap.size) hb ?_; intro h_w5_0 e_w5_0 d_w5_0 _ _))) | (go_at_call 30; (with_reducible refine (HH1.out _ _ _ (by omega) (by omega) (by omega) (by omega)).mono ?_); rintro e w8 ⟨rfl, hb⟩; have hz := hb.size; (try simp only [szA, szS, szD, szN] at hz); (try (refine bcB (n := w.heap.size) hb ?_; intro h_w_0 e_w_0 d_w_0 _ _)); (try (refine bcB (n := w1.heap.size) hb ?_; intro h_w1_0 e_w1_0 d_w1_0 _ _)); (try (refine bcB (n := w2.heap.size) hb ?_; intro h_w2_0 e_w2_0 d_w2_0 _ _)); (try (refine bcB (n := w3.heap.size) hb ?_; intro h_w3_0 e_w3_0 d_w3_0 _ _)); (try (refine bcB (n := wr.heap.size) hb ?_; intro h_wr_0 e_wr_0 d_wr_0 _ _)); (try (refine bcB (n := w5.heap.size) hb ?_; intro h_w5_0 e_w5_0 d_w5_0 _ _)); (try (refine bcB (n := w7.heap.size) hb ?_; intro h_w7_0 e_w7_0 d_w7_0 _ _))))
                go_ret
                refine ⟨rfl, ?_⟩
                exact belz
            · have GL : (la == -1) = false := by simpa using cl
              rw [if_neg (by decide), if_neg (by intro h; omega)] at hF
              have HF := Lib.hid hF
              clear hF
              go_wp2_with (go_at_call 29; (with_reducible refine (HAV.out _ (HT.out.below (by exact belz)) (HLT.out.below (by exact belz))).mono ?_); rintro e w5 ⟨rfl, hb⟩; have hz := hb.size; (try simp only [szA, szS, szD, szN] at hz); (try (refine bcB (n := w.heap.size) hb ?_; intro h_w_0 e_w_0 d_w_0 _ _)); (try (refine bcB (n := w1.heap.size) hb ?_; intro h_w1_0 e_w1_0 d_w1_0 _ _)); (try (refine bcB (n := w2.heap.size) hb ?_; intro h_w2_0 e_w2_0 d_w2_0 _ _)); (try (refine bcB (n := w3.heap.size) hb ?_; intro h_w3_0 e_w3_0 d_w3_0 _ _)); (try (refine bcB (n := wr.heap.size) hb ?_; intro h_wr_0 e_wr_0 d_wr_0 _ _)))
              go_roundg m
              case measure => omega
              case rel => exact ⟨j + 1, op, (d * 86400000 + (j : Int) * 900000), 1, by omega, rfl, rfl, by go_num, rfl, rfl, rfl, fun _ => hat1, .inl rfl, fun _ => HV.out, HF.out, by constructor <;> go_simp, by constructor <;> go_simp, by exact belz⟩
          · by_cases cl : la = -1
            · subst cl
              rw [if_neg (by decide)] at hF
              rw [if_neg (by decide)] at hF
              have HF := Lib.hid hF
              clear hF
              go_wp2_with (go_at_call 29; (with_reducible refine (HAV.out _ (HT.out.below (by exact belz)) (HLT.out.below (by exact belz))).mono ?_); rintro e w5 ⟨rfl, hb⟩; have hz := hb.size; (try simp only [szA, szS, szD, szN] at hz); (try (refine bcB (n := w.heap.size) hb ?_; intro h_w_0 e_w_0 d_w_0 _ _)); (try (refine bcB (n := w1.heap.size) hb ?_; intro h_w1_0 e_w1_0 d_w1_0 _ _)); (try (refine bcB (n := w2.heap.size) hb ?_; intro h_w2_0 e_w2_0 d_w2_0 _ _)); (try (refine bcB (n := w3.heap.size) hb ?_; intro h_w3_0 e_w3_0 d_w3_0 _ _)); (try (refine bcB (n := wr.heap.size) hb ?_; intro h_wr_0 e_wr_0 d_wr_0 _ _)))
              go_roundg m
              case measure => omega
              case rel => exact ⟨j + 1, op, (d * 86400000 + (j : Int) * 900000), -1, by omega, rfl, rfl, by go_num, rfl, rfl, rfl, fun _ => hat1, .inr (.inl rfl), fun _ => HV.out, HF.out, by constructor <;> go_simp, by constructor <;> go_simp, by exact belz⟩
            · have GL : (la == -1) = false := by simpa using cl
              rw [if_neg (by decide), if_neg (by intro h; omega)] at hF
              have HF := Lib.hid hF
              clear hF
              go_wp2_with (go_at_call 29; (with_reducible refine (HAV.out _ (HT.out.below (by exact belz)) (HLT.out.below (by exact belz))).mono ?_); rintro e w5 ⟨rfl, hb⟩; have hz := hb.size; (try simp only [szA, szS, szD, szN] at hz); (try (refine bcB (n := w.heap.size) hb ?_; intro h_w_0 e_w_0 d_w_0 _ _)); (try (refine bcB (n := w1.heap.size) hb ?_; intro h_w1_0 e_w1_0 d_w1_0 _ _)); (try (refine bcB (n := w2.heap.size) hb ?_; intro h_w2_0 e_w2_0 d_w2_0 _ _)); (try (refine bcB (n := w3.heap.size) hb ?_; intro h_w3_0 e_w3_0 d_w3_0 _ _)); (try (refine bcB (n := wr.heap.size) hb ?_; intro h_wr_0 e_wr_0 d_wr_0 _ _)))
              go_roundg m
              case measure => omega
              case rel => exact ⟨j + 1, op, (d * 86400000 + (j : Int) * 900000), -1, by omega, rfl, rfl, by go_num, rfl, rfl, rfl, fun _ => hat1, .inr (.inl rfl), fun _ => HV.out, HF.out, by constructor <;> go_simp, by constructor <;> go_simp, by exact belz⟩
          · rw [if_pos (by decide)] at hF
            have HF := Lib.hid hF
            clear hF
            go_wp2_with (go_at_call 29; (with_reducible refine (HAV.out _ (HT.out.below (by exact belz)) (HLT.out.below (by exact belz))).mono ?_); rintro e w5 ⟨rfl, hb⟩; have hz := hb.size; (try simp only [szA, szS, szD, szN] at hz); (try (refine bcB (n := w.heap.size) hb ?_; intro h_w_0 e_w_0 d_w_0 _ _)); (try (refine bcB (n := w1.heap.size) hb ?_; intro h_w1_0 e_w1_0 d_w1_0 _ _)); (try (refine bcB (n := w2.heap.size) hb ?_; intro h_w2_0 e_w2_0 d_w2_0 _ _)); (try (refine bcB (n := w3.heap.size) hb ?_; intro h_w3_0 e_w3_0 d_w3_0 _ _)); (try (refine bcB (n := wr.heap.size) hb ?_; intro h_wr_0 e_wr_0 d_wr_0 _ _)))
            go_roundg m
            case measure => omega
            case rel => exact ⟨j + 1, true, be, la, by omega, rfl, rfl, by go_num, rfl, rfl, rfl, (by intro h; have := HBE.out h; omega), hla, HBV.out, HF.out, by constructor <;> go_simp, by constructor <;> go_simp, by exact belz⟩
  · rcases Hb.out with rfl | rfl
    · skip
      have hgen := sgen; have hgen2 := sgen2; have hgen3 := sgen3; go_enter Tryz.func5, Tryz.ntmps5
      go_wp2_with (first | (go_at_call 28; (with_reducible refine (c_risesetWorks _ (HT.out.below (by exact belz)) (HLT.out.below (by exact belz))).mono ?_); rintro e w1 ⟨rfl, hb⟩; have hz := hb.size; (try simp only [szA, szS, szD, szN] at hz); (try (refine bcB (n := w.heap.size) hb ?_; intro h_w_0 e_w_0 d_w_0 _ _))) | (go_at_call 31; (with_reducible refine (HA.out _ (HT.out.below (by exact belz)) (HLT.out.below (by exact belz))).mono ?_); rintro e w2 ⟨rfl, hb⟩; have hz := hb.size; (try simp only [szA, szS, szD, szN] at hz); (try (refine bcB (n := w.heap.size) hb ?_; intro h_w_0 e_w_0 d_w_0 _ _)); (try (refine bcB (n := w1.heap.size) hb ?_; intro h_w1_0 e_w1_0 d_w1_0 _ _))) | (go_at_call 17; (refine (HR.out _).mono ?_); rintro e w3 ⟨rfl, hb⟩; have hz := hb.size; (try simp only [szA, szS, szD, szN] at hz); (try (refine bcB (n := w.heap.size) hb ?_; intro h_w_0 e_w_0 d_w_0 _ _)); (try (refine bcB (n := w1.heap.size) hb ?_; intro h_w1_0 e_w1_0 d_w1_0 _ _)); (try (refine bcB (n := w2.heap.size) hb ?_; intro h_w2_0 e_w2_0 d_w2_0 _ _))))
      go_loopg [4, 5, 17, 18, 19, 64] 97 (fun gk x4 x5 x17 x18 x19 x64 wr => ∃ (j : Nat) (op : Bool) (be la : Int), gk + j = 97 ∧ x4 = .int .i64 k ∧ x5 = .int .i64 l ∧ x64 = .int .i64 j ∧ x19 = .bool op ∧ x18 = .int .i64 be ∧ x17 = .int .i64 la ∧ ((-1) * la = -1 → d * 86400000 ≤ be ∧ be < d * 86400000 + j * 900000) ∧ (la = 1 ∨ la = -1 ∨ la = 0) ∧ ((-1) * la = -1 → rsV lon lat be 0 = la) ∧ rfL (rsS lon lat 0 (-1)) (d * 86400000) gk j op be ((-1) * la) = R ∧ SpAt wr w.heap.size lon lat ∧ SpAt wr w2.heap.size R.lo R.hi ∧ Below w.heap.size w wr)
      case atStart =>
        refine ⟨0, false, 0, 0, by omega, rfl, rfl, rfl, rfl, rfl, rfl, (by intro h; cases h), .inr (.inr rfl), (by intro h; cases h), HRR.out.symm, ?_, ?_, by exact belz⟩
        · constructor <;> go_simp
        · constructor <;> go_simp
      case round =>
        obtain ⟨j, op, be, la, hj, rfl, rfl, rfl, rfl, rfl, rfl, hbe, hla, hbv, hF, hS, hP, hbel⟩ := hrel
        have hsz := hbel.size
        obtain ⟨s8, k80, k81, m80, m81⟩ := hS
        obtain ⟨p8, c80, c81, f80, f81⟩ := hP
        cases gk with
        | zero =>
          obtain rfl : j = 97 := by omega
          have hk9 : decide (((97 : Nat) : Int) < 97) = false := by decide
          unfold rfL at hF
          subst hF
          clear HRR HOK
          cases op with
          | true =>
            go_wp2_with (go_at_call 18; (refine (c_none1 _ _).mono ?_); rintro e w5 ⟨rfl, hb⟩; have hz := hb.size; (try simp only [szA, szS, szD, szN] at hz); (try (refine bcB (n := w.heap.size) hb ?_; intro h_w_0 e_w_0 d_w_0 _ _)); (try (refine bcB (n := w1.heap.size) hb ?_; intro h_w1_0 e_w1_0 d_w1_0 _ _)); (try (refine bcB (n := w2.heap.size) hb ?_; intro h_w2_0 e_w2_0 d_w2_0 _ _)); (try (refine bcB (n := w3.heap.size) hb ?_; intro h_w3_0 e_w3_0 d_w3_0 _ _)); (try (refine bcB (n := wr.heap.size) hb ?_; intro h_wr_0 e_wr_0 d_wr_0 _ _)))
            go_ret
            refine ⟨rfl, ?_⟩
            exact belz
          | false =>
            go_wp2_with (go_at_call 18; (refine (c_none1 _ _).mono ?_); rintro e w5 ⟨rfl, hb⟩; have hz := hb.size; (try simp only [szA, szS, szD, szN] at hz); (try (refine bcB (n := w.heap.size) hb ?_; intro h_w_0 e_w_0 d_w_0 _ _)); (try (refine bcB (n := w1.heap.size) hb ?_; intro h_w1_0 e_w1_0 d_w1_0 _ _)); (try (refine bcB (n := w2.heap.size) hb ?_; intro h_w2_0 e_w2_0 d_w2_0 _ _)); (try (refine bcB (n := w3.heap.size) hb ?_; intro h_w3_0 e_w3_0 d_w3_0 _ _)); (try (refine bcB (n := wr.heap.size) hb ?_; intro h_wr_0 e_wr_0 d_wr_0 _ _)))
            go_ret
            refine ⟨rfl, ?_⟩
            exact belz
        | succ m =>
          have hk8 : decide ((j : Int) < 97) = true := decide_eq_true (by omega)
          have hat : -345600000000000 ≤ d * 86400000 + (j : Int) * 900000 ∧ d * 86400000 + (j : Int) * 900000 < 345600086400000 := by omega
          have V2 : IntKind.i64.wrap ((j : Int) * 900000) = (j : Int) * 900000 := IntWalk.i64_in _ (by omega)
          have V3 : IntKind.i64.wrap (d * 86400000 + (j : Int) * 900000) = d * 86400000 + (j : Int) * 900000 := IntWalk.i64_in _ (by omega)
          have hat1 : d * 86400000 ≤ d * 86400000 + (j : Int) * 900000 ∧ d * 86400000 + (j : Int) * 900000 < d * 86400000 + ((j + 1 : Nat) : Int) * 900000 := by omega
          obtain ⟨v, hv⟩ : ∃ v, v = rsV lon lat (d * 86400000 + (j : Int) * 900000) 0 := ⟨_, rfl⟩
          have hvo := rsV_or lon lat (d * 86400000 + (j : Int) * 900000) 0
          have HAV := Lib.hid (fun w1 h1 h2 => HAB.out (d * 86400000 + (j : Int) * 900000) w1 h1 h2 (inst_mk hat.1 hat.2))
          rw [rfL_step (rsS_of hv.symm)] at hF
          have HBE := Lib.hid hbe
          have HBV := Lib.hid hbv
          rw [← hv] at hvo HAV
          have HV := Lib.hid hv.symm
          clear hbe hv hat hbv
          rcases hvo with rfl | rfl | rfl
          · by_cases cl : la = 1
            · subst cl
              rw [if_neg (by decide)] at hF
              rw [if_neg (by decide)] at hF
              have HF := Lib.hid hF
              clear hF
              go_wp2_with (go_at_call 29; (with_reducible refine (HAV.out _ (HT.out.below (by exact belz)) (HLT.out.below (by exact belz))).mono ?_); rintro e w5 ⟨rfl, hb⟩; have hz := hb.size; (try simp only [szA, szS, szD, szN] at hz); (try (refine bcB (n := w.heap.size) hb ?_; intro h_w_0 e_w_0 d_w_0 _ _)); (try (refine bcB (n := w1.heap.size) hb ?_; intro h_w1_0 e_w1_0 d_w1_0 _ _)); (try (refine bcB (n := w2.heap.size) hb ?_; intro h_w2_0 e_w2_0 d_w2_0 _ _)); (try (refine bcB (n := w3.heap.size) hb ?_; intro h_w3_0 e_w3_0 d_w3_0 _ _)); (try (refine bcB (n := wr.heap.size) hb ?_; intro h_wr_0 e_wr_0 d_wr_0 _ _)))
              go_roundg m
              case measure => omega
              case rel => exact ⟨j + 1, op, (d * 86400000 + (j : Int) * 900000), 1, by omega, rfl, rfl, by go_num, rfl, rfl, rfl, fun _ => hat1, .inl rfl, fun _ => HV.out, HF.out, by constructor <;> go_simp, by constructor <;> go_simp, by exact belz⟩
            · have GL : (la == 1) = false := by simpa using cl
              rw [if_neg (by decide), if_neg (by intro h; omega)] at hF
              have HF := Lib.hid hF
              clear hF
              go_wp2_with (go_at_call 29; (with_reducible refine (HAV.out _ (HT.out.below (by exact belz)) (HLT.out.below (by exact belz))).mono ?_); rintro e w5 ⟨rfl, hb⟩; have hz := hb.size; (try simp only [szA, szS, szD, szN] at hz); (try (refine bcB (n := w.heap.size) hb ?_; intro h_w_0 e_w_0 d_w_0 _ _)); (try (refine bcB (n := w1.heap.size) hb ?_; intro h_w1_0 e_w1_0 d_w1_0 _ _)); (try (refine bcB (n := w2.heap.size) hb ?_; intro h_w2_0 e_w2_0 d_w2_0 _ _)); (try (refine bcB (n := w3.heap.size) hb ?_; intro h_w3_0 e_w3_0 d_w3_0 _ _)); (try (refine bcB (n := wr.heap.size) hb ?_; intro h_wr_0 e_wr_0 d_wr_0 _ _)))
              go_roundg m
              case measure => omega
              case rel => exact ⟨j + 1, op, (d * 86400000 + (j : Int) * 900000), 1, by omega, rfl, rfl, by go_num, rfl, rfl, rfl, fun _ => hat1, .inl rfl, fun _ => HV.out, HF.out, by constructor <;> go_simp, by constructor <;> go_simp, by exact belz⟩
          · by_cases cl : la = 1
            · subst cl
              rw [if_neg (by decide)] at hF
              rw [if_pos (by decide)] at hF
              obtain ⟨b1, b2⟩ := HBE.out (by decide)
              have hn := (narF_all (s := (rsS lon lat 0 (-1))) (width := 120000) (by decide) 62 be (d * 86400000 + (j : Int) * 900000) (by omega) (by rw [show (2 : Int) ^ 62 = 4611686018427387904 from rfl]; omega) (by rw [show (2 : Int) ^ 62 = 4611686018427387904 from rfl]; omega) (by rw [rsS_of (HBV.out (by decide))]; decide) (by rw [rsS_of HV.out]; decide)).1
              generalize narF (rsS lon lat 0 (-1)) 120000 62 be (d * 86400000 + (j : Int) * 900000) = N at *
              obtain ⟨n0, n1, ni⟩ := N
              simp only at hF
              cases ni with
              | false =>
                rw [if_neg (by decide)] at hF
                subst hF
                clear HRR hn HOK
                go_wp2_with (first | (go_at_call 29; (with_reducible refine (HAV.out _ (HT.out.below (by exact belz)) (HLT.out.below (by exact belz))).mono ?_); rintro e w5 ⟨rfl, hb⟩; have hz := hb.size; (try simp only [szA, szS, szD, szN] at hz); (try (refine bcB (n := w.heap.size) hb ?_; intro h_w_0 e_w_0 d_w_0 _ _)); (try (refine bcB (n := w1.heap.size) hb ?_; intro h_w1_0 e_w1_0 d_w1_0 _ _)); (try (refine bcB (n := w2.heap.size) hb ?_; intro h_w2_0 e_w2_0 d_w2_0 _ _)); (try (refine bcB (n := w3.heap.size) hb ?_; intro h_w3_0 e_w3_0 d_w3_0 _ _)); (try (refine bcB (n := wr.heap.size) hb ?_; intro h_wr_0 e_wr_0 d_wr_0 _ _))) | (go_at_call 18; (refine (c_none1 _ _).mono ?_); rintro e w6 ⟨rfl, hb⟩; have hz := hb.size; (try simp only [szA, szS, szD, szN] at hz); (try (refine bcB (n := w.heap.size) hb ?_; intro h_w_0 e_w_0 d_w_0 _ _)); (try (refine bcB (n := w1.heap.size) hb ?_; intro h_w1_0 e_w1_0 d_w1_0 _ _)); (try (refine bcB (n := w2.heap.size) hb ?_; intro h_w2_0 e_w2_0 d_w2_0 _ _)); (try (refine bcB (n := w3.heap.size) hb ?_; intro h_w3_0 e_w3_0 d_w3_0 _ _)); (try (refine bcB (n := wr.heap.size) hb ?_; intro h_wr_0 e_wr_0 d_wr_0 _ _)); (try (refine bcB (n := w5.heap.size) hb ?_; intro h_w5_0 e_w5_0 d_w5_0 _ _))))
                go_ret
                refine ⟨rfl, ?_⟩
                exact belz
              | true =>
                rw [if_pos rfl] at hF
                subst hF
                clear HRR HOK
                have nw : n1 - n0 ≤ 120000 := hn.w rfl
                have na : be ≤ n0 := hn.a
                have nb : n0 < n1 := hn.b
                have nc : n1 ≤ d * 86400000 + (j : Int) * 900000 := hn.c
                have nm := hn.m
                have np := hn.p
                simp only at nm np
                clear hn
                have q0 : rsV lon lat n0 0 = 1 := by unfold rsS at nm; omega
                have q1 : rsV lon lat n1 0 = -1 := by unfold rsS at np; omega
                have HH0 := Lib.hid (fun w1 n f u1 u2 f1 f2 => HHI.out n0 n f (1) w1 (inst_mk (by omega) (by omega)) u1 u2 f1 f2 q0 (by decide))
                have HH1 := Lib.hid (fun w1 n f u1 u2 f1 f2 => HHI.out n1 n f (-1) w1 (inst_mk (by omega) (by omega)) u1 u2 f1 f2 q1 (by decide))
                have D1 : decide (be ≤ n0) = true := decide_eq_true na
                have D2 : decide (n1 ≤ d * 86400000 + (j : Int) * 900000) = true := decide_eq_true nc
                have D3 : decide (n0 < n1) = true := decide_eq_true nb
                have D4 : decide (n1 - n0 ≤ 120000) = true := decide_eq_true nw
                have V4 : IntKind.i64.wrap (n1 - n0) = n1 - n0 := IntWalk.i64_in _ (by omega)
                clear q0 q1 nm np hla
                go_wp2_with (first | (go_at_call 29; (with_reducible refine (HAV.out _ (HT.out.below (by exact belz)) (HLT.out.below (by exact belz))).mono ?_); rintro e w5 ⟨rfl, hb⟩; have hz := hb.size; (try simp only [szA, szS, szD, szN] at hz); (try (refine bcB (n := w.heap.size) hb ?_; intro h_w_0 e_w_0 d_w_0 _ _)); (try (refine bcB (n := w1.heap.size) hb ?_; intro h_w1_0 e_w1_0 d_w1_0 _ _)); (try (refine bcB (n := w2.heap.size) hb ?_; intro h_w2_0 e_w2_0 d_w2_0 _ _)); (try (refine bcB (n := w3.heap.size) hb ?_; intro h_w3_0 e_w3_0 d_w3_0 _ _)); (try (refine bcB (n := wr.heap.size) hb ?_; intro h_wr_0 e_wr_0 d_wr_0 _ _))) | (go_at_call 13; (with_reducible refine (HAK.out _).mono ?_); rintro e w' ⟨x, rfl, x1, x2, rfl⟩; have ex : IntKind.i64.wrap (x - 8) = x - 8 := IntWalk.i64_in _ (by omega)) | (go_at_call 13; (with_reducible refine (HAL.out _).mono ?_); rintro e w' ⟨y, rfl, y1, y2, rfl⟩; have ey : IntKind.i64.wrap (y - 8) = y - 8 := IntWalk.i64_in _ (by omega)) | (go_at_call 30; (with_reducible refine (HH0.out _ _ _ (by omega) (by omega) (by omega) (by omega)).mono ?_); rintro e w7 ⟨rfl, hb⟩; have hz := hb.size; (try simp only [szA, szS, szD, szN] at hz); (try (refine bcB (n := w.heap.size) hb ?_; intro h_w_0 e_w_0 d_w_0 _ _)); (try (refine bcB (n := w1.heap.size) hb ?_; intro h_w1_0 e_w1_0 d_w1_0 _ _)); (try (refine bcB (n := w2.heap.size) hb ?_; intro h_w2_0 e_w2_0 d_w2_0 _ _)); (try (refine bcB (n := w3.heap.size) hb ?_; intro h_w3_0 e_w3_0 d_w3_0 _ _)); (try (refine bcB (n := wr.heap.size) hb ?_; intro h_wr_0 e_wr_0 d_wr_0 _ _)); (try (refine bcB (n := w5.heap.size) hb ?_; intro h_w5_0 e_w5_0 d_w5_0 _ _))) | (go_at_call 30; (with_reducible refine (HH1.out _ _ _ (by omega) (by omega) (by omega) (by omega)).mono ?_); rintro e w8 ⟨rfl, hb⟩; have hz := hb.size; (try simp only [szA, szS, szD, szN] at hz); (try (refine bcB (n := w.heap.size) hb ?_; intro h_w_0 e_w_0 d_w_0 _ _)); (try (refine bcB (n := w1.heap.size) hb ?_; intro h_w1_0 e_w1_0 d_w1_0 _ _)); (try (refine bcB (n := w2.heap.size) hb ?_; intro h_w2_0 e_w2_0 d_w2_0 _ _)); (try (refine bcB (n := w3.heap.size) hb ?_; intro h_w3_0 e_w3_0 d_w3_0 _ _)); (try (refine bcB (n := wr.heap.size) hb ?_; intro h_wr_0 e_wr_0 d_wr_0 _ _)); (try (refine bcB (n := w5.heap.size) hb ?_; intro h_w5_0 e_w5_0 d_w5_0 _ _)); (try (refine bcB (n := w7.heap.size) hb ?_; intro h_w7_0 e_w7_0 d_w7_0 _ _))))
                go_ret
                refine ⟨rfl, ?_⟩
                exact belz
            · have GL : (la == 1) = false := by simpa using cl
              rw [if_neg (by decide), if_neg (by intro h; omega)] at hF
              have HF := Lib.hid hF
              clear hF
              go_wp2_with (go_at_call 29; (with_reducible refine (HAV.out _ (HT.out.below (by exact belz)) (HLT.out.below (by exact belz))).mono ?_); rintro e w5 ⟨rfl, hb⟩; have hz := hb.size; (try simp only [szA, szS, szD, szN] at hz); (try (refine bcB (n := w.heap.size) hb ?_; intro h_w_0 e_w_0 d_w_0 _ _)); (try (refine bcB (n := w1.heap.size) hb ?_; intro h_w1_0 e_w1_0 d_w1_0 _ _)); (try (refine bcB (n := w2.heap.size) hb ?_; intro h_w2_0 e_w2_0 d_w2_0 _ _)); (try (refine bcB (n := w3.heap.size) hb ?_; intro h_w3_0 e_w3_0 d_w3_0 _ _)); (try (refine bcB (n := wr.heap.size) hb ?_; intro h_wr_0 e_wr_0 d_wr_0 _ _)))
              go_roundg m
              case measure => omega
              case rel => exact ⟨j + 1, op, (d * 86400000 + (j : Int) * 900000), -1, by omega, rfl, rfl, by go_num, rfl, rfl, rfl, fun _ => hat1, .inr (.inl rfl), fun _ => HV.out, HF.out, by constructor <;> go_simp, by constructor <;> go_simp, by exact belz⟩
          · rw [if_pos (by decide)] at hF
            have HF := Lib.hid hF
            clear hF
            go_wp2_with (go_at_call 29; (with_reducible refine (HAV.out _ (HT.out.below (by exact belz)) (HLT.out.below (by exact belz))).mono ?_); rintro e w5 ⟨rfl, hb⟩; have hz := hb.size; (try simp only [szA, szS, szD, szN] at hz); (try (refine bcB (n := w.heap.size) hb ?_; intro h_w_0 e_w_0 d_w_0 _ _)); (try (refine bcB (n := w1.heap.size) hb ?_; intro h_w1_0 e_w1_0 d_w1_0 _ _)); (try (refine bcB (n := w2.heap.size) hb ?_; intro h_w2_0 e_w2_0 d_w2_0 _ _)); (try (refine bcB (n := w3.heap.size) hb ?_; intro h_w3_0 e_w3_0 d_w3_0 _ _)); (try (refine bcB (n := wr.heap.size) hb ?_; intro h_wr_0 e_wr_0 d_wr_0 _ _)))
            go_roundg m
            case measure => omega
            case rel => exact ⟨j + 1, true, be, la, by omega, rfl, rfl, by go_num, rfl, rfl, rfl, (by intro h; have := HBE.out h; omega), hla, HBV.out, HF.out, by constructor <;> go_simp, by constructor <;> go_simp, by exact belz⟩
    · skip
      have hgen := sgen; have hgen2 := sgen2; have hgen3 := sgen3; go_enter Tryz.func5, Tryz.ntmps5
      go_wp2_with (first | (go_at_call 28; (with_reducible refine (c_risesetWorks _ (HT.out.below (by exact belz)) (HLT.out.below (by exact belz))).mono ?_); rintro e w1 ⟨rfl, hb⟩; have hz := hb.size; (try simp only [szA, szS, szD, szN] at hz); (try (refine bcB (n := w.heap.size) hb ?_; intro h_w_0 e_w_0 d_w_0 _ _))) | (go_at_call 31; (with_reducible refine (HA.out _ (HT.out.below (by exact belz)) (HLT.out.below (by exact belz))).mono ?_); rintro e w2 ⟨rfl, hb⟩; have hz := hb.size; (try simp only [szA, szS, szD, szN] at hz); (try (refine bcB (n := w.heap.size) hb ?_; intro h_w_0 e_w_0 d_w_0 _ _)); (try (refine bcB (n := w1.heap.size) hb ?_; intro h_w1_0 e_w1_0 d_w1_0 _ _))) | (go_at_call 17; (refine (HR.out _).mono ?_); rintro e w3 ⟨rfl, hb⟩; have hz := hb.size; (try simp only [szA, szS, szD, szN] at hz); (try (refine bcB (n := w.heap.size) hb ?_; intro h_w_0 e_w_0 d_w_0 _ _)); (try (refine bcB (n := w1.heap.size) hb ?_; intro h_w1_0 e_w1_0 d_w1_0 _ _)); (try (refine bcB (n := w2.heap.size) hb ?_; intro h_w2_0 e_w2_0 d_w2_0 _ _))))
      go_loopg [4, 5, 17, 18, 19, 64] 97 (fun gk x4 x5 x17 x18 x19 x64 wr => ∃ (j : Nat) (op : Bool) (be la : Int), gk + j = 97 ∧ x4 = .int .i64 k ∧ x5 = .int .i64 l ∧ x64 = .int .i64 j ∧ x19 = .bool op ∧ x18 = .int .i64 be ∧ x17 = .int .i64 la ∧ ((-1) * la = -1 → d * 86400000 ≤ be ∧ be < d * 86400000 + j * 900000) ∧ (la = 1 ∨ la = -1 ∨ la = 0) ∧ ((-1) * la = -1 → rsV lon lat be 1 = la) ∧ rfL (rsS lon lat 1 (-1)) (d * 86400000) gk j op be ((-1) * la) = R ∧ SpAt wr w.heap.size lon lat ∧ SpAt wr w2.heap.size R.lo R.hi ∧ Below w.heap.size w wr)
      case atStart =>
        refine ⟨0, false, 0, 0, by omega, rfl, rfl, rfl, rfl, rfl, rfl, (by intro h; cases h), .inr (.inr rfl), (by intro h; cases h), HRR.out.symm, ?_, ?_, by exact belz⟩
        · constructor <;> go_simp
        · constructor <;> go_simp
      case round =>
        obtain ⟨j, op, be, la, hj, rfl, rfl, rfl, rfl, rfl, rfl, hbe, hla, hbv, hF, hS, hP, hbel⟩ := hrel
        have hsz := hbel.size
        obtain ⟨s8, k80, k81, m80, m81⟩ := hS
        obtain ⟨p8, c80, c81, f80, f81⟩ := hP
        cases gk with
        | zero =>
          obtain rfl : j = 97 := by omega
          have hk9 : decide (((97 : Nat) : Int) < 97) = false := by decide
          unfold rfL at hF
          subst hF
          clear HRR HOK
          cases op with
          | true =>
            go_wp2_with (go_at_call 18; (refine (c_none1 _ _).mono ?_); rintro e w5 ⟨rfl, hb⟩; have hz := hb.size; (try simp only [szA, szS, szD, szN] at hz); (try (refine bcB (n := w.heap.size) hb ?_; intro h_w_0 e_w_0 d_w_0 _ _)); (try (refine bcB (n := w1.heap.size) hb ?_; intro h_w1_0 e_w1_0 d_w1_0 _ _)); (try (refine bcB (n := w2.heap.size) hb ?_; intro h_w2_0 e_w2_0 d_w2_0 _ _)); (try (refine bcB (n := w3.heap.size) hb ?_; intro h_w3_0 e_w3_0 d_w3_0 _ _)); (try (refine bcB (n := wr.heap.size) hb ?_; intro h_wr_0 e_wr_0 d_wr_0 _ _)))
            go_ret
            refine ⟨rfl, ?_⟩
            exact belz
          | false =>
            go_wp2_with (go_at_call 18; (refine (c_none1 _ _).mono ?_); rintro e w5 ⟨rfl, hb⟩; have hz := hb.size; (try simp only [szA, szS, szD, szN] at hz); (try (refine bcB (n := w.heap.size) hb ?_; intro h_w_0 e_w_0 d_w_0 _ _)); (try (refine bcB (n := w1.heap.size) hb ?_; intro h_w1_0 e_w1_0 d_w1_0 _ _)); (try (refine bcB (n := w2.heap.size) hb ?_; intro h_w2_0 e_w2_0 d_w2_0 _ _)); (try (refine bcB (n := w3.heap.size) hb ?_; intro h_w3_0 e_w3_0 d_w3_0 _ _)); (try (refine bcB (n := wr.heap.size) hb ?_; intro h_wr_0 e_wr_0 d_wr_0 _ _)))
            go_ret
            refine ⟨rfl, ?_⟩
            exact belz
        | succ m =>
          have hk8 : decide ((j : Int) < 97) = true := decide_eq_true (by omega)
          have hat : -345600000000000 ≤ d * 86400000 + (j : Int) * 900000 ∧ d * 86400000 + (j : Int) * 900000 < 345600086400000 := by omega
          have V2 : IntKind.i64.wrap ((j : Int) * 900000) = (j : Int) * 900000 := IntWalk.i64_in _ (by omega)
          have V3 : IntKind.i64.wrap (d * 86400000 + (j : Int) * 900000) = d * 86400000 + (j : Int) * 900000 := IntWalk.i64_in _ (by omega)
          have hat1 : d * 86400000 ≤ d * 86400000 + (j : Int) * 900000 ∧ d * 86400000 + (j : Int) * 900000 < d * 86400000 + ((j + 1 : Nat) : Int) * 900000 := by omega
          obtain ⟨v, hv⟩ : ∃ v, v = rsV lon lat (d * 86400000 + (j : Int) * 900000) 1 := ⟨_, rfl⟩
          have hvo := rsV_or lon lat (d * 86400000 + (j : Int) * 900000) 1
          have HAV := Lib.hid (fun w1 h1 h2 => HAB.out (d * 86400000 + (j : Int) * 900000) w1 h1 h2 (inst_mk hat.1 hat.2))
          rw [rfL_step (rsS_of hv.symm)] at hF
          have HBE := Lib.hid hbe
          have HBV := Lib.hid hbv
          rw [← hv] at hvo HAV
          have HV := Lib.hid hv.symm
          clear hbe hv hat hbv
          rcases hvo with rfl | rfl | rfl
          · by_cases cl : la = 1
            · subst cl
              rw [if_neg (by decide)] at hF
              rw [if_neg (by decide)] at hF
              have HF := Lib.hid hF
              clear hF
              go_wp2_with (go_at_call 29; (with_reducible refine (HAV.out _ (HT.out.below (by exact belz)) (HLT.out.below (by exact belz))).mono ?_); rintro e w5 ⟨rfl, hb⟩; have hz := hb.size; (try simp only [szA, szS, szD, szN] at hz); (try (refine bcB (n := w.heap.size) hb ?_; intro h_w_0 e_w_0 d_w_0 _ _)); (try (refine bcB (n := w1.heap.size) hb ?_; intro h_w1_0 e_w1_0 d_w1_0 _ _)); (try (refine bcB (n := w2.heap.size) hb ?_; intro h_w2_0 e_w2_0 d_w2_0 _ _)); (try (refine bcB (n := w3.heap.size) hb ?_; intro h_w3_0 e_w3_0 d_w3_0 _ _)); (try (refine bcB (n := wr.heap.size) hb ?_; intro h_wr_0 e_wr_0 d_wr_0 _ _)))
              go_roundg m
              case measure => omega
              case rel => exact ⟨j + 1, op, (d * 86400000 + (j : Int) * 900000), 1, by omega, rfl, rfl, by go_num, rfl, rfl, rfl, fun _ => hat1, .inl rfl, fun _ => HV.out, HF.out, by constructor <;> go_simp, by constructor <;> go_simp, by exact belz⟩
            · have GL : (la == 1) = false := by simpa using cl
              rw [if_neg (by decide), if_neg (by intro h; omega)] at hF
              have HF := Lib.hid hF
              clear hF
              go_wp2_with (go_at_call 29; (with_reducible refine (HAV.out _ (HT.out.below (by exact belz)) (HLT.out.below (by exact belz))).mono ?_); rintro e w5 ⟨rfl, hb⟩; have hz := hb.size; (try simp only [szA, szS, szD, szN] at hz); (try (refine bcB (n := w.heap.size) hb ?_; intro h_w_0 e_w_0 d_w_0 _ _)); (try (refine bcB (n := w1.heap.size) hb ?_; intro h_w1_0 e_w1_0 d_w1_0 _ _)); (try (refine bcB (n := w2.heap.size) hb ?_; intro h_w2_0 e_w2_0 d_w2_0 _ _)); (try (refine bcB (n := w3.heap.size) hb ?_; intro h_w3_0 e_w3_0 d_w3_0 _ _)); (try (refine bcB (n := wr.heap.size) hb ?_; intro h_wr_0 e_wr_0 d_wr_0 _ _)))
              go_roundg m
              case measure => omega
              case rel => exact ⟨j + 1, op, (d * 86400000 + (j : Int) * 900000), 1, by omega, rfl, rfl, by go_num, rfl, rfl, rfl, fun _ => hat1, .inl rfl, fun _ => HV.out, HF.out, by constructor <;> go_simp, by constructor <;> go_simp, by exact belz⟩
          · by_cases cl : la = 1
            · subst cl
              rw [if_neg (by decide)] at hF
              rw [if_pos (by decide)] at hF
              obtain ⟨b1, b2⟩ := HBE.out (by decide)
              have hn := (narF_all (s := (rsS lon lat 1 (-1))) (width := 120000) (by decide) 62 be (d * 86400000 + (j : Int) * 900000) (by omega) (by rw [show (2 : Int) ^ 62 = 4611686018427387904 from rfl]; omega) (by rw [show (2 : Int) ^ 62 = 4611686018427387904 from rfl]; omega) (by rw [rsS_of (HBV.out (by decide))]; decide) (by rw [rsS_of HV.out]; decide)).1
              generalize narF (rsS lon lat 1 (-1)) 120000 62 be (d * 86400000 + (j : Int) * 900000) = N at *
              obtain ⟨n0, n1, ni⟩ := N
              simp only at hF
              cases ni with
              | false =>
                rw [if_neg (by decide)] at hF
                subst hF
                clear HRR hn HOK
                go_wp2_with (first | (go_at_call 29; (with_reducible refine (HAV.out _ (HT.out.below (by exact belz)) (HLT.out.below (by exact belz))).mono ?_); rintro e w5 ⟨rfl, hb⟩; have hz := hb.size; (try simp only [szA, szS, szD, szN] at hz); (try (refine bcB (n := w.heap.size) hb ?_; intro h_w_0 e_w_0 d_w_0 _ _)); (try (refine bcB (n := w1.heap.size) hb ?_; intro h_w1_0 e_w1_0 d_w1_0 _ _)); (try (refine bcB (n := w2.heap.size) hb ?_; intro h_w2_0 e_w2_0 d_w2_0 _ _)); (try (refine bcB (n := w3.heap.size) hb ?_; intro h_w3_0 e_w3_0 d_w3_0 _ _)); (try (refine bcB (n := wr.heap.size) hb ?_; intro h_wr_0 e_wr_0 d_wr_0 _ _))) | (go_at_call 18; (refine (c_none1 _ _).mono ?_); rintro e w6 ⟨rfl, hb⟩; have hz := hb.size; (try simp only [szA, szS, szD, szN] at hz); (try (refine bcB (n := w.heap.size) hb ?_; intro h_w_0 e_w_0 d_w_0 _ _)); (try (refine bcB (n := w1.heap.size) hb ?_; intro h_w1_0 e_w1_0 d_w1_0 _ _)); (try (refine bcB (n := w2.heap.size) hb ?_; intro h_w2_0 e_w2_0 d_w2_0 _ _)); (try (refine bcB (n := w3.heap.size) hb ?_; intro h_w3_0 e_w3_0 d_w3_0 _ _)); (try (refine bcB (n := wr.heap.size) hb ?_; intro h_wr_0 e_wr_0 d_wr_0 _ _)); (try (refine bcB (n := w5.heap.size) hb ?_; intro h_w5_0 e_w5_0 d_w5_0 _ _))))
                go_ret
                refine ⟨rfl, ?_⟩
                exact belz
              | true =>
                rw [if_pos rfl] at hF
                subst hF
                clear HRR HOK
                have nw : n1 - n0 ≤ 120000 := hn.w rfl
                have na : be ≤ n0 := hn.a
                have nb : n0 < n1 := hn.b
                have nc : n1 ≤ d * 86400000 + (j : Int) * 900000 := hn.c
                have nm := hn.m
                have np := hn.p
                simp only at nm np
                clear hn
                have q0 : rsV lon lat n0 1 = 1 := by unfold rsS at nm; omega
                have q1 : rsV lon lat n1 1 = -1 := by unfold rsS at np; omega
                have HH0 := Lib.hid (fun w1 n f u1 u2 f1 f2 => HHI.out n0 n f (1) w1 (inst_mk (by omega) (by omega)) u1 u2 f1 f2 q0 (by decide))
                have HH1 := Lib.hid (fun w1 n f u1 u2 f1 f2 => HHI.out n1 n f (-1) w1 (inst_mk (by omega) (by omega)) u1 u2 f1 f2 q1 (by decide))
                have D1 : decide (be ≤ n0) = true := decide_eq_true na
                have D2 : decide (n1 ≤ d * 86400000 + (j : Int) * 900000) = true := decide_eq_true nc
                have D3 : decide (n0 < n1) = true := decide_eq_true nb
                have D4 : decide (n1 - n0 ≤ 120000) = true := decide_eq_true nw
                have V4 : IntKind.i64.wrap (n1 - n0) = n1 - n0 := IntWalk.i64_in _ (by omega)
                clear q0 q1 nm np hla
                go_wp2_with (first | (go_at_call 29; (with_reducible refine (HAV.out _ (HT.out.below (by exact belz)) (HLT.out.below (by exact belz))).mono ?_); rintro e w5 ⟨rfl, hb⟩; have hz := hb.size; (try simp only [szA, szS, szD, szN] at hz); (try (refine bcB (n := w.heap.size) hb ?_; intro h_w_0 e_w_0 d_w_0 _ _)); (try (refine bcB (n := w1.heap.size) hb ?_; intro h_w1_0 e_w1_0 d_w1_0 _ _)); (try (refine bcB (n := w2.heap.size) hb ?_; intro h_w2_0 e_w2_0 d_w2_0 _ _)); (try (refine bcB (n := w3.heap.size) hb ?_; intro h_w3_0 e_w3_0 d_w3_0 _ _)); (try (refine bcB (n := wr.heap.size) hb ?_; intro h_wr_0 e_wr_0 d_wr_0 _ _))) | (go_at_call 13; (with_reducible refine (HAK.out _).mono ?_); rintro e w' ⟨x, rfl, x1, x2, rfl⟩; have ex : IntKind.i64.wrap (x - 8) = x - 8 := IntWalk.i64_in _ (by omega)) | (go_at_call 13; (with_reducible refine (HAL.out _).mono ?_); rintro e w' ⟨y, rfl, y1, y2, rfl⟩; have ey : IntKind.i64.wrap (y - 8) = y - 8 := IntWalk.i64_in _ (by omega)) | (go_at_call 30; (with_reducible refine (HH0.out _ _ _ (by omega) (by omega) (by omega) (by omega)).mono ?_); rintro e w7 ⟨rfl, hb⟩; have hz := hb.size; (try simp only [szA, szS, szD, szN] at hz); (try (refine bcB (n := w.heap.size) hb ?_; intro h_w_0 e_w_0 d_w_0 _ _)); (try (refine bcB (n := w1.heap.size) hb ?_; intro h_w1_0 e_w1_0 d_w1_0 _ _)); (try (refine bcB (n := w2.heap.size) hb ?_; intro h_w2_0 e_w2_0 d_w2_0 _ _)); (try (refine bcB (n := w3.heap.size) hb ?_; intro h_w3_0 e_w3_0 d_w3_0 _ _)); (try (refine bcB (n := wr.heap.size) hb ?_; intro h_wr_0 e_wr_0 d_wr_0 _ _)); (try (refine bcB (n := w5.heap.size) hb ?_; intro h_w5_0 e_w5_0 d_w5_0 _ _))) | (go_at_call 30; (with_reducible refine (HH1.out _ _ _ (by omega) (by omega) (by omega) (by omega)).mono ?_); rintro e w8 ⟨rfl, hb⟩; have hz := hb.size; (try simp only [szA, szS, szD, szN] at hz); (try (refine bcB (n := w.heap.size) hb ?_; intro h_w_0 e_w_0 d_w_0 _ _)); (try (refine bcB (n := w1.heap.size) hb ?_; intro h_w1_0 e_w1_0 d_w1_0 _ _)); (try (refine bcB (n := w2.heap.size) hb ?_; intro h_w2_0 e_w2_0 d_w2_0 _ _)); (try (refine bcB (n := w3.heap.size) hb ?_; intro h_w3_0 e_w3_0 d_w3_0 _ _)); (try (refine bcB (n := wr.heap.size) hb ?_; intro h_wr_0 e_wr_0 d_wr_0 _ _)); (try (refine bcB (n := w5.heap.size) hb ?_; intro h_w5_0 e_w5_0 d_w5_0 _ _)); (try (refine bcB (n := w7.heap.size) hb ?_; intro h_w7_0 e_w7_0 d_w7_0 _ _))))
                go_ret
                refine ⟨rfl, ?_⟩
                exact belz
            · have GL : (la == 1) = false := by simpa using cl
              rw [if_neg (by decide), if_neg (by intro h; omega)] at hF
              have HF := Lib.hid hF
              clear hF
              go_wp2_with (go_at_call 29; (with_reducible refine (HAV.out _ (HT.out.below (by exact belz)) (HLT.out.below (by exact belz))).mono ?_); rintro e w5 ⟨rfl, hb⟩; have hz := hb.size; (try simp only [szA, szS, szD, szN] at hz); (try (refine bcB (n := w.heap.size) hb ?_; intro h_w_0 e_w_0 d_w_0 _ _)); (try (refine bcB (n := w1.heap.size) hb ?_; intro h_w1_0 e_w1_0 d_w1_0 _ _)); (try (refine bcB (n := w2.heap.size) hb ?_; intro h_w2_0 e_w2_0 d_w2_0 _ _)); (try (refine bcB (n := w3.heap.size) hb ?_; intro h_w3_0 e_w3_0 d_w3_0 _ _)); (try (refine bcB (n := wr.heap.size) hb ?_; intro h_wr_0 e_wr_0 d_wr_0 _ _)))
              go_roundg m
              case measure => omega
              case rel => exact ⟨j + 1, op, (d * 86400000 + (j : Int) * 900000), -1, by omega, rfl, rfl, by go_num, rfl, rfl, rfl, fun _ => hat1, .inr (.inl rfl), fun _ => HV.out, HF.out, by constructor <;> go_simp, by constructor <;> go_simp, by exact belz⟩
          · rw [if_pos (by decide)] at hF
            have HF := Lib.hid hF
            clear hF
            go_wp2_with (go_at_call 29; (with_reducible refine (HAV.out _ (HT.out.below (by exact belz)) (HLT.out.below (by exact belz))).mono ?_); rintro e w5 ⟨rfl, hb⟩; have hz := hb.size; (try simp only [szA, szS, szD, szN] at hz); (try (refine bcB (n := w.heap.size) hb ?_; intro h_w_0 e_w_0 d_w_0 _ _)); (try (refine bcB (n := w1.heap.size) hb ?_; intro h_w1_0 e_w1_0 d_w1_0 _ _)); (try (refine bcB (n := w2.heap.size) hb ?_; intro h_w2_0 e_w2_0 d_w2_0 _ _)); (try (refine bcB (n := w3.heap.size) hb ?_; intro h_w3_0 e_w3_0 d_w3_0 _ _)); (try (refine bcB (n := wr.heap.size) hb ?_; intro h_wr_0 e_wr_0 d_wr_0 _ _)))
            go_roundg m
            case measure => omega
            case rel => exact ⟨j + 1, true, be, la, by omega, rfl, rfl, by go_num, rfl, rfl, rfl, (by intro h; have := HBE.out h; omega), hla, HBV.out, HF.out, by constructor <;> go_simp, by constructor <;> go_simp, by exact belz⟩
theorem walk_RisesetFinds (lon lat d b k l : Int) (r : Bool) (w : World) (hT : Tab w) (hL : LTab w) (hk : -9223372036854775808 ≤ k ∧ k ≤ 9223372036854775807) (hl : -9223372036854775808 ≤ l ∧ l ≤ 9223372036854775807) :
    Calls Tryz.prog 5 #[.agg #[.int .i64 lon, .int .i64 lat], .int .i64 d, .int .i64 b, .bool r, .int .i64 k, .int .i64 l] w fun e w' => e = .returned (.bool true) ∧ Below w.heap.size w w' := by
  cases h : plB lon lat with
  | false => exact walk_Rf_site lon lat d b k l r w hT hL h
  | true =>
    by_cases b0 : b = 0 ∨ b = 1
    · by_cases hd : d < -4000000 ∨ 4000000 ≤ d
      · exact walk_Rf_rng lon lat d b k l r w hT hL h b0 hd
      · exact walk_Rf_okB lon lat d b k l (sgn r) r w (by cases r <;> simp [sgn]) hT hL h b0 (by omega) (by omega) hk.1 hk.2 hl.1 hl.2
    · exact walk_Rf_body lon lat d b k l r w hT hL h (by omega) (by omega)
end Go.Proofs.YtmjdcabniefifaaGreatDoor
