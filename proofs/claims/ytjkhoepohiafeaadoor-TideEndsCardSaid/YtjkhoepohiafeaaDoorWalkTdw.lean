/- The self-check of the tide; the walk through the law TideHeights. -/
import Derived.Test.YtjkhoepohiafeaaDoorWalkTdf
import Derived.Test.YtjkhoepohiafeaaDoorPlainTide
import Derived.Test.YtjkhoepohiafeaaDoorWalkRsum
import Derived.Deep.QuietTactic
set_option linter.unusedVariables false
set_option linter.unusedSimpArgs false
namespace Go.Proofs.YtjkhoepohiafeaaDoor
open Go.RowKit
theorem c_tHigh (l : List Tm) (t t' : Int) (a : Option Addr) (cap : Nat) (w : World) (hT : Tab w) (hc : l.length ≤ cap) (hs : TmSlice w a l) (hv : tdE l = 0) (ht : instB t = true) (ht' : instB t' = true) (h1 : t ≤ t') (h2 : t' - t ≤ 1728000000) :
    Calls Tryd.prog 38 #[.slice a l.length cap, .int .i64 t, .int .i64 t'] w fun e w' => ∃ a' cap', e = .returned (.tuple #[.slice a' (tdO PH l t (tdN t t' - 1)).length cap', .int .i64 0]) ∧ (tdO PH l t (tdN t t' - 1)).length ≤ cap' ∧ SpSlice w' a' (tdO PH l t (tdN t t' - 1)) ∧ Below w.heap.size w w' := by
  have HF := Lib.hid (fun w1 h hs1 => c_findH l t t' a cap w1 h hc hs1 hv ht ht' h1 h2)
  have HS := Lib.hid hs
  have HT := Lib.hid hT
  clear hs hT ht ht' h1 h2 hv
  generalize tdO PH l t (tdN t t' - 1) = L at *
  have hgen := sgen; have hgen2 := sgen2; have hgen3 := sgen3; go_enter Tryd.func38, Tryd.ntmps38
  go_wp2_with (go_at_call 69; (refine (HF.out _ (HT.out.below (by exact belz)) (HS.out.below (Nat.le_refl _) (by exact belz))).mono ?_); rintro e w1 ⟨a', cap', rfl, hcap, hsl, hb⟩; have hz := hb.size; (try simp only [szA, szS, szD, szN] at hz); (try (refine bcB (n := w.heap.size) hb ?_; intro h_w_0 e_w_0 d_w_0 _ _)))
  go_ret2
  exact ⟨a', cap', rfl, hcap, hsl, hb⟩
def tdL0 : List Tm := [⟨1000, 0, 2000000000000000⟩]
theorem td0_facts : tdE tdL0 = 0 ∧ tdLo tdL0 0 ≤ 1000 ∧ 1000 ≤ tdHi tdL0 0 ∧ tdHi tdL0 0 - tdLo tdL0 0 ≤ 2 := by decide +kernel
theorem td0_tops : tdT PH tdL0 32400000 1 = false ∧ tdT PH tdL0 32400000 2 = false ∧ tdT PH tdL0 32400000 3 = true ∧ tdT PH tdL0 32400000 4 = false ∧ tdT PH tdL0 32400000 5 = false := by decide +kernel
theorem td0_out : tdO PH tdL0 32400000 (tdN 32400000 54000000 - 1) = [⟨39600000, 46800000⟩] := by
  obtain ⟨h1, h2, h3, h4, h5⟩ := td0_tops
  have e : tdN 32400000 54000000 - 1 = 6 := by decide
  rw [e]
  simp [tdO, h1, h2, h3, h4, h5]
theorem c_tideWorks (w : World) (hT : Tab w) : Calls Tryd.prog 31 #[] w fun e w' => e = .returned (.bool true) ∧ Below w.heap.size w w' := by
  obtain ⟨f1, f2, f3, f4⟩ := td0_facts
  have b := td_bd f1 0
  have HH := Lib.hid (fun (b : Nat) (w1 : World) (h : Tab w1) hs => c_tHeight tdL0 0 (some ⟨b, 0, none⟩) 1 w1 h (by decide) hs f1 (by decide))
  have hg := fun (b : Nat) (w1 : World) (h : Tab w1) hs => c_tHigh tdL0 32400000 54000000 (some ⟨b, 0, none⟩) 1 w1 h (by decide) hs f1 (by decide) (by decide) (by decide) (by decide)
  rw [td0_out] at hg
  have HG := Lib.hid hg
  have H1 := Lib.hid (fun w' => c_has1 (tdLo tdL0 0) (tdHi tdL0 0) 1000 2 w' f2 f3 f4 (by omega) (by omega))
  have H2 := Lib.hid (fun w' => c_has1 39600000 46800000 43200000 7200000 w' (by omega) (by omega) (by omega) (by omega) (by omega))
  have el : tdL0.length = 1 := rfl
  rw [el] at HH HG
  have HT := Lib.hid hT
  clear hT f1 f2 f3 f4 b hg el
  generalize tdLo tdL0 0 = lo at *
  generalize tdHi tdL0 0 = hi at *
  have hgen := sgen; have hgen2 := sgen2; have hgen3 := sgen3; go_enter Tryd.func31, Tryd.ntmps31
  go_upto_region 4 with (first | (go_at_call 32; (refine (HH.out _ _ (HT.out.below (by exact belz)) (tm_slice1 (by go_simp) (by go_simp) (by go_simp) (by go_simp))).mono ?_); rintro e w1 ⟨rfl, hb⟩; have hz := hb.size; (try simp only [szA, szS, szD, szN] at hz); (try (refine bcB (n := w.heap.size) hb ?_; intro h_w_0 e_w_0 d_w_0 _ _))) | (go_at_call 38; (refine (HG.out _ _ (HT.out.below (by exact belz)) (tm_slice1 (by go_simp) (by go_simp) (by go_simp) (by go_simp))).mono ?_); rintro e w2 ⟨a', cap', rfl, hcap, hsl, hb⟩; have hz := hb.size; (try simp only [szA, szS, szD, szN] at hz); (try (refine bcB (n := w.heap.size) hb ?_; intro h_w_0 e_w_0 d_w_0 _ _)); (try (refine bcB (n := w1.heap.size) hb ?_; intro h_w1_0 e_w1_0 d_w1_0 _ _))))
  obtain ⟨b, off, ha, hb1, e0, e1⟩ := hsl 0 (by simp)
  have ix1 := @ix_Sp a' b off 1 cap' 0 ha (by omega)
  simp only [List.getElem_cons_zero, Nat.zero_mul, Nat.add_zero, Int.natCast_zero] at e0 e1 ix1
  clear ha hsl
  go_wp2_with (first | (go_at_call 40; (with_reducible refine (H1.out _).mono ?_); rintro e w3 ⟨rfl, hb⟩; have hz := hb.size; (try simp only [szA, szS, szD, szN] at hz); (try (refine bcB (n := w.heap.size) hb ?_; intro h_w_0 e_w_0 d_w_0 _ _)); (try (refine bcB (n := w1.heap.size) hb ?_; intro h_w1_0 e_w1_0 d_w1_0 _ _)); (try (refine bcB (n := w2.heap.size) hb ?_; intro h_w2_0 e_w2_0 d_w2_0 _ _)); (try (refine bcB (n := b) hb ?_; intro h_bb_0 e_bb_0 d_bb_0 _ _))) | (go_at_call 40; (with_reducible refine (H2.out _).mono ?_); rintro e w4 ⟨rfl, hb⟩; have hz := hb.size; (try simp only [szA, szS, szD, szN] at hz); (try (refine bcB (n := w.heap.size) hb ?_; intro h_w_0 e_w_0 d_w_0 _ _)); (try (refine bcB (n := w1.heap.size) hb ?_; intro h_w1_0 e_w1_0 d_w1_0 _ _)); (try (refine bcB (n := w2.heap.size) hb ?_; intro h_w2_0 e_w2_0 d_w2_0 _ _)); (try (refine bcB (n := w3.heap.size) hb ?_; intro h_w3_0 e_w3_0 d_w3_0 _ _)); (try (refine bcB (n := b) hb ?_; intro h_bb_0 e_bb_0 d_bb_0 _ _))))
  go_ret
  refine ⟨rfl, ?_⟩
  exact belz
theorem walk_TdH_bad (l : List Tm) (inst : Int) (a : Option Addr) (cap : Nat) (w : World) (hT : Tab w) (hc : l.length ≤ cap) (hs : TmSlice w a l) (hv : tdE l ≠ 0) :
    Calls Tryd.prog 9 #[.slice a l.length cap, .int .i64 inst] w fun e w' => e = .returned (.bool true) ∧ Below w.heap.size w w' := by
  have h1 : (tdE l != 0) = true := by simp; exact hv
  have h2 : (tdE l == 0) = false := by simp; exact hv
  have h3 : (tdE l != tdE l) = false := by simp
  have HV := Lib.hid (fun w1 hs1 => c_tHeight_bad l inst a cap w1 hc hs1 hv)
  have HE := Lib.hid (fun w1 hs1 => c_tideErr a cap l w1 hc hs1)
  have HK := Lib.hid (fun w1 hs1 => c_tCheck a cap l w1 hc hs1)
  have HS := Lib.hid hs
  have HT := Lib.hid hT
  clear hs hT hv
  generalize tdE l = x at *
  have hgen := sgen; have hgen2 := sgen2; have hgen3 := sgen3; go_enter Tryd.func9, Tryd.ntmps9
  go_wp2_with (first | (go_at_call 31; (refine (c_tideWorks _ (HT.out.below (by exact belz))).mono ?_); rintro e w1 ⟨rfl, hb⟩; have hz := hb.size; (try simp only [szA, szS, szD, szN] at hz); (try (refine bcB (n := w.heap.size) hb ?_; intro h_w_0 e_w_0 d_w_0 _ _))) | (go_at_call 32; (refine (HV.out _ (HS.out.below (Nat.le_refl _) (by exact belz))).mono ?_); rintro e w2 ⟨rfl, hb⟩; have hz := hb.size; (try simp only [szA, szS, szD, szN] at hz); (try (refine bcB (n := w.heap.size) hb ?_; intro h_w_0 e_w_0 d_w_0 _ _)); (try (refine bcB (n := w1.heap.size) hb ?_; intro h_w1_0 e_w1_0 d_w1_0 _ _))) | (go_at_call 33; (refine (HE.out _ (HS.out.below (Nat.le_refl _) (by exact belz))).mono ?_); rintro e w3 ⟨rfl, hb⟩; have hz := hb.size; (try simp only [szA, szS, szD, szN] at hz); (try (refine bcB (n := w.heap.size) hb ?_; intro h_w_0 e_w_0 d_w_0 _ _)); (try (refine bcB (n := w1.heap.size) hb ?_; intro h_w1_0 e_w1_0 d_w1_0 _ _)); (try (refine bcB (n := w2.heap.size) hb ?_; intro h_w2_0 e_w2_0 d_w2_0 _ _))) | (go_at_call 34; (refine (HK.out _ (HS.out.below (Nat.le_refl _) (by exact belz))).mono ?_); rintro e w4 ⟨rfl, hb⟩; have hz := hb.size; (try simp only [szA, szS, szD, szN] at hz); (try (refine bcB (n := w.heap.size) hb ?_; intro h_w_0 e_w_0 d_w_0 _ _)); (try (refine bcB (n := w1.heap.size) hb ?_; intro h_w1_0 e_w1_0 d_w1_0 _ _)); (try (refine bcB (n := w2.heap.size) hb ?_; intro h_w2_0 e_w2_0 d_w2_0 _ _)); (try (refine bcB (n := w3.heap.size) hb ?_; intro h_w3_0 e_w3_0 d_w3_0 _ _))) | (go_at_call 14; (refine (c_none1 _ _).mono ?_); rintro e w5 ⟨rfl, hb⟩; have hz := hb.size; (try simp only [szA, szS, szD, szN] at hz); (try (refine bcB (n := w.heap.size) hb ?_; intro h_w_0 e_w_0 d_w_0 _ _)); (try (refine bcB (n := w1.heap.size) hb ?_; intro h_w1_0 e_w1_0 d_w1_0 _ _)); (try (refine bcB (n := w2.heap.size) hb ?_; intro h_w2_0 e_w2_0 d_w2_0 _ _)); (try (refine bcB (n := w3.heap.size) hb ?_; intro h_w3_0 e_w3_0 d_w3_0 _ _)); (try (refine bcB (n := w4.heap.size) hb ?_; intro h_w4_0 e_w4_0 d_w4_0 _ _))))
  go_ret
  refine ⟨rfl, ?_⟩
  exact belz
theorem walk_TdH_time (l : List Tm) (inst : Int) (a : Option Addr) (cap : Nat) (w : World) (hT : Tab w) (hc : l.length ≤ cap) (hs : TmSlice w a l) (hv : tdE l = 0) (ht : instB inst = false) (t1 : -9223372036854775808 ≤ inst) (t2 : inst ≤ 9223372036854775807) :
    Calls Tryd.prog 9 #[.slice a l.length cap, .int .i64 inst] w fun e w' => e = .returned (.bool true) ∧ Below w.heap.size w w' := by
  have HV := Lib.hid (fun w1 hs1 => c_tHeight_time l inst a cap w1 hc hs1 hv ht t1 t2)
  have he := fun w1 hs1 => c_tideErr a cap l w1 hc hs1
  rw [hv] at he
  have HE := Lib.hid he
  have hk := fun w1 hs1 => c_tCheck a cap l w1 hc hs1
  rw [hv] at hk
  have HK := Lib.hid hk
  have hi := fun w1 => c_instErr inst w1
  rw [instE_of.2 ht] at hi
  have HI := Lib.hid hi
  have HS := Lib.hid hs
  have HT := Lib.hid hT
  clear hs hT hv he hk hi ht
  have hgen := sgen; have hgen2 := sgen2; have hgen3 := sgen3; go_enter Tryd.func9, Tryd.ntmps9
  go_wp2_with (first | (go_at_call 31; (refine (c_tideWorks _ (HT.out.below (by exact belz))).mono ?_); rintro e w1 ⟨rfl, hb⟩; have hz := hb.size; (try simp only [szA, szS, szD, szN] at hz); (try (refine bcB (n := w.heap.size) hb ?_; intro h_w_0 e_w_0 d_w_0 _ _))) | (go_at_call 32; (refine (HV.out _ (HS.out.below (Nat.le_refl _) (by exact belz))).mono ?_); rintro e w2 ⟨rfl, hb⟩; have hz := hb.size; (try simp only [szA, szS, szD, szN] at hz); (try (refine bcB (n := w.heap.size) hb ?_; intro h_w_0 e_w_0 d_w_0 _ _)); (try (refine bcB (n := w1.heap.size) hb ?_; intro h_w1_0 e_w1_0 d_w1_0 _ _))) | (go_at_call 33; (refine (HE.out _ (HS.out.below (Nat.le_refl _) (by exact belz))).mono ?_); rintro e w3 ⟨rfl, hb⟩; have hz := hb.size; (try simp only [szA, szS, szD, szN] at hz); (try (refine bcB (n := w.heap.size) hb ?_; intro h_w_0 e_w_0 d_w_0 _ _)); (try (refine bcB (n := w1.heap.size) hb ?_; intro h_w1_0 e_w1_0 d_w1_0 _ _)); (try (refine bcB (n := w2.heap.size) hb ?_; intro h_w2_0 e_w2_0 d_w2_0 _ _))) | (go_at_call 34; (refine (HK.out _ (HS.out.below (Nat.le_refl _) (by exact belz))).mono ?_); rintro e w4 ⟨rfl, hb⟩; have hz := hb.size; (try simp only [szA, szS, szD, szN] at hz); (try (refine bcB (n := w.heap.size) hb ?_; intro h_w_0 e_w_0 d_w_0 _ _)); (try (refine bcB (n := w1.heap.size) hb ?_; intro h_w1_0 e_w1_0 d_w1_0 _ _)); (try (refine bcB (n := w2.heap.size) hb ?_; intro h_w2_0 e_w2_0 d_w2_0 _ _)); (try (refine bcB (n := w3.heap.size) hb ?_; intro h_w3_0 e_w3_0 d_w3_0 _ _))) | (go_at_call 23; (with_reducible refine (HI.out _).mono ?_); rintro e w' ⟨rfl, rfl⟩) | (go_at_call 14; (refine (c_none1 _ _).mono ?_); rintro e w5 ⟨rfl, hb⟩; have hz := hb.size; (try simp only [szA, szS, szD, szN] at hz); (try (refine bcB (n := w.heap.size) hb ?_; intro h_w_0 e_w_0 d_w_0 _ _)); (try (refine bcB (n := w1.heap.size) hb ?_; intro h_w1_0 e_w1_0 d_w1_0 _ _)); (try (refine bcB (n := w2.heap.size) hb ?_; intro h_w2_0 e_w2_0 d_w2_0 _ _)); (try (refine bcB (n := w3.heap.size) hb ?_; intro h_w3_0 e_w3_0 d_w3_0 _ _)); (try (refine bcB (n := w4.heap.size) hb ?_; intro h_w4_0 e_w4_0 d_w4_0 _ _))))
  go_ret
  refine ⟨rfl, ?_⟩
  exact belz
theorem sc2_bd {arg : Int} (h0 : 0 ≤ arg) (h1 : arg < 1000000000000000) : -1200000000000000000 ≤ (sc arg).2 ∧ (sc arg).2 ≤ 1200000000000000000 := by
  have h := sc_bd h0 (by omega) 12 (by omega)
  obtain ⟨-, -, h3, h4⟩ := h
  unfold sc
  simp only
  unfold U60
  omega
theorem tdRef_bd {x : Tm} {t : Int} (h : ¬ TdBad x) : -1200000000000000 ≤ tdRef x t ∧ tdRef x t ≤ 1200000000000000 := by
  obtain ⟨-, g0, g1⟩ := refArg_eq x t
  unfold TdBad at h
  obtain ⟨s1, s2⟩ := sc2_bd g0 g1
  unfold tdRef
  exact prt_bd (by omega) (by omega) s1 s2
theorem tdSum_bd {l : List Tm} {t : Int} (h : ∀ x ∈ l, ¬ TdBad x) : ∀ k, k ≤ l.length → -1200000000000000 * (k : Int) ≤ tdSum l t k ∧ tdSum l t k ≤ 1200000000000000 * (k : Int)
  | 0, _ => by rw [tdSum_zero]; omega
  | k + 1, hk => by
    have ih := tdSum_bd (t := t) h k (by omega)
    have := tdRef_bd (t := t) (h l[k] (List.getElem_mem (by omega)))
    rw [tdSum_snoc l t k (by omega)]
    omega
set_option maxHeartbeats 1000000 in
theorem walk_TdH_ok (l : List Tm) (inst : Int) (a : Option Addr) (cap : Nat) (w : World) (hT : Tab w) (hc : l.length ≤ cap) (hs : TmSlice w a l) (hv : tdE l = 0) (ht : instB inst = true) :
    Calls Tryd.prog 9 #[.slice a l.length cap, .int .i64 inst] w fun e w' => e = .returned (.bool true) ∧ Below w.heap.size w w' := by
  obtain ⟨i1, i2⟩ := inst_bd ht
  obtain ⟨h12, hbad⟩ := td_of hv
  obtain ⟨p1, p2, p3⟩ := tide_holds hv inst
  obtain ⟨q1, q2, q3, q4⟩ := td_bd hv inst
  have HV := Lib.hid (fun w1 (h : Tab w1) hs1 => c_tHeight l inst a cap w1 h hc hs1 hv ht)
  have he := fun w1 hs1 => c_tideErr a cap l w1 hc hs1
  rw [hv] at he
  have HE := Lib.hid he
  have hk := fun w1 hs1 => c_tCheck a cap l w1 hc hs1
  rw [hv] at hk
  have HK := Lib.hid hk
  have hi := fun w1 => c_instErr inst w1
  rw [instE_of.1 ht] at hi
  have HI := Lib.hid hi
  have HS := Lib.hid hs
  have HT := Lib.hid hT
  have HBD := Lib.hid hbad
  have bl := tdSum_bd (t := inst) hbad l.length (Nat.le_refl _)
  have HC := Lib.hid (fun w1 => c_Contains1 (tdLo l inst) (tdHi l inst) (tdSum l inst l.length) 0 w1 (by omega) (by omega) (by omega) (by omega) (by omega) (by omega) (by omega) (by omega) (by omega) (by omega))
  have v1 : IntKind.i64.wrap (tdHi l inst - tdLo l inst) = tdHi l inst - tdLo l inst := IntWalk.i64_in _ (by omega)
  have v2 : IntKind.i64.wrap (2 * (l.length : Int)) = 2 * (l.length : Int) := IntWalk.i64_in _ (by omega)
  have d1 : decide (tdHi l inst - tdLo l inst ≤ 2 * (l.length : Int)) = true := decide_eq_true (by omega)
  have hl12 : (l.length : Int) ≤ 12 := by omega
  clear hs hT hv he hk hi ht p1 p2 p3 q1 q2 q3 q4 hbad bl
  generalize tdLo l inst = lo at *
  generalize tdHi l inst = hi at *
  have hgen := sgen; have hgen2 := sgen2; have hgen3 := sgen3; go_enter Tryd.func9, Tryd.ntmps9
  go_wp2_with (first | (go_at_call 31; (refine (c_tideWorks _ (HT.out.below (by exact belz))).mono ?_); rintro e w1 ⟨rfl, hb⟩; have hz := hb.size; (try simp only [szA, szS, szD, szN] at hz); (try (refine bcB (n := w.heap.size) hb ?_; intro h_w_0 e_w_0 d_w_0 _ _))) | (go_at_call 32; (refine (HV.out _ (HT.out.below (by exact belz)) (HS.out.below (Nat.le_refl _) (by exact belz))).mono ?_); rintro e w2 ⟨rfl, hb⟩; have hz := hb.size; (try simp only [szA, szS, szD, szN] at hz); (try (refine bcB (n := w.heap.size) hb ?_; intro h_w_0 e_w_0 d_w_0 _ _)); (try (refine bcB (n := w1.heap.size) hb ?_; intro h_w1_0 e_w1_0 d_w1_0 _ _))) | (go_at_call 33; (refine (HE.out _ (HS.out.below (Nat.le_refl _) (by exact belz))).mono ?_); rintro e w3 ⟨rfl, hb⟩; have hz := hb.size; (try simp only [szA, szS, szD, szN] at hz); (try (refine bcB (n := w.heap.size) hb ?_; intro h_w_0 e_w_0 d_w_0 _ _)); (try (refine bcB (n := w1.heap.size) hb ?_; intro h_w1_0 e_w1_0 d_w1_0 _ _)); (try (refine bcB (n := w2.heap.size) hb ?_; intro h_w2_0 e_w2_0 d_w2_0 _ _))) | (go_at_call 34; (refine (HK.out _ (HS.out.below (Nat.le_refl _) (by exact belz))).mono ?_); rintro e w4 ⟨rfl, hb⟩; have hz := hb.size; (try simp only [szA, szS, szD, szN] at hz); (try (refine bcB (n := w.heap.size) hb ?_; intro h_w_0 e_w_0 d_w_0 _ _)); (try (refine bcB (n := w1.heap.size) hb ?_; intro h_w1_0 e_w1_0 d_w1_0 _ _)); (try (refine bcB (n := w2.heap.size) hb ?_; intro h_w2_0 e_w2_0 d_w2_0 _ _)); (try (refine bcB (n := w3.heap.size) hb ?_; intro h_w3_0 e_w3_0 d_w3_0 _ _))) | (go_at_call 23; (with_reducible refine (HI.out _).mono ?_); rintro e w' ⟨rfl, rfl⟩))
  have hb4 : Below w.heap.size w w4 := by exact belz
  have k0 : w4.cell? ⟨w2.heap.size, 0, none⟩ = some (.int .i64 lo) := by go_simp
  have k1 : w4.cell? ⟨w2.heap.size, 1, none⟩ = some (.int .i64 hi) := by go_simp
  have k2 : w2.heap.size < w4.heap.size := by exact belz
  go_loopg [8, 39] l.length (fun gk x8 i wr => ∃ k : Nat, gk + k = l.length ∧ i = .int .i64 k ∧ x8 = .int .i64 (tdSum l inst k) ∧ Below w4.heap.size w4 wr)
  case atStart => exact ⟨0, by omega, rfl, rfl, Below.refl _ _⟩
  case round =>
    obtain ⟨k, hk, rfl, rfl, hbel⟩ := hrel
    have hsz := hbel.size
    by_cases hlt : k < l.length
    · obtain ⟨b, off, ha, hb1, c0, c1, c2⟩ := (HS.out.below (Nat.le_refl _) (Below.call hb4 (by have := hb4.size; omega) hbel)) k hlt
      have ix1 := @ix_Td a b off l.length cap k ha hlt
      have HN := Lib.hid (tdSum_snoc l inst k hlt)
      have hx := HBD.out l[k] (List.getElem_mem hlt)
      have n1 := tdSum_bd (t := inst) HBD.out k (by omega)
      have n3 := tdRef_bd (t := inst) hx
      clear ha
      generalize l[k] = x at *
      generalize tdSum l inst k = n at *
      have HR : Hid (tdRef x inst = prt x.amp (sc ((argV x.rt inst + x.ph * 1000000) % 1000000000000000)).2) := Lib.hid rfl
      rw [HR.out] at n3
      unfold TdBad at hx
      have HA := Lib.hid (fun w1 => c_Arg x.rt inst w1 (by omega) (by omega) (by omega) (by omega))
      have av := argV_bd x.rt inst
      have av1 := av.1
      have av2 := av.2
      have HC2 := Lib.hid (fun w1 => c_SinCos (argV x.rt inst + x.ph * 1000000) w1 (by omega) (by omega))
      have sb := sc2_bd (arg := (argV x.rt inst + x.ph * 1000000) % 1000000000000000) (by omega) (by omega)
      have HP := Lib.hid (fun w1 => c_Part x.amp (sc ((argV x.rt inst + x.ph * 1000000) % 1000000000000000)).2 w1 (by omega) (by omega) sb.1 sb.2)
      clear sb av
      have w1' : IntKind.i64.wrap (x.ph * 1000000) = x.ph * 1000000 := IntWalk.i64_in _ (by omega)
      have w2' : IntKind.i64.wrap (argV x.rt inst + x.ph * 1000000) = argV x.rt inst + x.ph * 1000000 := IntWalk.i64_in _ (by omega)
      generalize argV x.rt inst = av at *
      obtain ⟨n3a, n3b⟩ := n3
      obtain ⟨n1a, n1b⟩ := n1
      have k12 : (k : Int) ≤ 12 := by omega
      clear hx
      go_wp2_with fail
      go_quiet ((first | (go_at_call 35; exact Calls.quiet_of_same ((HA.out _).mono (fun e w' ⟨h1, h2⟩ => ⟨h1, h2.symm⟩))) | (go_at_call 15; exact Calls.quiet_of_same ((HC2.out _).mono (fun e w' ⟨h1, h2⟩ => ⟨h1, h2.symm⟩)))))
      clear w1' w2'
      go_wp2_with (go_at_call 36; refine (HP.out _).mono ?_; rintro e w' ⟨rfl, rfl⟩)
      go_roundg (l.length - (k + 1))
      case measure => omega
      case rel =>
        refine ⟨k + 1, by omega, by go_num, by rw [HN.out, HR.out], ?_⟩
        exact belz
    · have hkl : k = l.length := by omega
      subst hkl
      have hbW := Below.call hb4 (by have := hb4.size; omega) hbel
      refine bcUse (n := w2.heap.size) hbel k2 ?_; intro _ _
      have k3 : w2.heap.size < wr.heap.size := by omega
      go_wp2_with (go_at_call 37; (refine (HC.out _).mono ?_); rintro e w6 ⟨rfl, hb⟩; have hz := hb.size; (try simp only [szA, szS, szD, szN] at hz); (try (refine bcB (n := w.heap.size) hb ?_; intro h_w_0 e_w_0 d_w_0 _ _)); (try (refine bcB (n := w2.heap.size) hb ?_; intro h_w2_0 e_w2_0 d_w2_0 _ _)); (try (refine bcB (n := wr.heap.size) hb ?_; intro h_wr_0 e_wr_0 d_wr_0 _ _)))
      go_ret
      refine ⟨rfl, ?_⟩
      exact belz
theorem walk_TideHeights (a : Option Addr) (len cap : Nat) (l : List Tm) (inst : Int) (w : World) (hT : Tab w) (hl : l.length = len) (hc : len ≤ cap) (hs : TmSlice w a l) (hi : -9223372036854775808 ≤ inst ∧ inst ≤ 9223372036854775807) :
    Calls Tryd.prog 9 #[.slice a len cap, .int .i64 inst] w fun e w' => e = .returned (.bool true) ∧ Below w.heap.size w w' := by
  subst hl
  by_cases he : tdE l = 0
  · cases ht : instB inst with
    | true => exact walk_TdH_ok l inst a cap w hT hc hs he ht
    | false => exact walk_TdH_time l inst a cap w hT hc hs he ht hi.1 hi.2
  · exact walk_TdH_bad l inst a cap w hT hc hs he
end Go.Proofs.YtjkhoepohiafeaaDoor
