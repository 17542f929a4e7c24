/- The walk through the law TideEnds. -/
import Derived.Test.YtjkhoepohiafeaaDoorWalkTdw
set_option linter.unusedVariables false
set_option linter.unusedSimpArgs false
namespace Go.Proofs.YtjkhoepohiafeaaDoor
open Go.RowKit
theorem c_tLow (l : List Tm) (t t' : Int) (a : Option Addr) (cap : Nat) (w : World) (hT : Tab w) (hc : l.length ≤ cap) (hs : TmSlice w a l) (hv : tdE l = 0) (ht : instB t = true) (ht' : instB t' = true) (h1 : t ≤ t') (h2 : t' - t ≤ 1728000000) :
    Calls Tryd.prog 39 #[.slice a l.length cap, .int .i64 t, .int .i64 t'] w fun e w' => ∃ a' cap', e = .returned (.tuple #[.slice a' (tdO PL l t (tdN t t' - 1)).length cap', .int .i64 0]) ∧ (tdO PL l t (tdN t t' - 1)).length ≤ cap' ∧ SpSlice w' a' (tdO PL l t (tdN t t' - 1)) ∧ Below w.heap.size w w' := by
  have HF := Lib.hid (fun w1 h hs1 => c_findL l t t' a cap w1 h hc hs1 hv ht ht' h1 h2)
  have HS := Lib.hid hs
  have HT := Lib.hid hT
  clear hs hT ht ht' h1 h2 hv
  generalize tdO PL l t (tdN t t' - 1) = L at *
  have hgen := sgen; have hgen2 := sgen2; have hgen3 := sgen3; go_enter Tryd.func39, Tryd.ntmps39
  go_wp2_with (go_at_call 69; (refine (HF.out _ (HT.out.below (by exact belz)) (HS.out.below (Nat.le_refl _) (by exact belz))).mono ?_); rintro e w1 ⟨a', cap', rfl, hcap, hsl, hb⟩; have hz := hb.size; (try simp only [szA, szS, szD, szN] at hz); (try (refine bcB (n := w.heap.size) hb ?_; intro h_w_0 e_w_0 d_w_0 _ _)))
  go_ret2
  exact ⟨a', cap', rfl, hcap, hsl, hb⟩
/-- Why tide.find refuses. -/
structure TdNo (l : List Tm) (t t' er : Int) : Prop where
  h : (tdE l = er ∧ er ≠ 0) ∨ (tdE l = 0 ∧ instB t = false ∧ er = 3) ∨ (tdE l = 0 ∧ instB t = true ∧ instB t' = false ∧ er = 3) ∨ (tdE l = 0 ∧ instB t = true ∧ instB t' = true ∧ t' < t ∧ er = 9) ∨ (tdE l = 0 ∧ instB t = true ∧ instB t' = true ∧ t ≤ t' ∧ 1728000000 < t' - t ∧ er = 2)
theorem c_find_no (l : List Tm) (t t' er : Int) (fv : Value) (a : Option Addr) (cap : Nat) (w : World) (hc : l.length ≤ cap) (hs : TmSlice w a l) (hn : TdNo l t t' er) (t1 : -9223372036854775808 ≤ t) (t2 : t ≤ 9223372036854775807) (t3 : -9223372036854775808 ≤ t') (t4 : t' ≤ 9223372036854775807) :
    Calls Tryd.prog 69 #[.slice a l.length cap, .int .i64 t, .int .i64 t', fv] w fun e w' => e = .returned (.tuple #[.slice none 0 0, .int .i64 er]) ∧ Below w.heap.size w w' := by
  have hk := fun w1 hs1 => c_tCheck a cap l w1 hc hs1
  have hi := fun w1 => c_isInst t w1 t1 t2
  have hi' := fun w1 => c_isInst t' w1 t3 t4
  have HS := Lib.hid hs
  clear hs t1 t2 t3 t4
  obtain ⟨⟨h1, h2⟩ | ⟨h1, h2, rfl⟩ | ⟨h1, h2, h3, rfl⟩ | ⟨h1, h2, h3, h4, rfl⟩ | ⟨h1, h2, h3, h4, h5, rfl⟩⟩ := hn
  · have g1 : (er != 0) = true := by simp; exact h2
    rw [h1] at hk
    have HK := Lib.hid hk
    clear hk hi hi' h1 h2
    have hgen := sgen; have hgen2 := sgen2; have hgen3 := sgen3; go_enter Tryd.func69, Tryd.ntmps69
    go_wp2_with (go_at_call 34; (refine (HK.out _ (HS.out.below (Nat.le_refl _) (by exact belz))).mono ?_); rintro e w1 ⟨rfl, hb⟩; have hz := hb.size; (try simp only [szA, szS, szD, szN] at hz); (try (refine bcB (n := w.heap.size) hb ?_; intro h_w_0 e_w_0 d_w_0 _ _)))
    go_ret2
    refine ⟨rfl, ?_⟩
    exact belz
  · rw [h1] at hk
    rw [h2] at hi
    have HK := Lib.hid hk
    have HI := Lib.hid hi
    clear hk hi hi' h1 h2
    have hgen := sgen; have hgen2 := sgen2; have hgen3 := sgen3; go_enter Tryd.func69, Tryd.ntmps69
    go_wp2_with (first | (go_at_call 34; (refine (HK.out _ (HS.out.below (Nat.le_refl _) (by exact belz))).mono ?_); rintro e w1 ⟨rfl, hb⟩; have hz := hb.size; (try simp only [szA, szS, szD, szN] at hz); (try (refine bcB (n := w.heap.size) hb ?_; intro h_w_0 e_w_0 d_w_0 _ _))) | (go_at_call 67; (with_reducible refine (HI.out _).mono ?_); rintro e w2 ⟨rfl, hb⟩; have hz := hb.size; (try simp only [szA, szS, szD, szN] at hz); (try (refine bcB (n := w.heap.size) hb ?_; intro h_w_0 e_w_0 d_w_0 _ _)); (try (refine bcB (n := w1.heap.size) hb ?_; intro h_w1_0 e_w1_0 d_w1_0 _ _))))
    go_ret2
    refine ⟨rfl, ?_⟩
    exact belz
  · rw [h1] at hk
    rw [h2] at hi
    rw [h3] at hi'
    have HK := Lib.hid hk
    have HI := Lib.hid hi
    have HI' := Lib.hid hi'
    clear hk hi hi' h1 h2 h3
    have hgen := sgen; have hgen2 := sgen2; have hgen3 := sgen3; go_enter Tryd.func69, Tryd.ntmps69
    go_wp2_with (first | (go_at_call 34; (refine (HK.out _ (HS.out.below (Nat.le_refl _) (by exact belz))).mono ?_); rintro e w1 ⟨rfl, hb⟩; have hz := hb.size; (try simp only [szA, szS, szD, szN] at hz); (try (refine bcB (n := w.heap.size) hb ?_; intro h_w_0 e_w_0 d_w_0 _ _))) | (go_at_call 67; (with_reducible refine (HI.out _).mono ?_); rintro e w2 ⟨rfl, hb⟩; have hz := hb.size; (try simp only [szA, szS, szD, szN] at hz); (try (refine bcB (n := w.heap.size) hb ?_; intro h_w_0 e_w_0 d_w_0 _ _)); (try (refine bcB (n := w1.heap.size) hb ?_; intro h_w1_0 e_w1_0 d_w1_0 _ _))) | (go_at_call 67; (with_reducible refine (HI'.out _).mono ?_); rintro e w3 ⟨rfl, hb⟩; have hz := hb.size; (try simp only [szA, szS, szD, szN] at hz); (try (refine bcB (n := w.heap.size) hb ?_; intro h_w_0 e_w_0 d_w_0 _ _)); (try (refine bcB (n := w1.heap.size) hb ?_; intro h_w1_0 e_w1_0 d_w1_0 _ _)); (try (refine bcB (n := w2.heap.size) hb ?_; intro h_w2_0 e_w2_0 d_w2_0 _ _))))
    go_ret2
    refine ⟨rfl, ?_⟩
    exact belz
  · rw [h1] at hk
    rw [h2] at hi
    rw [h3] at hi'
    have HK := Lib.hid hk
    have HI := Lib.hid hi
    have HI' := Lib.hid hi'
    have g1 : decide (t' < t) = true := decide_eq_true h4
    clear hk hi hi' h1 h2 h3 h4
    have hgen := sgen; have hgen2 := sgen2; have hgen3 := sgen3; go_enter Tryd.func69, Tryd.ntmps69
    go_wp2_with (first | (go_at_call 34; (refine (HK.out _ (HS.out.below (Nat.le_refl _) (by exact belz))).mono ?_); rintro e w1 ⟨rfl, hb⟩; have hz := hb.size; (try simp only [szA, szS, szD, szN] at hz); (try (refine bcB (n := w.heap.size) hb ?_; intro h_w_0 e_w_0 d_w_0 _ _))) | (go_at_call 67; (with_reducible refine (HI.out _).mono ?_); rintro e w2 ⟨rfl, hb⟩; have hz := hb.size; (try simp only [szA, szS, szD, szN] at hz); (try (refine bcB (n := w.heap.size) hb ?_; intro h_w_0 e_w_0 d_w_0 _ _)); (try (refine bcB (n := w1.heap.size) hb ?_; intro h_w1_0 e_w1_0 d_w1_0 _ _))) | (go_at_call 67; (with_reducible refine (HI'.out _).mono ?_); rintro e w3 ⟨rfl, hb⟩; have hz := hb.size; (try simp only [szA, szS, szD, szN] at hz); (try (refine bcB (n := w.heap.size) hb ?_; intro h_w_0 e_w_0 d_w_0 _ _)); (try (refine bcB (n := w1.heap.size) hb ?_; intro h_w1_0 e_w1_0 d_w1_0 _ _)); (try (refine bcB (n := w2.heap.size) hb ?_; intro h_w2_0 e_w2_0 d_w2_0 _ _))))
    go_ret2
    refine ⟨rfl, ?_⟩
    exact belz
  · rw [h1] at hk
    obtain ⟨i1, i2⟩ := inst_bd h2
    obtain ⟨i3, i4⟩ := inst_bd h3
    rw [h2] at hi
    rw [h3] at hi'
    have HK := Lib.hid hk
    have HI := Lib.hid hi
    have HI' := Lib.hid hi'
    have g1 : decide (t' < t) = false := decide_eq_false (by omega)
    have g2 : decide (1728000000 < t' - t) = true := decide_eq_true h5
    have g3 : IntKind.i64.wrap (t' - t) = t' - t := IntWalk.i64_in _ (by omega)
    clear hk hi hi' h1 h2 h3 h4 h5
    have hgen := sgen; have hgen2 := sgen2; have hgen3 := sgen3; go_enter Tryd.func69, Tryd.ntmps69
    go_wp2_with (first | (go_at_call 34; (refine (HK.out _ (HS.out.below (Nat.le_refl _) (by exact belz))).mono ?_); rintro e w1 ⟨rfl, hb⟩; have hz := hb.size; (try simp only [szA, szS, szD, szN] at hz); (try (refine bcB (n := w.heap.size) hb ?_; intro h_w_0 e_w_0 d_w_0 _ _))) | (go_at_call 67; (with_reducible refine (HI.out _).mono ?_); rintro e w2 ⟨rfl, hb⟩; have hz := hb.size; (try simp only [szA, szS, szD, szN] at hz); (try (refine bcB (n := w.heap.size) hb ?_; intro h_w_0 e_w_0 d_w_0 _ _)); (try (refine bcB (n := w1.heap.size) hb ?_; intro h_w1_0 e_w1_0 d_w1_0 _ _))) | (go_at_call 67; (with_reducible refine (HI'.out _).mono ?_); rintro e w3 ⟨rfl, hb⟩; have hz := hb.size; (try simp only [szA, szS, szD, szN] at hz); (try (refine bcB (n := w.heap.size) hb ?_; intro h_w_0 e_w_0 d_w_0 _ _)); (try (refine bcB (n := w1.heap.size) hb ?_; intro h_w1_0 e_w1_0 d_w1_0 _ _)); (try (refine bcB (n := w2.heap.size) hb ?_; intro h_w2_0 e_w2_0 d_w2_0 _ _))))
    go_ret2
    refine ⟨rfl, ?_⟩
    exact belz
theorem c_tHigh_no (l : List Tm) (t t' er : Int) (a : Option Addr) (cap : Nat) (w : World) (hc : l.length ≤ cap) (hs : TmSlice w a l) (hn : TdNo l t t' er) (t1 : -9223372036854775808 ≤ t) (t2 : t ≤ 9223372036854775807) (t3 : -9223372036854775808 ≤ t') (t4 : t' ≤ 9223372036854775807) :
    Calls Tryd.prog 38 #[.slice a l.length cap, .int .i64 t, .int .i64 t'] w fun e w' => e = .returned (.tuple #[.slice none 0 0, .int .i64 er]) ∧ Below w.heap.size w w' := by
  have HF := Lib.hid (fun fv w1 hs1 => c_find_no l t t' er fv a cap w1 hc hs1 hn t1 t2 t3 t4)
  have HS := Lib.hid hs
  clear hs hn t1 t2 t3 t4
  have hgen := sgen; have hgen2 := sgen2; have hgen3 := sgen3; go_enter Tryd.func38, Tryd.ntmps38
  go_wp2_with (go_at_call 69; (refine (HF.out _ _ (HS.out.below (Nat.le_refl _) (by exact belz))).mono ?_); rintro e w1 ⟨rfl, hb⟩; have hz := hb.size; (try simp only [szA, szS, szD, szN] at hz); (try (refine bcB (n := w.heap.size) hb ?_; intro h_w_0 e_w_0 d_w_0 _ _)))
  go_ret2
  refine ⟨rfl, ?_⟩
  exact belz
theorem c_tLow_no (l : List Tm) (t t' er : Int) (a : Option Addr) (cap : Nat) (w : World) (hc : l.length ≤ cap) (hs : TmSlice w a l) (hn : TdNo l t t' er) (t1 : -9223372036854775808 ≤ t) (t2 : t ≤ 9223372036854775807) (t3 : -9223372036854775808 ≤ t') (t4 : t' ≤ 9223372036854775807) :
    Calls Tryd.prog 39 #[.slice a l.length cap, .int .i64 t, .int .i64 t'] w fun e w' => e = .returned (.tuple #[.slice none 0 0, .int .i64 er]) ∧ Below w.heap.size w w' := by
  have HF := Lib.hid (fun fv w1 hs1 => c_find_no l t t' er fv a cap w1 hc hs1 hn t1 t2 t3 t4)
  have HS := Lib.hid hs
  clear hs hn t1 t2 t3 t4
  have hgen := sgen; have hgen2 := sgen2; have hgen3 := sgen3; go_enter Tryd.func39, Tryd.ntmps39
  go_wp2_with (go_at_call 69; (refine (HF.out _ _ (HS.out.below (Nat.le_refl _) (by exact belz))).mono ?_); rintro e w1 ⟨rfl, hb⟩; have hz := hb.size; (try simp only [szA, szS, szD, szN] at hz); (try (refine bcB (n := w.heap.size) hb ?_; intro h_w_0 e_w_0 d_w_0 _ _)))
  go_ret2
  refine ⟨rfl, ?_⟩
  exact belz
set_option maxRecDepth 100000 in
set_option maxHeartbeats 1000000 in
theorem walk_TdE_no (l : List Tm) (t t' er : Int) (a : Option Addr) (cap : Nat) (w : World) (hT : Tab w) (hc : l.length ≤ cap) (hs : TmSlice w a l) (hn : TdNo l t t' er) (t1 : -9223372036854775808 ≤ t) (t2 : t ≤ 9223372036854775807) (t3 : -9223372036854775808 ≤ t') (t4 : t' ≤ 9223372036854775807) :
    Calls Tryd.prog 10 #[.slice a l.length cap, .int .i64 t, .int .i64 t'] w fun e w' => e = .returned (.bool true) ∧ Below w.heap.size w w' := by
  have HH := Lib.hid (fun w1 hs1 => c_tHigh_no l t t' er a cap w1 hc hs1 hn t1 t2 t3 t4)
  have HL := Lib.hid (fun w1 hs1 => c_tLow_no l t t' er a cap w1 hc hs1 hn t1 t2 t3 t4)
  have he := fun w1 hs1 => c_tideErr a cap l w1 hc hs1
  have hi := fun w1 => c_instErr t w1
  have hi' := fun w1 => c_instErr t' w1
  have HS := Lib.hid hs
  have HT := Lib.hid hT
  clear hs hT
  obtain ⟨⟨h1, h2⟩ | ⟨h1, h2, rfl⟩ | ⟨h1, h2, h3, rfl⟩ | ⟨h1, h2, h3, h4, rfl⟩ | ⟨h1, h2, h3, h4, h5, rfl⟩⟩ := hn
  · have g1 : (er != 0) = true := by simp; exact h2
    have g2 : (er == er) = true := by simp
    rw [h1] at he
    have HE := Lib.hid he
    have HI := Lib.hid hi
    have HI' := Lib.hid hi'
    clear he hi hi' h1 h2 t1 t2 t3 t4
    have hgen := sgen; have hgen2 := sgen2; have hgen3 := sgen3; go_enter Tryd.func10, Tryd.ntmps10
    go_wp2_with (first | (go_at_call 31; (refine (c_tideWorks _ (HT.out.below (by exact belz))).mono ?_); rintro e w1 ⟨rfl, hb⟩; have hz := hb.size; (try simp only [szA, szS, szD, szN] at hz); (try (refine bcB (n := w.heap.size) hb ?_; intro h_w_0 e_w_0 d_w_0 _ _))) | (go_at_call 38; (refine (HH.out _ (HS.out.below (Nat.le_refl _) (by exact belz))).mono ?_); rintro e w2 ⟨rfl, hb⟩; have hz := hb.size; (try simp only [szA, szS, szD, szN] at hz); (try (refine bcB (n := w.heap.size) hb ?_; intro h_w_0 e_w_0 d_w_0 _ _)); (try (refine bcB (n := w1.heap.size) hb ?_; intro h_w1_0 e_w1_0 d_w1_0 _ _))) | (go_at_call 39; (refine (HL.out _ (HS.out.below (Nat.le_refl _) (by exact belz))).mono ?_); rintro e w3 ⟨rfl, hb⟩; have hz := hb.size; (try simp only [szA, szS, szD, szN] at hz); (try (refine bcB (n := w.heap.size) hb ?_; intro h_w_0 e_w_0 d_w_0 _ _)); (try (refine bcB (n := w1.heap.size) hb ?_; intro h_w1_0 e_w1_0 d_w1_0 _ _)); (try (refine bcB (n := w2.heap.size) hb ?_; intro h_w2_0 e_w2_0 d_w2_0 _ _))) | (go_at_call 33; (refine (HE.out _ (HS.out.below (Nat.le_refl _) (by exact belz))).mono ?_); rintro e w4 ⟨rfl, hb⟩; have hz := hb.size; (try simp only [szA, szS, szD, szN] at hz); (try (refine bcB (n := w.heap.size) hb ?_; intro h_w_0 e_w_0 d_w_0 _ _)); (try (refine bcB (n := w1.heap.size) hb ?_; intro h_w1_0 e_w1_0 d_w1_0 _ _)); (try (refine bcB (n := w2.heap.size) hb ?_; intro h_w2_0 e_w2_0 d_w2_0 _ _)); (try (refine bcB (n := w3.heap.size) hb ?_; intro h_w3_0 e_w3_0 d_w3_0 _ _))) | (go_at_call 23; (first | (with_reducible refine (HI.out _).mono ?_) | (with_reducible refine (HI'.out _).mono ?_)); rintro e w' ⟨rfl, rfl⟩))
    go_ret
    refine ⟨rfl, ?_⟩
    exact belz
  · rw [h1] at he
    rw [instE_of.2 h2] at hi
    have HE := Lib.hid he
    have HI := Lib.hid hi
    have HI' := Lib.hid hi'
    clear he hi hi' h1 h2 t1 t2 t3 t4
    have hgen := sgen; have hgen2 := sgen2; have hgen3 := sgen3; go_enter Tryd.func10, Tryd.ntmps10
    go_wp2_with (first | (go_at_call 31; (refine (c_tideWorks _ (HT.out.below (by exact belz))).mono ?_); rintro e w1 ⟨rfl, hb⟩; have hz := hb.size; (try simp only [szA, szS, szD, szN] at hz); (try (refine bcB (n := w.heap.size) hb ?_; intro h_w_0 e_w_0 d_w_0 _ _))) | (go_at_call 38; (refine (HH.out _ (HS.out.below (Nat.le_refl _) (by exact belz))).mono ?_); rintro e w2 ⟨rfl, hb⟩; have hz := hb.size; (try simp only [szA, szS, szD, szN] at hz); (try (refine bcB (n := w.heap.size) hb ?_; intro h_w_0 e_w_0 d_w_0 _ _)); (try (refine bcB (n := w1.heap.size) hb ?_; intro h_w1_0 e_w1_0 d_w1_0 _ _))) | (go_at_call 39; (refine (HL.out _ (HS.out.below (Nat.le_refl _) (by exact belz))).mono ?_); rintro e w3 ⟨rfl, hb⟩; have hz := hb.size; (try simp only [szA, szS, szD, szN] at hz); (try (refine bcB (n := w.heap.size) hb ?_; intro h_w_0 e_w_0 d_w_0 _ _)); (try (refine bcB (n := w1.heap.size) hb ?_; intro h_w1_0 e_w1_0 d_w1_0 _ _)); (try (refine bcB (n := w2.heap.size) hb ?_; intro h_w2_0 e_w2_0 d_w2_0 _ _))) | (go_at_call 33; (refine (HE.out _ (HS.out.below (Nat.le_refl _) (by exact belz))).mono ?_); rintro e w4 ⟨rfl, hb⟩; have hz := hb.size; (try simp only [szA, szS, szD, szN] at hz); (try (refine bcB (n := w.heap.size) hb ?_; intro h_w_0 e_w_0 d_w_0 _ _)); (try (refine bcB (n := w1.heap.size) hb ?_; intro h_w1_0 e_w1_0 d_w1_0 _ _)); (try (refine bcB (n := w2.heap.size) hb ?_; intro h_w2_0 e_w2_0 d_w2_0 _ _)); (try (refine bcB (n := w3.heap.size) hb ?_; intro h_w3_0 e_w3_0 d_w3_0 _ _))) | (go_at_call 23; (first | (with_reducible refine (HI.out _).mono ?_) | (with_reducible refine (HI'.out _).mono ?_)); rintro e w' ⟨rfl, rfl⟩))
    go_ret
    refine ⟨rfl, ?_⟩
    exact belz
  · rw [h1] at he
    rw [instE_of.1 h2] at hi
    rw [instE_of.2 h3] at hi'
    have HE := Lib.hid he
    have HI := Lib.hid hi
    have HI' := Lib.hid hi'
    clear he hi hi' h1 h2 h3 t1 t2 t3 t4
    have hgen := sgen; have hgen2 := sgen2; have hgen3 := sgen3; go_enter Tryd.func10, Tryd.ntmps10
    go_wp2_with (first | (go_at_call 31; (refine (c_tideWorks _ (HT.out.below (by exact belz))).mono ?_); rintro e w1 ⟨rfl, hb⟩; have hz := hb.size; (try simp only [szA, szS, szD, szN] at hz); (try (refine bcB (n := w.heap.size) hb ?_; intro h_w_0 e_w_0 d_w_0 _ _))) | (go_at_call 38; (refine (HH.out _ (HS.out.below (Nat.le_refl _) (by exact belz))).mono ?_); rintro e w2 ⟨rfl, hb⟩; have hz := hb.size; (try simp only [szA, szS, szD, szN] at hz); (try (refine bcB (n := w.heap.size) hb ?_; intro h_w_0 e_w_0 d_w_0 _ _)); (try (refine bcB (n := w1.heap.size) hb ?_; intro h_w1_0 e_w1_0 d_w1_0 _ _))) | (go_at_call 39; (refine (HL.out _ (HS.out.below (Nat.le_refl _) (by exact belz))).mono ?_); rintro e w3 ⟨rfl, hb⟩; have hz := hb.size; (try simp only [szA, szS, szD, szN] at hz); (try (refine bcB (n := w.heap.size) hb ?_; intro h_w_0 e_w_0 d_w_0 _ _)); (try (refine bcB (n := w1.heap.size) hb ?_; intro h_w1_0 e_w1_0 d_w1_0 _ _)); (try (refine bcB (n := w2.heap.size) hb ?_; intro h_w2_0 e_w2_0 d_w2_0 _ _))) | (go_at_call 33; (refine (HE.out _ (HS.out.below (Nat.le_refl _) (by exact belz))).mono ?_); rintro e w4 ⟨rfl, hb⟩; have hz := hb.size; (try simp only [szA, szS, szD, szN] at hz); (try (refine bcB (n := w.heap.size) hb ?_; intro h_w_0 e_w_0 d_w_0 _ _)); (try (refine bcB (n := w1.heap.size) hb ?_; intro h_w1_0 e_w1_0 d_w1_0 _ _)); (try (refine bcB (n := w2.heap.size) hb ?_; intro h_w2_0 e_w2_0 d_w2_0 _ _)); (try (refine bcB (n := w3.heap.size) hb ?_; intro h_w3_0 e_w3_0 d_w3_0 _ _))) | (go_at_call 23; (first | (with_reducible refine (HI.out _).mono ?_) | (with_reducible refine (HI'.out _).mono ?_)); rintro e w' ⟨rfl, rfl⟩))
    go_ret
    refine ⟨rfl, ?_⟩
    exact belz
  · rw [h1] at he
    rw [instE_of.1 h2] at hi
    rw [instE_of.1 h3] at hi'
    have HE := Lib.hid he
    have HI := Lib.hid hi
    have HI' := Lib.hid hi'
    have g1 : decide (t' < t) = true := decide_eq_true h4
    clear he hi hi' h1 h2 h3 h4 t1 t2 t3 t4
    have hgen := sgen; have hgen2 := sgen2; have hgen3 := sgen3; go_enter Tryd.func10, Tryd.ntmps10
    go_wp2_with (first | (go_at_call 31; (refine (c_tideWorks _ (HT.out.below (by exact belz))).mono ?_); rintro e w1 ⟨rfl, hb⟩; have hz := hb.size; (try simp only [szA, szS, szD, szN] at hz); (try (refine bcB (n := w.heap.size) hb ?_; intro h_w_0 e_w_0 d_w_0 _ _))) | (go_at_call 38; (refine (HH.out _ (HS.out.below (Nat.le_refl _) (by exact belz))).mono ?_); rintro e w2 ⟨rfl, hb⟩; have hz := hb.size; (try simp only [szA, szS, szD, szN] at hz); (try (refine bcB (n := w.heap.size) hb ?_; intro h_w_0 e_w_0 d_w_0 _ _)); (try (refine bcB (n := w1.heap.size) hb ?_; intro h_w1_0 e_w1_0 d_w1_0 _ _))) | (go_at_call 39; (refine (HL.out _ (HS.out.below (Nat.le_refl _) (by exact belz))).mono ?_); rintro e w3 ⟨rfl, hb⟩; have hz := hb.size; (try simp only [szA, szS, szD, szN] at hz); (try (refine bcB (n := w.heap.size) hb ?_; intro h_w_0 e_w_0 d_w_0 _ _)); (try (refine bcB (n := w1.heap.size) hb ?_; intro h_w1_0 e_w1_0 d_w1_0 _ _)); (try (refine bcB (n := w2.heap.size) hb ?_; intro h_w2_0 e_w2_0 d_w2_0 _ _))) | (go_at_call 33; (refine (HE.out _ (HS.out.below (Nat.le_refl _) (by exact belz))).mono ?_); rintro e w4 ⟨rfl, hb⟩; have hz := hb.size; (try simp only [szA, szS, szD, szN] at hz); (try (refine bcB (n := w.heap.size) hb ?_; intro h_w_0 e_w_0 d_w_0 _ _)); (try (refine bcB (n := w1.heap.size) hb ?_; intro h_w1_0 e_w1_0 d_w1_0 _ _)); (try (refine bcB (n := w2.heap.size) hb ?_; intro h_w2_0 e_w2_0 d_w2_0 _ _)); (try (refine bcB (n := w3.heap.size) hb ?_; intro h_w3_0 e_w3_0 d_w3_0 _ _))) | (go_at_call 23; (first | (with_reducible refine (HI.out _).mono ?_) | (with_reducible refine (HI'.out _).mono ?_)); rintro e w' ⟨rfl, rfl⟩))
    go_ret
    refine ⟨rfl, ?_⟩
    exact belz
  · rw [h1] at he
    obtain ⟨i1, i2⟩ := inst_bd h2
    obtain ⟨i3, i4⟩ := inst_bd h3
    rw [instE_of.1 h2] at hi
    rw [instE_of.1 h3] at hi'
    have HE := Lib.hid he
    have HI := Lib.hid hi
    have HI' := Lib.hid hi'
    have g1 : decide (t' < t) = false := decide_eq_false (by omega)
    have g2 : decide (1728000000 < t' - t) = true := decide_eq_true h5
    have g3 : IntKind.i64.wrap (t' - t) = t' - t := IntWalk.i64_in _ (by omega)
    clear he hi hi' h1 h2 h3 h4 h5 t1 t2 t3 t4
    have hgen := sgen; have hgen2 := sgen2; have hgen3 := sgen3; go_enter Tryd.func10, Tryd.ntmps10
    go_wp2_with (first | (go_at_call 31; (refine (c_tideWorks _ (HT.out.below (by exact belz))).mono ?_); rintro e w1 ⟨rfl, hb⟩; have hz := hb.size; (try simp only [szA, szS, szD, szN] at hz); (try (refine bcB (n := w.heap.size) hb ?_; intro h_w_0 e_w_0 d_w_0 _ _))) | (go_at_call 38; (refine (HH.out _ (HS.out.below (Nat.le_refl _) (by exact belz))).mono ?_); rintro e w2 ⟨rfl, hb⟩; have hz := hb.size; (try simp only [szA, szS, szD, szN] at hz); (try (refine bcB (n := w.heap.size) hb ?_; intro h_w_0 e_w_0 d_w_0 _ _)); (try (refine bcB (n := w1.heap.size) hb ?_; intro h_w1_0 e_w1_0 d_w1_0 _ _))) | (go_at_call 39; (refine (HL.out _ (HS.out.below (Nat.le_refl _) (by exact belz))).mono ?_); rintro e w3 ⟨rfl, hb⟩; have hz := hb.size; (try simp only [szA, szS, szD, szN] at hz); (try (refine bcB (n := w.heap.size) hb ?_; intro h_w_0 e_w_0 d_w_0 _ _)); (try (refine bcB (n := w1.heap.size) hb ?_; intro h_w1_0 e_w1_0 d_w1_0 _ _)); (try (refine bcB (n := w2.heap.size) hb ?_; intro h_w2_0 e_w2_0 d_w2_0 _ _))) | (go_at_call 33; (refine (HE.out _ (HS.out.below (Nat.le_refl _) (by exact belz))).mono ?_); rintro e w4 ⟨rfl, hb⟩; have hz := hb.size; (try simp only [szA, szS, szD, szN] at hz); (try (refine bcB (n := w.heap.size) hb ?_; intro h_w_0 e_w_0 d_w_0 _ _)); (try (refine bcB (n := w1.heap.size) hb ?_; intro h_w1_0 e_w1_0 d_w1_0 _ _)); (try (refine bcB (n := w2.heap.size) hb ?_; intro h_w2_0 e_w2_0 d_w2_0 _ _)); (try (refine bcB (n := w3.heap.size) hb ?_; intro h_w3_0 e_w3_0 d_w3_0 _ _))) | (go_at_call 23; (first | (with_reducible refine (HI.out _).mono ?_) | (with_reducible refine (HI'.out _).mono ?_)); rintro e w' ⟨rfl, rfl⟩))
    go_ret
    refine ⟨rfl, ?_⟩
    exact belz
/-- One round of the document's walk over the heights. -/
theorem tdO_pre (P : Int → Int → Int → Int → Bool) (l : List Tm) (t : Int) (i : Nat) : ∀ d, ∃ r, tdO P l t (i + d) = tdO P l t i ++ r
  | 0 => ⟨[], by simp⟩
  | d + 1 => by
    obtain ⟨r, hr⟩ := tdO_pre P l t i d
    rw [show i + (d + 1) = (i + d) + 1 from rfl]
    rw [tdO]
    split
    · exact ⟨r ++ [_], by rw [hr, List.append_assoc]⟩
    · exact ⟨r, hr⟩
theorem tdT_at (P : Int → Int → Int → Int → Bool) (l : List Tm) (t : Int) (m : Nat) {T : Int} (hT : T = t + 3600000 * ((m : Int) + 1)) : tdT P l t (m + 1) = (P (tdLo l T) (tdHi l T) (tdLo l (T - 3600000)) (tdHi l (T - 3600000)) && P (tdLo l T) (tdHi l T) (tdLo l (T + 3600000)) (tdHi l (T + 3600000))) := by
  have e1 : t + 3600000 * ((m + 1 : Nat) : Int) = T := by omega
  have e2 : t + 3600000 * ((m + 1 - 1 : Nat) : Int) = T - 3600000 := by omega
  have e3 : t + 3600000 * ((m + 1 + 1 : Nat) : Int) = T + 3600000 := by omega
  unfold tdT tdH
  simp only [e1, e2, e3]
theorem tdO_round (P : Int → Int → Int → Int → Bool) (l : List Tm) (t : Int) (m N : Nat) {T : Int} (hT : T = t + 3600000 * ((m : Int) + 1)) (h : m + 2 ≤ N) :
    (tdT P l t (m + 1) = true ∧ (tdO P l t (m + 1 + 1)).length = (tdO P l t (m + 1)).length + 1 ∧ ∃ h : (tdO P l t (m + 1)).length < (tdO P l t N).length, (tdO P l t N)[(tdO P l t (m + 1)).length] = ⟨T - 3600000, T + 3600000⟩) ∨ (tdT P l t (m + 1) = false ∧ (tdO P l t (m + 1 + 1)).length = (tdO P l t (m + 1)).length) := by
  cases hb : tdT P l t (m + 1) with
  | false =>
    refine .inr ⟨rfl, ?_⟩
    have : tdO P l t (m + 1 + 1) = tdO P l t (m + 1) := by rw [tdO, hb]; simp
    rw [this]
  | true =>
    have e : tdO P l t (m + 1 + 1) = tdO P l t (m + 1) ++ [⟨T - 3600000, T + 3600000⟩] := by
      rw [tdO, hb, if_pos ⟨by omega, rfl⟩]
      congr 3 <;> omega
    obtain ⟨r, hr⟩ := tdO_pre P l t (m + 1 + 1) (N - (m + 2))
    rw [show m + 1 + 1 + (N - (m + 2)) = N by omega, e] at hr
    refine .inl ⟨rfl, by rw [e]; simp, by rw [hr]; simp, ?_⟩
    rw [List.getElem_of_eq hr]
    simp [List.getElem_append]
end Go.Proofs.YtjkhoepohiafeaaDoor
