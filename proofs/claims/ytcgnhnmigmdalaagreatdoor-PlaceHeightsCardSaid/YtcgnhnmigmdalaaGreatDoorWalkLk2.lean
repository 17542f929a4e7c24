/- Contracts of place.look at real numbers and where it fails, of place.Height, Ground and Azimuth. -/
import Derived.Test.YtcgnhnmigmdalaaGreatDoorWalkLook
set_option linter.unusedVariables false
set_option linter.unusedSimpArgs false
namespace Go.Proofs.YtcgnhnmigmdalaaGreatDoor
open Go.RowKit
def lkH0 (lon t a1 : Int) : Int := sidLo lon t - a1
def lkH1 (lon t a0 : Int) : Int := sidHi lon t - a0
theorem spanErr0 {lo hi : Int} (h : lo ≤ hi) (h1 : -1000000000000000000 ≤ lo) (h2 : hi ≤ 1000000000000000000) : spanErr lo hi = 0 := by unfold spanErr; (repeat (first | rw [if_neg (by omega)] | rw [if_pos (by omega)]))
theorem lkN {lon lat t a0 a1 d0 d1 : Int} (hp : plB lon lat = true) (ht : instB t = true) (a : a0 ≤ a1) (a2 : -1000000000 ≤ a0) (a3 : a1 ≤ 3000000000) (d : d0 ≤ d1) (d2 : -250000000 ≤ d0) (d3 : d1 ≤ 250000000) :
    LkN lon lat t (sidLo lon t) (sidHi lon t) a0 a1 d0 d1 (lkH0 lon t a1) (lkH1 lon t a0) (sovLo (lkH0 lon t a1) (lkH1 lon t a0)) (sovHi (lkH0 lon t a1) (lkH1 lon t a0)) (cvL (lkH0 lon t a1) (lkH1 lon t a0)) (cvH (lkH0 lon t a1) (lkH1 lon t a0)) (sovLo d0 d1) (sovHi d0 d1) (cvL d0 d1) (cvH d0 d1) (sineLo lat) (sineHi lat) (cfL lat) (cfH lat)
      (lkN0 (lkH0 lon t a1) (lkH1 lon t a0) d0 d1) (lkN1 (lkH0 lon t a1) (lkH1 lon t a0) d0 d1) (lkE0 (lkH0 lon t a1) (lkH1 lon t a0) d0 d1) (lkE1 (lkH0 lon t a1) (lkH1 lon t a0) d0 d1) (lkA0 lat d0 d1) (lkA1 lat d0 d1) (lkB0 lat (lkH0 lon t a1) (lkH1 lon t a0) d0 d1) (lkB1 lat (lkH0 lon t a1) (lkH1 lon t a0) d0 d1) (lkC0 lat d0 d1) (lkC1 lat d0 d1) (lkD0 lat (lkH0 lon t a1) (lkH1 lon t a0) d0 d1) (lkD1 lat (lkH0 lon t a1) (lkH1 lon t a0) d0 d1)
      (up0 lat (lkH0 lon t a1) (lkH1 lon t a0) d0 d1) (up1 lat (lkH0 lon t a1) (lkH1 lon t a0) d0 d1) (ea0 (lkH0 lon t a1) (lkH1 lon t a0) d0 d1) (ea1 (lkH0 lon t a1) (lkH1 lon t a0) d0 d1) (no0 lat (lkH0 lon t a1) (lkH1 lon t a0) d0 d1) (no1 lat (lkH0 lon t a1) (lkH1 lon t a0) d0 d1) := by
  have ok := sid_ok lon t
  have l0 := ok.l0
  have l1 := ok.l1
  have o := ok.o
  have wd := ok.w
  have hh : lkH0 lon t a1 ≤ lkH1 lon t a0 := by unfold lkH0 lkH1; omega
  have hb0 : -3000000000 ≤ lkH0 lon t a1 := by unfold lkH0; omega
  have hb1 : lkH1 lon t a0 ≤ 3000000000 := by unfold lkH1; omega
  have e0 : lkH0 lon t a1 = sidLo lon t - a1 := rfl
  have e1 : lkH1 lon t a0 = sidHi lon t - a0 := rfl
  have hm := fun w1 : World => c_Minus9 (sidLo lon t) (sidHi lon t) a0 a1 w1 (by omega) (by omega) (by omega) (by omega) (by omega) (by omega) (by omega) (by omega)
  rw [← e0, ← e1] at hm
  clear e0 e1 ok
  generalize lkH0 lon t a1 = h0 at *
  generalize lkH1 lon t a0 = h1 at *
  have sp := lk_sp lat hh d
  have eh := spanErr0 hh (by omega) (by omega)
  have ed := spanErr0 d (by omega) (by omega)
  have ea := spanErr0 a (by omega) (by omega)
  obtain ⟨-, -, L1, L2⟩ := plB_t hp
  have ol : angOk lat = true := by simp [angOk]; omega
  obtain ⟨N1, N2, N3⟩ := sp.N
  obtain ⟨E1, E2, E3⟩ := sp.E
  obtain ⟨A1, A2, A3⟩ := sp.A
  obtain ⟨B1, B2, B3⟩ := sp.B
  obtain ⟨C1, C2, C3⟩ := sp.Cc
  obtain ⟨D1, D2, D3⟩ := sp.D
  refine ⟨fun w1 h => c_Sidereal lon lat t w1 h hp ht, fun w1 => ?_, fun w1 => ?_, hm, fun w1 h => c_SinOver_ok h0 h1 w1 h eh (by omega) (by omega) (by omega) (by omega), fun w1 h => c_CosOver_ok h0 h1 w1 h eh (by omega) hh (by omega), fun w1 h => c_SinOver_ok d0 d1 w1 h ed (by omega) (by omega) (by omega) (by omega), fun w1 h => c_CosOver_ok d0 d1 w1 h ed (by omega) d (by omega),
    fun w1 h => c_Sin_ok lat w1 h ol, fun w1 h => c_Cos_ok lat w1 h ol, fun w1 => c_Times _ _ _ _ w1 sp.cD sp.cH, fun w1 => c_Times _ _ _ _ w1 sp.cD sp.sH, fun w1 => c_Times _ _ _ _ w1 sp.sF sp.sD, fun w1 => c_Times _ _ _ _ w1 sp.cF sp.N, fun w1 => c_Times _ _ _ _ w1 sp.cF sp.sD, fun w1 => c_Times _ _ _ _ w1 sp.sF sp.N,
    fun w1 => c_Plus _ _ _ _ w1 (by omega) (by omega) (by omega) (by omega) (by omega) (by omega) (by omega) (by omega), fun w1 => c_Minus9 _ _ _ _ w1 (by omega) (by omega) (by omega) (by omega) (by omega) (by omega) (by omega) (by omega), fun w1 => c_pclip _ _ w1, fun w1 => c_pclip _ _ w1, fun w1 => c_pclip _ _ w1, ⟨IntWalk.i64_in _ (by omega), IntWalk.i64_in _ (by omega)⟩⟩
  · have h := c_intervalCheck a0 a1 w1
    rw [ea] at h; exact h
  · have h := c_intervalCheck d0 d1 w1
    rw [ed] at h; exact h
/-- What look answers: an error, or the parts. -/
structure LookR (lon lat t a0 a1 d0 d1 u0 u1 x0 x1 y0 y1 er : Int) : Prop where
  c : ∀ w, Tab w → Calls Tryz.prog 50 #[.agg #[.int .i64 lon, .int .i64 lat], .agg #[.int .i64 a0, .int .i64 a1], .agg #[.int .i64 d0, .int .i64 d1], .int .i64 t] w fun e w' => e = .returned (.tuple #[.agg #[.int .i64 u0, .int .i64 u1, .int .i64 x0, .int .i64 x1, .int .i64 y0, .int .i64 y1], .int .i64 er]) ∧ Below w.heap.size w w'
theorem look_ok {lon lat t a0 a1 d0 d1 : Int} (hp : plB lon lat = true) (ht : instB t = true) (a : a0 ≤ a1) (a2 : -1000000000 ≤ a0) (a3 : a1 ≤ 3000000000) (d : d0 ≤ d1) (d2 : -250000000 ≤ d0) (d3 : d1 ≤ 250000000) :
    LookR lon lat t a0 a1 d0 d1 (up0 lat (lkH0 lon t a1) (lkH1 lon t a0) d0 d1) (up1 lat (lkH0 lon t a1) (lkH1 lon t a0) d0 d1) (ea0 (lkH0 lon t a1) (lkH1 lon t a0) d0 d1) (ea1 (lkH0 lon t a1) (lkH1 lon t a0) d0 d1) (no0 lat (lkH0 lon t a1) (lkH1 lon t a0) d0 d1) (no1 lat (lkH0 lon t a1) (lkH1 lon t a0) d0 d1) 0 :=
  ⟨fun w h => c_lookN _ _ _ _ _ _ _ _ _ _ _ _ _ _ _ _ _ _ _ _ _ _ _ _ _ _ _ _ _ _ _ _ _ _ _ _ _ _ _ _ _ w (lkN hp ht a a2 a3 d d2 d3) h d2 d3 a2 a3⟩
theorem look_sid {lon lat t a0 a1 d0 d1 : Int} (hs : ∀ w : World, Calls Tryz.prog 44 #[.agg #[.int .i64 lon, .int .i64 lat], .int .i64 t] w fun e w' => e = .returned (.tuple #[.agg #[.int .i64 0, .int .i64 0], .int .i64 3]) ∧ Below w.heap.size w w') :
    LookR lon lat t a0 a1 d0 d1 0 0 0 0 0 0 3 := by
  constructor
  intro w hT
  have HS := Lib.hid hs
  clear hs hT
  have hgen := sgen; have hgen2 := sgen2; have hgen3 := sgen3; go_enter Tryz.func50, Tryz.ntmps50
  go_wp2_with (go_at_call 44; (refine (HS.out _).mono ?_); rintro e w1 ⟨rfl, hb⟩; have hz := hb.size; (try simp only [szA, szS, szD, szN] at hz); (try (refine bcB (n := w.heap.size) hb ?_; intro h_w_0 e_w_0 d_w_0 _ _)); (try (refine bcB (n := w.heap.size + 1) hb ?_; intro h_w_1 e_w_1 d_w_1 _ _)); (try (refine bcB (n := w.heap.size + 1 + 1) hb ?_; intro h_w_2 e_w_2 d_w_2 _ _)); (try (refine bcB (n := w.heap.size + 1 + 1 + 1) hb ?_; intro h_w_3 e_w_3 d_w_3 _ _)))
  refine bodyPost_ret (v := .tuple #[.agg #[.int .i64 0, .int .i64 0, .int .i64 0, .int .i64 0, .int .i64 0, .int .i64 0], .int .i64 3]) (by simp only [results, Tryz.results50]; go_simp) rfl ⟨rfl, ?_⟩
  exact belz
set_option maxHeartbeats 4000000 in
theorem look_ra {lon lat t a0 a1 d0 d1 : Int} (hp : plB lon lat = true) (ht : instB t = true) (ha : spanErr a0 a1 ≠ 0) :
    LookR lon lat t a0 a1 d0 d1 0 0 0 0 0 0 (spanErr a0 a1) := by
  constructor
  intro w hT
  have i0 : ∀ w, (Instr.index 94 (.agg #[.int .i64 a0, .int .i64 a1, .int .i64 d0, .int .i64 d1]) (.int .i64 0)).run Tryz.prog w = .ok (.agg #[.int .i64 a0, .int .i64 a1]) w := fun _ => by kernel_rfl
  have HS := Lib.hid (fun w1 h => c_Sidereal lon lat t w1 h hp ht)
  have HC := Lib.hid (fun w1 => c_intervalCheck a0 a1 w1)
  have HT := Lib.hid hT
  clear hT hp ht
  generalize sidLo lon t = s0 at *
  generalize sidHi lon t = s1 at *
  generalize spanErr a0 a1 = x at *
  have hx : (x == 0) = false := by simpa using ha
  have hgen := sgen; have hgen2 := sgen2; have hgen3 := sgen3; go_enter Tryz.func50, Tryz.ntmps50
  go_wp2_with (go_at_call 44; (refine (HS.out _ (HT.out.below (by exact belz))).mono ?_); rintro e w1 ⟨rfl, hb⟩; have hz := hb.size; (try simp only [szA, szS, szD, szN] at hz); (try (refine bcB (n := w.heap.size) hb ?_; intro h_w_0 e_w_0 d_w_0 _ _)); (try (refine bcB (n := w.heap.size + 1) hb ?_; intro h_w_1 e_w_1 d_w_1 _ _)); (try (refine bcB (n := w.heap.size + 1 + 1) hb ?_; intro h_w_2 e_w_2 d_w_2 _ _)); (try (refine bcB (n := w.heap.size + 1 + 1 + 1) hb ?_; intro h_w_3 e_w_3 d_w_3 _ _)))
  refine wp_loop_rounds 1 ?_
  rw [rounds_succ]
  go_wp2_with (go_at_call 87; (refine (HC.out _).mono ?_); rintro e w2 ⟨rfl, hb⟩; have hz := hb.size; (try simp only [szA, szS, szD, szN] at hz); (try (refine bcB (n := w.heap.size) hb ?_; intro h_w_0 e_w_0 d_w_0 _ _)); (try (refine bcB (n := w.heap.size + 1) hb ?_; intro h_w_1 e_w_1 d_w_1 _ _)); (try (refine bcB (n := w.heap.size + 1 + 1) hb ?_; intro h_w_2 e_w_2 d_w_2 _ _)); (try (refine bcB (n := w.heap.size + 1 + 1 + 1) hb ?_; intro h_w_3 e_w_3 d_w_3 _ _)); (try (refine bcB (n := w1.heap.size) hb ?_; intro h_w1_0 e_w1_0 d_w1_0 _ _)))
  refine bodyPost_ret (v := .tuple #[.agg #[.int .i64 0, .int .i64 0, .int .i64 0, .int .i64 0, .int .i64 0, .int .i64 0], .int .i64 x]) (by simp only [results, Tryz.results50]; go_simp) rfl ⟨rfl, ?_⟩
  exact belz
set_option maxHeartbeats 4000000 in
theorem look_dec {lon lat t a0 a1 d0 d1 : Int} (hp : plB lon lat = true) (ht : instB t = true) (ha : spanErr a0 a1 = 0) (hd : spanErr d0 d1 ≠ 0) :
    LookR lon lat t a0 a1 d0 d1 0 0 0 0 0 0 (spanErr d0 d1) := by
  constructor
  intro w hT
  have i0 : ∀ w, (Instr.index 94 (.agg #[.int .i64 a0, .int .i64 a1, .int .i64 d0, .int .i64 d1]) (.int .i64 0)).run Tryz.prog w = .ok (.agg #[.int .i64 a0, .int .i64 a1]) w := fun _ => by kernel_rfl
  have i1 : ∀ w, (Instr.index 94 (.agg #[.int .i64 a0, .int .i64 a1, .int .i64 d0, .int .i64 d1]) (.int .i64 1)).run Tryz.prog w = .ok (.agg #[.int .i64 d0, .int .i64 d1]) w := fun _ => by kernel_rfl
  have HS := Lib.hid (fun w1 h => c_Sidereal lon lat t w1 h hp ht)
  have hc := fun w1 => c_intervalCheck a0 a1 w1
  rw [ha] at hc
  have HC := Lib.hid hc
  have HC2 := Lib.hid (fun w1 => c_intervalCheck d0 d1 w1)
  have HT := Lib.hid hT
  clear hT hp ht hc ha
  generalize sidLo lon t = s0 at *
  generalize sidHi lon t = s1 at *
  generalize spanErr d0 d1 = x at *
  have hx : (x == 0) = false := by simpa using hd
  have hgen := sgen; have hgen2 := sgen2; have hgen3 := sgen3; go_enter Tryz.func50, Tryz.ntmps50
  go_wp2_with (go_at_call 44; (refine (HS.out _ (HT.out.below (by exact belz))).mono ?_); rintro e w1 ⟨rfl, hb⟩; have hz := hb.size; (try simp only [szA, szS, szD, szN] at hz); (try (refine bcB (n := w.heap.size) hb ?_; intro h_w_0 e_w_0 d_w_0 _ _)); (try (refine bcB (n := w.heap.size + 1) hb ?_; intro h_w_1 e_w_1 d_w_1 _ _)); (try (refine bcB (n := w.heap.size + 1 + 1) hb ?_; intro h_w_2 e_w_2 d_w_2 _ _)); (try (refine bcB (n := w.heap.size + 1 + 1 + 1) hb ?_; intro h_w_3 e_w_3 d_w_3 _ _)))
  refine wp_loop_rounds 2 ?_
  rw [rounds_succ]
  go_wp2_with (go_at_call 87; (with_reducible refine (HC.out _).mono ?_); rintro e w2 ⟨rfl, hb⟩; have hz := hb.size; (try simp only [szA, szS, szD, szN] at hz); (try (refine bcB (n := w.heap.size) hb ?_; intro h_w_0 e_w_0 d_w_0 _ _)); (try (refine bcB (n := w.heap.size + 1) hb ?_; intro h_w_1 e_w_1 d_w_1 _ _)); (try (refine bcB (n := w.heap.size + 1 + 1) hb ?_; intro h_w_2 e_w_2 d_w_2 _ _)); (try (refine bcB (n := w.heap.size + 1 + 1 + 1) hb ?_; intro h_w_3 e_w_3 d_w_3 _ _)); (try (refine bcB (n := w1.heap.size) hb ?_; intro h_w1_0 e_w1_0 d_w1_0 _ _)))
  rw [rounds_succ]
  go_wp2_with (go_at_call 87; (with_reducible refine (HC2.out _).mono ?_); rintro e w3 ⟨rfl, hb⟩; have hz := hb.size; (try simp only [szA, szS, szD, szN] at hz); (try (refine bcB (n := w.heap.size) hb ?_; intro h_w_0 e_w_0 d_w_0 _ _)); (try (refine bcB (n := w.heap.size + 1) hb ?_; intro h_w_1 e_w_1 d_w_1 _ _)); (try (refine bcB (n := w.heap.size + 1 + 1) hb ?_; intro h_w_2 e_w_2 d_w_2 _ _)); (try (refine bcB (n := w.heap.size + 1 + 1 + 1) hb ?_; intro h_w_3 e_w_3 d_w_3 _ _)); (try (refine bcB (n := w1.heap.size) hb ?_; intro h_w1_0 e_w1_0 d_w1_0 _ _)); (try (refine bcB (n := w2.heap.size) hb ?_; intro h_w2_0 e_w2_0 d_w2_0 _ _)))
  refine bodyPost_ret (v := .tuple #[.agg #[.int .i64 0, .int .i64 0, .int .i64 0, .int .i64 0, .int .i64 0, .int .i64 0], .int .i64 x]) (by simp only [results, Tryz.results50]; go_simp) rfl ⟨rfl, ?_⟩
  exact belz
set_option maxHeartbeats 4000000 in
theorem look_far {lon lat t a0 a1 d0 d1 : Int} (hp : plB lon lat = true) (ht : instB t = true) (ha : spanErr a0 a1 = 0) (hd : spanErr d0 d1 = 0) (hr : d0 < -250000000 ∨ 250000000 < d1 ∨ a0 < -1000000000 ∨ 3000000000 < a1) :
    LookR lon lat t a0 a1 d0 d1 0 0 0 0 0 0 3 := by
  constructor
  intro w hT
  have i0 : ∀ w, (Instr.index 94 (.agg #[.int .i64 a0, .int .i64 a1, .int .i64 d0, .int .i64 d1]) (.int .i64 0)).run Tryz.prog w = .ok (.agg #[.int .i64 a0, .int .i64 a1]) w := fun _ => by kernel_rfl
  have i1 : ∀ w, (Instr.index 94 (.agg #[.int .i64 a0, .int .i64 a1, .int .i64 d0, .int .i64 d1]) (.int .i64 1)).run Tryz.prog w = .ok (.agg #[.int .i64 d0, .int .i64 d1]) w := fun _ => by kernel_rfl
  have HS := Lib.hid (fun w1 h => c_Sidereal lon lat t w1 h hp ht)
  have hc := fun w1 => c_intervalCheck a0 a1 w1
  rw [ha] at hc
  have HC := Lib.hid hc
  have hc2 := fun w1 => c_intervalCheck d0 d1 w1
  rw [hd] at hc2
  have HC2 := Lib.hid hc2
  have HT := Lib.hid hT
  clear hT hp ht hc hc2 ha hd
  generalize sidLo lon t = s0 at *
  generalize sidHi lon t = s1 at *
  by_cases f1 : d0 < -250000000
  rotate_left
  by_cases f2 : 250000000 < d1
  rotate_left
  by_cases f3 : a0 < -1000000000
  rotate_left
  have f4 : 3000000000 < a1 := by omega
  all_goals (try have F1 : decide (d0 < -250000000) = false := decide_eq_false f1)
  all_goals (try have F1 : decide (d0 < -250000000) = true := decide_eq_true f1)
  all_goals (try have F2 : decide (250000000 < d1) = false := decide_eq_false f2)
  all_goals (try have F2 : decide (250000000 < d1) = true := decide_eq_true f2)
  all_goals (try have F3 : decide (a0 < -1000000000) = false := decide_eq_false f3)
  all_goals (try have F3 : decide (a0 < -1000000000) = true := decide_eq_true f3)
  all_goals (try have F4 : decide (3000000000 < a1) = true := decide_eq_true f4)
  all_goals clear hr
  all_goals
    have hgen := sgen; have hgen2 := sgen2; have hgen3 := sgen3; go_enter Tryz.func50, Tryz.ntmps50
    go_wp2_with (go_at_call 44; (refine (HS.out _ (HT.out.below (by exact belz))).mono ?_); rintro e w1 ⟨rfl, hb⟩; have hz := hb.size; (try simp only [szA, szS, szD, szN] at hz); (try (refine bcB (n := w.heap.size) hb ?_; intro h_w_0 e_w_0 d_w_0 _ _)); (try (refine bcB (n := w.heap.size + 1) hb ?_; intro h_w_1 e_w_1 d_w_1 _ _)); (try (refine bcB (n := w.heap.size + 1 + 1) hb ?_; intro h_w_2 e_w_2 d_w_2 _ _)); (try (refine bcB (n := w.heap.size + 1 + 1 + 1) hb ?_; intro h_w_3 e_w_3 d_w_3 _ _)))
    refine wp_loop_rounds 3 ?_
    rw [rounds_succ]
    go_wp2_with (go_at_call 87; (with_reducible refine (HC.out _).mono ?_); rintro e w2 ⟨rfl, hb⟩; have hz := hb.size; (try simp only [szA, szS, szD, szN] at hz); (try (refine bcB (n := w.heap.size) hb ?_; intro h_w_0 e_w_0 d_w_0 _ _)); (try (refine bcB (n := w.heap.size + 1) hb ?_; intro h_w_1 e_w_1 d_w_1 _ _)); (try (refine bcB (n := w.heap.size + 1 + 1) hb ?_; intro h_w_2 e_w_2 d_w_2 _ _)); (try (refine bcB (n := w.heap.size + 1 + 1 + 1) hb ?_; intro h_w_3 e_w_3 d_w_3 _ _)); (try (refine bcB (n := w1.heap.size) hb ?_; intro h_w1_0 e_w1_0 d_w1_0 _ _)))
    rw [rounds_succ]
    go_wp2_with (go_at_call 87; (with_reducible refine (HC2.out _).mono ?_); rintro e w3 ⟨rfl, hb⟩; have hz := hb.size; (try simp only [szA, szS, szD, szN] at hz); (try (refine bcB (n := w.heap.size) hb ?_; intro h_w_0 e_w_0 d_w_0 _ _)); (try (refine bcB (n := w.heap.size + 1) hb ?_; intro h_w_1 e_w_1 d_w_1 _ _)); (try (refine bcB (n := w.heap.size + 1 + 1) hb ?_; intro h_w_2 e_w_2 d_w_2 _ _)); (try (refine bcB (n := w.heap.size + 1 + 1 + 1) hb ?_; intro h_w_3 e_w_3 d_w_3 _ _)); (try (refine bcB (n := w1.heap.size) hb ?_; intro h_w1_0 e_w1_0 d_w1_0 _ _)); (try (refine bcB (n := w2.heap.size) hb ?_; intro h_w2_0 e_w2_0 d_w2_0 _ _)))
    rw [rounds_succ]
    go_wp2
    refine bodyPost_ret (v := .tuple #[.agg #[.int .i64 0, .int .i64 0, .int .i64 0, .int .i64 0, .int .i64 0, .int .i64 0], .int .i64 3]) (by simp only [results, Tryz.results50]; go_simp) rfl ⟨rfl, ?_⟩
    exact belz
theorem c_Height {lon lat t a0 a1 d0 d1 u0 u1 x0 x1 y0 y1 er : Int} (hl : LookR lon lat t a0 a1 d0 d1 u0 u1 x0 x1 y0 y1 er) (w : World) (hT : Tab w) :
    Calls Tryz.prog 11 #[.agg #[.int .i64 lon, .int .i64 lat], .agg #[.int .i64 a0, .int .i64 a1], .agg #[.int .i64 d0, .int .i64 d1], .int .i64 t] w fun e w' => e = .returned (.tuple #[.agg #[.int .i64 u0, .int .i64 u1], .int .i64 er]) ∧ Below w.heap.size w w' := by
  have HL := Lib.hid hl.c
  have HT := Lib.hid hT
  clear hl hT
  have hgen := sgen; have hgen2 := sgen2; have hgen3 := sgen3; go_enter Tryz.func11, Tryz.ntmps11
  go_wp2_with (go_at_call 50; (refine (HL.out _ (HT.out.below (by exact belz))).mono ?_); rintro e w1 ⟨rfl, hb⟩; have hz := hb.size; (try simp only [szA, szS, szD, szN] at hz); (try (refine bcB (n := w.heap.size) hb ?_; intro h_w_0 e_w_0 d_w_0 _ _)); (try (refine bcB (n := w.heap.size + 1) hb ?_; intro h_w_1 e_w_1 d_w_1 _ _)); (try (refine bcB (n := w.heap.size + 1 + 1) hb ?_; intro h_w_2 e_w_2 d_w_2 _ _)); (try (refine bcB (n := w.heap.size + 1 + 1 + 1) hb ?_; intro h_w_3 e_w_3 d_w_3 _ _)))
  refine bodyPost_ret (v := .tuple #[.agg #[.int .i64 u0, .int .i64 u1], .int .i64 er]) (by simp only [results, Tryz.results11]; go_simp) rfl ⟨rfl, ?_⟩
  exact belz
end Go.Proofs.YtcgnhnmigmdalaaGreatDoor
