/- Contracts of sharpen.narrow, Season, Phase, Earlier and of sharpenWorks. Contracts of sharpen.Season, Phase, Earlier and of sharpenWorks. -/
import Derived.Test.YtjkhoepohiafeaaGreatDoorLuA
import Derived.Test.YtjkhoepohiafeaaGreatDoorSdA
set_option linter.unusedVariables false
set_option linter.unusedSimpArgs false
namespace Go.Proofs.YtjkhoepohiafeaaGreatDoor
section
open Go.RowKit
theorem c_sside1 (b : Nat) (q x : Int) (w : World) (hT : Tab w) (hx : instB x = true) (hbl : b < w.heap.size) (hc : w.cell? ⟨b, 0, none⟩ = some (.int .i64 q)) (t0 : 0 ≤ q) (t1 : q ≤ 3) :
    Calls Tryz.prog 19 #[.int .i64 x, .pointer (some ⟨b, 0, none⟩)] w fun e w' => e = .returned (.int .i64 (sunSide (q * 250000000) x)) ∧ Below w.heap.size w w' := by
  obtain ⟨q1, q2, -, q3, -, -, q6⟩ := sun_facts x
  have HB := Lib.hid (fun w1 (h : Tab w1) => c_sunLongitude x w1 h hx)
  have HS := Lib.hid (fun w1 => c_Side (sunLo x) (sunHi x) (q * 250000000) w1 q1 q2 q6 (by omega) (by omega) (by omega))
  rw [show sideV (sunLo x) (sunHi x) (q * 250000000) = sunSide (q * 250000000) x from rfl] at HS
  have HT := Lib.hid hT
  have e1 : q * 1000000000 / 4 = q * 250000000 := by omega
  have e2 : (q * 1000000000).tdiv 4 = q * 250000000 := by rw [Int.tdiv_eq_ediv_of_nonneg (by omega)]; omega
  clear hT hx q1 q2 q3 q6
  generalize sunSide (q * 250000000) x = sv at *
  generalize sunLo x = b1 at *
  generalize sunHi x = b2 at *
  have hgen := sgen; have hgen2 := sgen2; have hgen3 := sgen3; go_enter Tryz.func19, Tryz.ntmps19
  go_wp2_with (first | (go_at_call 13; (refine (HB.out _ (HT.out.below (by exact belz))).mono ?_); rintro e w1 ⟨rfl, hb⟩; have hz := hb.size; (try simp only [szA, szS, szD, szN] at hz); (try (refine bcB (n := b) hb ?_; intro h_bb_0 e_bb_0 d_bb_0 _ _)); (try (refine bcB (n := w.heap.size) hb ?_; intro h_w_0 e_w_0 d_w_0 _ _))) | (go_at_call 20; (refine (HS.out _).mono ?_); rintro e w2 ⟨rfl, hb⟩; have hz := hb.size; (try simp only [szA, szS, szD, szN] at hz); (try (refine bcB (n := b) hb ?_; intro h_bb_0 e_bb_0 d_bb_0 _ _)); (try (refine bcB (n := w.heap.size) hb ?_; intro h_w_0 e_w_0 d_w_0 _ _)); (try (refine bcB (n := w1.heap.size) hb ?_; intro h_w1_0 e_w1_0 d_w1_0 _ _))))
  go_ret
  refine ⟨rfl, ?_⟩
  exact belz
theorem call_sside1 (args : Array Value) (w : World) : (callFunc 19 args).run Tryz.prog w = .ok (.enter 19 args) w := by
  go_simp
theorem c_pside1 (b : Nat) (q x : Int) (w : World) (hT : Tab w) (hx : instB x = true) (hbl : b < w.heap.size) (hc : w.cell? ⟨b, 0, none⟩ = some (.int .i64 q)) (t0 : 0 ≤ q) (t1 : q ≤ 3) :
    Calls Tryz.prog 23 #[.int .i64 x, .pointer (some ⟨b, 0, none⟩)] w fun e w' => e = .returned (.int .i64 (elSide (q * 250000000) x)) ∧ Below w.heap.size w w' := by
  obtain ⟨p1, p2, -, p3, p4, p5, p6⟩ := moon_facts x
  obtain ⟨q1, q2, -, q3, q4, q5, q6⟩ := sun_facts x
  have g0 : 0 ≤ elLo x := by unfold elLo; omega
  have g1 : elLo x < 1000000000 := by unfold elLo; omega
  have g2 : elHi x - elLo x ≤ 44006 := by unfold elHi; omega
  have g3 : elLo x ≤ elHi x := by unfold elHi; omega
  have HB := Lib.hid (fun w1 (h : Tab w1) => c_Elongation x w1 h hx)
  have HS := Lib.hid (fun w1 => c_Side (elLo x) (elHi x) (q * 250000000) w1 g0 g1 g3 (by omega) (by omega) (by omega))
  rw [show sideV (elLo x) (elHi x) (q * 250000000) = elSide (q * 250000000) x from rfl] at HS
  have HT := Lib.hid hT
  have e1 : q * 1000000000 / 4 = q * 250000000 := by omega
  have e2 : (q * 1000000000).tdiv 4 = q * 250000000 := by rw [Int.tdiv_eq_ediv_of_nonneg (by omega)]; omega
  clear hT hx q1 q2 q3 q4 q5 q6 p1 p2 p3 p4 p5 p6 g0 g1 g2 g3
  generalize elSide (q * 250000000) x = sv at *
  generalize elLo x = b1 at *
  generalize elHi x = b2 at *
  have hgen := sgen; have hgen2 := sgen2; have hgen3 := sgen3; go_enter Tryz.func23, Tryz.ntmps23
  go_wp2_with (first | (go_at_call 24; (refine (HB.out _ (HT.out.below (by exact belz))).mono ?_); rintro e w1 ⟨rfl, hb⟩; have hz := hb.size; (try simp only [szA, szS, szD, szN] at hz); (try (refine bcB (n := b) hb ?_; intro h_bb_0 e_bb_0 d_bb_0 _ _)); (try (refine bcB (n := w.heap.size) hb ?_; intro h_w_0 e_w_0 d_w_0 _ _))) | (go_at_call 20; (refine (HS.out _).mono ?_); rintro e w2 ⟨rfl, hb⟩; have hz := hb.size; (try simp only [szA, szS, szD, szN] at hz); (try (refine bcB (n := b) hb ?_; intro h_bb_0 e_bb_0 d_bb_0 _ _)); (try (refine bcB (n := w.heap.size) hb ?_; intro h_w_0 e_w_0 d_w_0 _ _)); (try (refine bcB (n := w1.heap.size) hb ?_; intro h_w1_0 e_w1_0 d_w1_0 _ _))))
  go_ret
  refine ⟨rfl, ?_⟩
  exact belz
theorem call_pside1 (args : Array Value) (w : World) : (callFunc 23 args).run Tryz.prog w = .ok (.enter 23 args) w := by
  go_simp
theorem c_narrow_arg (f : Value) (lo hi width : Int) (w : World) (h : width < 1) :
    Calls Tryz.prog 18 #[.agg #[.int .i64 lo, .int .i64 hi], .int .i64 width, f] w fun e w' => e = .returned (.tuple #[.agg #[.int .i64 0, .int .i64 0], .int .i64 1]) ∧ Below w.heap.size w w' := by
  have f1 : decide (width < 1) = true := decide_eq_true h
  have hgen := sgen; have hgen2 := sgen2; have hgen3 := sgen3; go_enter Tryz.func18, Tryz.ntmps18
  go_wp2
  refine bodyPost_ret (v := .tuple #[.agg #[.int .i64 0, .int .i64 0], .int .i64 1]) (by simp only [results, Tryz.results18]; go_simp) rfl ⟨rfl, ?_⟩
  exact belz
/-- What sharpen.narrow answers. -/
def shV (r : NarR) : Value := if r.is = true then .tuple #[.agg #[.int .i64 r.lo, .int .i64 r.hi], .int .i64 0] else .tuple #[.agg #[.int .i64 0, .int .i64 0], .int .i64 11]
theorem c_narrow (F : Nat) (c : Value) (s : Int → Int) (W : World → Prop) (lo hi width : Int) (w : World) (hW : Kept W) (hw : W w) (h1 : -1000000000000000000 ≤ lo) (h2 : lo ≤ hi) (h3 : hi ≤ 1000000000000000000) (hF : ∀ args w, (callFunc F args).run Tryz.prog w = .ok (.enter F args) w) (hwd : 1 ≤ width) (hwd2 : width ≤ 9223372036854775807)
    (hf : ∀ w1 x, W w1 → lo ≤ x → x ≤ hi → Calls Tryz.prog F #[.int .i64 x, c] w1 fun e w' => e = .returned (.int .i64 (s x)) ∧ Below w1.heap.size w1 w') :
    Calls Tryz.prog 18 #[.agg #[.int .i64 lo, .int .i64 hi], .int .i64 width, .func (.func F) #[] #[c]] w fun e w' => e = .returned (shV (narF s width 62 lo hi)) ∧ Below w.heap.size w w' := by
  have HN := Lib.hid (fun w1 (hw : W w1) => c_Narrow F c s W lo hi width w1 hW hw h1 h2 h3 hF hwd hwd2 hf)
  have HW := Lib.hid (show ∀ w1 w2, W w1 → Below w1.heap.size w1 w2 → W w2 from hW)
  have HWW := Lib.hid hw
  have f1 : decide (width < 1) = false := decide_eq_false (by omega)
  clear hf hW hw hF
  generalize narF s width 62 lo hi = R at *
  cases hR : R.is with
  | true =>
    have e : shV R = .tuple #[.agg #[.int .i64 R.lo, .int .i64 R.hi], .int .i64 0] := by unfold shV; rw [if_pos hR]
    rw [e]
    clear e
    have hgen := sgen; have hgen2 := sgen2; have hgen3 := sgen3; go_enter Tryz.func18, Tryz.ntmps18
    go_wp2_with (go_at_call 28; (refine (HN.out _ (HW.out _ _ HWW.out (by exact belz))).mono ?_); rintro e w1 ⟨rfl, hb⟩; have hz := hb.size; (try simp only [szA, szS, szD, szN] at hz); (try (refine bcB (n := w.heap.size) hb ?_; intro h_w_0 e_w_0 d_w_0 _ _)); (try (refine bcB (n := w.heap.size + 1) hb ?_; intro h_w_1 e_w_1 d_w_1 _ _)))
    refine bodyPost_ret (v := .tuple #[.agg #[.int .i64 R.lo, .int .i64 R.hi], .int .i64 0]) (by simp only [results, Tryz.results18]; go_simp) rfl ⟨rfl, ?_⟩
    exact belz
  | false =>
    have e : shV R = .tuple #[.agg #[.int .i64 0, .int .i64 0], .int .i64 11] := by unfold shV; rw [if_neg (by rw [hR]; decide)]
    rw [e]
    clear e
    have hgen := sgen; have hgen2 := sgen2; have hgen3 := sgen3; go_enter Tryz.func18, Tryz.ntmps18
    go_wp2_with (go_at_call 28; (refine (HN.out _ (HW.out _ _ HWW.out (by exact belz))).mono ?_); rintro e w1 ⟨rfl, hb⟩; have hz := hb.size; (try simp only [szA, szS, szD, szN] at hz); (try (refine bcB (n := w.heap.size) hb ?_; intro h_w_0 e_w_0 d_w_0 _ _)); (try (refine bcB (n := w.heap.size + 1) hb ?_; intro h_w_1 e_w_1 d_w_1 _ _)))
    refine bodyPost_ret (v := .tuple #[.agg #[.int .i64 0, .int .i64 0], .int .i64 11]) (by simp only [results, Tryz.results18]; go_simp) rfl ⟨rfl, ?_⟩
    exact belz
end
section
open Go.RowKit
theorem c_shS_arg (q y wd : Int) (w : World) (h : q < 0 ∨ 3 < q) :
    Calls Tryz.prog 7 #[.int .i64 q, .int .i64 y, .int .i64 wd] w fun e w' => e = .returned (.tuple #[.agg #[.int .i64 0, .int .i64 0], .int .i64 1]) ∧ Below w.heap.size w w' := by
  have HS := Lib.hid (fun w1 => c_sFind_arg q y w1 h)
  clear h
  have hgen := sgen; have hgen2 := sgen2; have hgen3 := sgen3; go_enter Tryz.func7, Tryz.ntmps7
  go_wp2_with (go_at_call 6; (refine (HS.out _).mono ?_); rintro e w1 ⟨rfl, hb⟩; have hz := hb.size; (try simp only [szA, szS, szD, szN] at hz); (try (refine bcB (n := w.heap.size) hb ?_; intro h_w_0 e_w_0 d_w_0 _ _)); (try (refine bcB (n := w.heap.size + 1) hb ?_; intro h_w_1 e_w_1 d_w_1 _ _)))
  refine bodyPost_ret (v := .tuple #[.agg #[.int .i64 0, .int .i64 0], .int .i64 1]) (by simp only [results, Tryz.results7]; go_simp) rfl ⟨rfl, ?_⟩
  exact belz
theorem c_shS_rng (q y wd : Int) (w : World) (q0 : 0 ≤ q) (q1 : q ≤ 3) (h : y < -10000 ∨ 10000 < y) :
    Calls Tryz.prog 7 #[.int .i64 q, .int .i64 y, .int .i64 wd] w fun e w' => e = .returned (.tuple #[.agg #[.int .i64 0, .int .i64 0], .int .i64 3]) ∧ Below w.heap.size w w' := by
  have HS := Lib.hid (fun w1 => c_sFind_rng q y w1 q0 q1 h)
  clear h
  have hgen := sgen; have hgen2 := sgen2; have hgen3 := sgen3; go_enter Tryz.func7, Tryz.ntmps7
  go_wp2_with (go_at_call 6; (refine (HS.out _).mono ?_); rintro e w1 ⟨rfl, hb⟩; have hz := hb.size; (try simp only [szA, szS, szD, szN] at hz); (try (refine bcB (n := w.heap.size) hb ?_; intro h_w_0 e_w_0 d_w_0 _ _)); (try (refine bcB (n := w.heap.size + 1) hb ?_; intro h_w_1 e_w_1 d_w_1 _ _)))
  refine bodyPost_ret (v := .tuple #[.agg #[.int .i64 0, .int .i64 0], .int .i64 3]) (by simp only [results, Tryz.results7]; go_simp) rfl ⟨rfl, ?_⟩
  exact belz
theorem c_shS_wd (q y wd : Int) (w : World) (hT : Tab w) (q0 : 0 ≤ q) (q1 : q ≤ 3) (h1 : -10000 ≤ y) (h2 : y ≤ 10000) (hw : wd < 1) :
    Calls Tryz.prog 7 #[.int .i64 q, .int .i64 y, .int .i64 wd] w fun e w' => e = .returned (.tuple #[.agg #[.int .i64 0, .int .i64 0], .int .i64 1]) ∧ Below w.heap.size w w' := by
  have HS := Lib.hid (fun w1 (h : Tab w1) => c_sFind_ok q y w1 h q0 q1 h1 h2)
  have HN := Lib.hid (fun f lo hi w1 => c_narrow_arg f lo hi wd w1 hw)
  have HT := Lib.hid hT
  clear hT
  generalize seR q y = R at *
  have hgen := sgen; have hgen2 := sgen2; have hgen3 := sgen3; go_enter Tryz.func7, Tryz.ntmps7
  go_wp2_with (first | (go_at_call 6; (refine (HS.out _ (HT.out.below (by exact belz))).mono ?_); rintro e w1 ⟨rfl, hb⟩; have hz := hb.size; (try simp only [szA, szS, szD, szN] at hz); (try (refine bcB (n := w.heap.size) hb ?_; intro h_w_0 e_w_0 d_w_0 _ _)); (try (refine bcB (n := w.heap.size + 1) hb ?_; intro h_w_1 e_w_1 d_w_1 _ _))) | (go_at_call 18; (refine (HN.out _ _ _ _).mono ?_); rintro e w2 ⟨rfl, hb⟩; have hz := hb.size; (try simp only [szA, szS, szD, szN] at hz); (try (refine bcB (n := w.heap.size) hb ?_; intro h_w_0 e_w_0 d_w_0 _ _)); (try (refine bcB (n := w.heap.size + 1) hb ?_; intro h_w_1 e_w_1 d_w_1 _ _)); (try (refine bcB (n := w1.heap.size) hb ?_; intro h_w1_0 e_w1_0 d_w1_0 _ _)); (try (refine bcB (n := w1.heap.size + 1) hb ?_; intro h_w1_1 e_w1_1 d_w1_1 _ _))))
  refine bodyPost_ret (v := .tuple #[.agg #[.int .i64 0, .int .i64 0], .int .i64 1]) (by simp only [results, Tryz.results7]; go_simp) rfl ⟨rfl, ?_⟩
  exact belz
theorem sea_bd {y q : Int} (h1 : -10000 ≤ y) (h2 : y ≤ 10000) (q0 : 0 ≤ q) (q1 : q ≤ 3) : -340000000000000 ≤ (seR q y).lo ∧ (seR q y).lo < (seR q y).hi ∧ (seR q y).hi ≤ 340000000000000 ∧ ∀ x, (seR q y).lo ≤ x → x ≤ (seR q y).hi → instB x = true := by
  have h := seR_ok h1 h2 q0 q1
  have n := nyD_bd y
  have a := h.a
  have b := h.b
  have c := h.c
  refine ⟨by omega, b, by omega, fun x x1 x2 => inst_of (by omega) (by omega)⟩
theorem ph_bd {n q : Int} (n0 : -100000 ≤ n) (n1 : n ≤ 100000) (q0 : 0 ≤ q) (q1 : q ≤ 3) : -340000000000000 ≤ (phR n q).lo ∧ (phR n q).lo < (phR n q).hi ∧ (phR n q).hi ≤ 340000000000000 ∧ ∀ x, (phR n q).lo ≤ x → x ≤ (phR n q).hi → instB x = true := by
  have h := phR_ok n0 n1 q0 q1
  have a := h.a
  have b := h.b
  have c := h.c
  unfold phMid at a c
  refine ⟨by omega, b, by omega, fun x x1 x2 => inst_of (by omega) (by omega)⟩
set_option maxHeartbeats 1000000 in
theorem c_shS (q y wd : Int) (w : World) (hT : Tab w) (q0 : 0 ≤ q) (q1 : q ≤ 3) (h1 : -10000 ≤ y) (h2 : y ≤ 10000) (hw : 1 ≤ wd) (hw2 : wd ≤ 9223372036854775807) :
    Calls Tryz.prog 7 #[.int .i64 q, .int .i64 y, .int .i64 wd] w fun e w' => e = .returned (shV (shS q y wd)) ∧ Below w.heap.size w w' := by
  have HS := Lib.hid (fun w1 (h : Tab w1) => c_sFind_ok q y w1 h q0 q1 h1 h2)
  obtain ⟨b1, b2, b3, b4⟩ := sea_bd h1 h2 q0 q1
  have HN := Lib.hid (fun w1 (hw1 : Tab w1 ∧ w.heap.size < w1.heap.size ∧ w1.cell? ⟨w.heap.size, 0, none⟩ = some (.int .i64 q)) => c_narrow 19 (.pointer (some ⟨w.heap.size, 0, none⟩)) (sunSide (q * 250000000)) _ (seR q y).lo (seR q y).hi wd w1 (kept_cell kept_tab w.heap.size (.int .i64 q)) hw1 (by omega) (by omega) (by omega) call_sside1 hw hw2 (fun w2 x h2 x1 x2 => c_sside1 w.heap.size q x w2 h2.1 (b4 x x1 x2) h2.2.1 h2.2.2 q0 q1))
  rw [show narF (sunSide (q * 250000000)) wd 62 (seR q y).lo (seR q y).hi = shS q y wd from rfl] at HN
  have HT := Lib.hid hT
  clear hT b4
  generalize shS q y wd = S at *
  generalize seR q y = R at *
  cases hS : S.is with
  | true =>
    have e : shV S = .tuple #[.agg #[.int .i64 S.lo, .int .i64 S.hi], .int .i64 0] := by unfold shV; rw [if_pos hS]
    rw [e] at HN ⊢
    clear e hS
    have hgen := sgen; have hgen2 := sgen2; have hgen3 := sgen3; go_enter Tryz.func7, Tryz.ntmps7
    go_wp2_with (first | (go_at_call 6; (refine (HS.out _ (HT.out.below (by exact belz))).mono ?_); rintro e w1 ⟨rfl, hb⟩; have hz := hb.size; (try simp only [szA, szS, szD, szN] at hz); (try (refine bcB (n := w.heap.size) hb ?_; intro h_w_0 e_w_0 d_w_0 _ _)); (try (refine bcB (n := w.heap.size + 1) hb ?_; intro h_w_1 e_w_1 d_w_1 _ _))) | (go_at_call 18; (refine (HN.out _ ⟨HT.out.below (by exact belz), by simp only [World.size_alloc]; omega, by go_simp⟩).mono ?_); rintro e w2 ⟨rfl, hb⟩; have hz := hb.size; (try simp only [szA, szS, szD, szN] at hz); (try (refine bcB (n := w.heap.size) hb ?_; intro h_w_0 e_w_0 d_w_0 _ _)); (try (refine bcB (n := w.heap.size + 1) hb ?_; intro h_w_1 e_w_1 d_w_1 _ _)); (try (refine bcB (n := w1.heap.size) hb ?_; intro h_w1_0 e_w1_0 d_w1_0 _ _)); (try (refine bcB (n := w1.heap.size + 1) hb ?_; intro h_w1_1 e_w1_1 d_w1_1 _ _))))
    refine bodyPost_ret (v := .tuple #[.agg #[.int .i64 S.lo, .int .i64 S.hi], .int .i64 0]) (by simp only [results, Tryz.results7]; go_simp) rfl ⟨rfl, ?_⟩
    exact belz
  | false =>
    have e : shV S = .tuple #[.agg #[.int .i64 0, .int .i64 0], .int .i64 11] := by unfold shV; rw [if_neg (by rw [hS]; decide)]
    rw [e] at HN ⊢
    clear e hS
    have hgen := sgen; have hgen2 := sgen2; have hgen3 := sgen3; go_enter Tryz.func7, Tryz.ntmps7
    go_wp2_with (first | (go_at_call 6; (refine (HS.out _ (HT.out.below (by exact belz))).mono ?_); rintro e w1 ⟨rfl, hb⟩; have hz := hb.size; (try simp only [szA, szS, szD, szN] at hz); (try (refine bcB (n := w.heap.size) hb ?_; intro h_w_0 e_w_0 d_w_0 _ _)); (try (refine bcB (n := w.heap.size + 1) hb ?_; intro h_w_1 e_w_1 d_w_1 _ _))) | (go_at_call 18; (refine (HN.out _ ⟨HT.out.below (by exact belz), by simp only [World.size_alloc]; omega, by go_simp⟩).mono ?_); rintro e w2 ⟨rfl, hb⟩; have hz := hb.size; (try simp only [szA, szS, szD, szN] at hz); (try (refine bcB (n := w.heap.size) hb ?_; intro h_w_0 e_w_0 d_w_0 _ _)); (try (refine bcB (n := w.heap.size + 1) hb ?_; intro h_w_1 e_w_1 d_w_1 _ _)); (try (refine bcB (n := w1.heap.size) hb ?_; intro h_w1_0 e_w1_0 d_w1_0 _ _)); (try (refine bcB (n := w1.heap.size + 1) hb ?_; intro h_w1_1 e_w1_1 d_w1_1 _ _))))
    refine bodyPost_ret (v := .tuple #[.agg #[.int .i64 0, .int .i64 0], .int .i64 11]) (by simp only [results, Tryz.results7]; go_simp) rfl ⟨rfl, ?_⟩
    exact belz
theorem c_shP_arg (n q wd : Int) (w : World) (h : q < 0 ∨ 3 < q) :
    Calls Tryz.prog 9 #[.int .i64 n, .int .i64 q, .int .i64 wd] w fun e w' => e = .returned (.tuple #[.agg #[.int .i64 0, .int .i64 0], .int .i64 1]) ∧ Below w.heap.size w w' := by
  have HS := Lib.hid (fun w1 => c_pFind_arg n q w1 h)
  clear h
  have hgen := sgen; have hgen2 := sgen2; have hgen3 := sgen3; go_enter Tryz.func9, Tryz.ntmps9
  go_wp2_with (go_at_call 8; (refine (HS.out _).mono ?_); rintro e w1 ⟨rfl, hb⟩; have hz := hb.size; (try simp only [szA, szS, szD, szN] at hz); (try (refine bcB (n := w.heap.size) hb ?_; intro h_w_0 e_w_0 d_w_0 _ _)); (try (refine bcB (n := w.heap.size + 1) hb ?_; intro h_w_1 e_w_1 d_w_1 _ _)))
  refine bodyPost_ret (v := .tuple #[.agg #[.int .i64 0, .int .i64 0], .int .i64 1]) (by simp only [results, Tryz.results9]; go_simp) rfl ⟨rfl, ?_⟩
  exact belz
theorem c_shP_rng (n q wd : Int) (w : World) (q0 : 0 ≤ q) (q1 : q ≤ 3) (h : n < -100000 ∨ 100000 < n) :
    Calls Tryz.prog 9 #[.int .i64 n, .int .i64 q, .int .i64 wd] w fun e w' => e = .returned (.tuple #[.agg #[.int .i64 0, .int .i64 0], .int .i64 3]) ∧ Below w.heap.size w w' := by
  have HS := Lib.hid (fun w1 => c_pFind_rng n q w1 q0 q1 h)
  clear h
  have hgen := sgen; have hgen2 := sgen2; have hgen3 := sgen3; go_enter Tryz.func9, Tryz.ntmps9
  go_wp2_with (go_at_call 8; (refine (HS.out _).mono ?_); rintro e w1 ⟨rfl, hb⟩; have hz := hb.size; (try simp only [szA, szS, szD, szN] at hz); (try (refine bcB (n := w.heap.size) hb ?_; intro h_w_0 e_w_0 d_w_0 _ _)); (try (refine bcB (n := w.heap.size + 1) hb ?_; intro h_w_1 e_w_1 d_w_1 _ _)))
  refine bodyPost_ret (v := .tuple #[.agg #[.int .i64 0, .int .i64 0], .int .i64 3]) (by simp only [results, Tryz.results9]; go_simp) rfl ⟨rfl, ?_⟩
  exact belz
theorem c_shP_wd (n q wd : Int) (w : World) (hT : Tab w) (n0 : -100000 ≤ n) (n1 : n ≤ 100000) (q0 : 0 ≤ q) (q1 : q ≤ 3) (hw : wd < 1) :
    Calls Tryz.prog 9 #[.int .i64 n, .int .i64 q, .int .i64 wd] w fun e w' => e = .returned (.tuple #[.agg #[.int .i64 0, .int .i64 0], .int .i64 1]) ∧ Below w.heap.size w w' := by
  have HS := Lib.hid (fun w1 (h : Tab w1) => c_pFind_ok n q w1 h n0 n1 q0 q1)
  have HN := Lib.hid (fun f lo hi w1 => c_narrow_arg f lo hi wd w1 hw)
  have HT := Lib.hid hT
  clear hT
  generalize phR n q = R at *
  have hgen := sgen; have hgen2 := sgen2; have hgen3 := sgen3; go_enter Tryz.func9, Tryz.ntmps9
  go_wp2_with (first | (go_at_call 8; (refine (HS.out _ (HT.out.below (by exact belz))).mono ?_); rintro e w1 ⟨rfl, hb⟩; have hz := hb.size; (try simp only [szA, szS, szD, szN] at hz); (try (refine bcB (n := w.heap.size) hb ?_; intro h_w_0 e_w_0 d_w_0 _ _)); (try (refine bcB (n := w.heap.size + 1) hb ?_; intro h_w_1 e_w_1 d_w_1 _ _))) | (go_at_call 18; (refine (HN.out _ _ _ _).mono ?_); rintro e w2 ⟨rfl, hb⟩; have hz := hb.size; (try simp only [szA, szS, szD, szN] at hz); (try (refine bcB (n := w.heap.size) hb ?_; intro h_w_0 e_w_0 d_w_0 _ _)); (try (refine bcB (n := w.heap.size + 1) hb ?_; intro h_w_1 e_w_1 d_w_1 _ _)); (try (refine bcB (n := w1.heap.size) hb ?_; intro h_w1_0 e_w1_0 d_w1_0 _ _)); (try (refine bcB (n := w1.heap.size + 1) hb ?_; intro h_w1_1 e_w1_1 d_w1_1 _ _))))
  refine bodyPost_ret (v := .tuple #[.agg #[.int .i64 0, .int .i64 0], .int .i64 1]) (by simp only [results, Tryz.results9]; go_simp) rfl ⟨rfl, ?_⟩
  exact belz
set_option maxHeartbeats 1000000 in
theorem c_shP (n q wd : Int) (w : World) (hT : Tab w) (n0 : -100000 ≤ n) (n1 : n ≤ 100000) (q0 : 0 ≤ q) (q1 : q ≤ 3) (hw : 1 ≤ wd) (hw2 : wd ≤ 9223372036854775807) :
    Calls Tryz.prog 9 #[.int .i64 n, .int .i64 q, .int .i64 wd] w fun e w' => e = .returned (shV (shP n q wd)) ∧ Below w.heap.size w w' := by
  have HS := Lib.hid (fun w1 (h : Tab w1) => c_pFind_ok n q w1 h n0 n1 q0 q1)
  obtain ⟨b1, b2, b3, b4⟩ := ph_bd n0 n1 q0 q1
  have HN := Lib.hid (fun w1 (hw1 : Tab w1 ∧ w.heap.size < w1.heap.size ∧ w1.cell? ⟨w.heap.size, 0, none⟩ = some (.int .i64 q)) => c_narrow 23 (.pointer (some ⟨w.heap.size, 0, none⟩)) (elSide (q * 250000000)) _ (phR n q).lo (phR n q).hi wd w1 (kept_cell kept_tab w.heap.size (.int .i64 q)) hw1 (by omega) (by omega) (by omega) call_pside1 hw hw2 (fun w2 x h2 x1 x2 => c_pside1 w.heap.size q x w2 h2.1 (b4 x x1 x2) h2.2.1 h2.2.2 q0 q1))
  rw [show narF (elSide (q * 250000000)) wd 62 (phR n q).lo (phR n q).hi = shP n q wd from rfl] at HN
  have HT := Lib.hid hT
  clear hT b4
  generalize shP n q wd = S at *
  generalize phR n q = R at *
  cases hS : S.is with
  | true =>
    have e : shV S = .tuple #[.agg #[.int .i64 S.lo, .int .i64 S.hi], .int .i64 0] := by unfold shV; rw [if_pos hS]
    rw [e] at HN ⊢
    clear e hS
    have hgen := sgen; have hgen2 := sgen2; have hgen3 := sgen3; go_enter Tryz.func9, Tryz.ntmps9
    go_wp2_with (first | (go_at_call 8; (refine (HS.out _ (HT.out.below (by exact belz))).mono ?_); rintro e w1 ⟨rfl, hb⟩; have hz := hb.size; (try simp only [szA, szS, szD, szN] at hz); (try (refine bcB (n := w.heap.size) hb ?_; intro h_w_0 e_w_0 d_w_0 _ _)); (try (refine bcB (n := w.heap.size + 1) hb ?_; intro h_w_1 e_w_1 d_w_1 _ _))) | (go_at_call 18; (refine (HN.out _ ⟨HT.out.below (by exact belz), by simp only [World.size_alloc]; omega, by go_simp⟩).mono ?_); rintro e w2 ⟨rfl, hb⟩; have hz := hb.size; (try simp only [szA, szS, szD, szN] at hz); (try (refine bcB (n := w.heap.size) hb ?_; intro h_w_0 e_w_0 d_w_0 _ _)); (try (refine bcB (n := w.heap.size + 1) hb ?_; intro h_w_1 e_w_1 d_w_1 _ _)); (try (refine bcB (n := w1.heap.size) hb ?_; intro h_w1_0 e_w1_0 d_w1_0 _ _)); (try (refine bcB (n := w1.heap.size + 1) hb ?_; intro h_w1_1 e_w1_1 d_w1_1 _ _))))
    refine bodyPost_ret (v := .tuple #[.agg #[.int .i64 S.lo, .int .i64 S.hi], .int .i64 0]) (by simp only [results, Tryz.results9]; go_simp) rfl ⟨rfl, ?_⟩
    exact belz
  | false =>
    have e : shV S = .tuple #[.agg #[.int .i64 0, .int .i64 0], .int .i64 11] := by unfold shV; rw [if_neg (by rw [hS]; decide)]
    rw [e] at HN ⊢
    clear e hS
    have hgen := sgen; have hgen2 := sgen2; have hgen3 := sgen3; go_enter Tryz.func9, Tryz.ntmps9
    go_wp2_with (first | (go_at_call 8; (refine (HS.out _ (HT.out.below (by exact belz))).mono ?_); rintro e w1 ⟨rfl, hb⟩; have hz := hb.size; (try simp only [szA, szS, szD, szN] at hz); (try (refine bcB (n := w.heap.size) hb ?_; intro h_w_0 e_w_0 d_w_0 _ _)); (try (refine bcB (n := w.heap.size + 1) hb ?_; intro h_w_1 e_w_1 d_w_1 _ _))) | (go_at_call 18; (refine (HN.out _ ⟨HT.out.below (by exact belz), by simp only [World.size_alloc]; omega, by go_simp⟩).mono ?_); rintro e w2 ⟨rfl, hb⟩; have hz := hb.size; (try simp only [szA, szS, szD, szN] at hz); (try (refine bcB (n := w.heap.size) hb ?_; intro h_w_0 e_w_0 d_w_0 _ _)); (try (refine bcB (n := w.heap.size + 1) hb ?_; intro h_w_1 e_w_1 d_w_1 _ _)); (try (refine bcB (n := w1.heap.size) hb ?_; intro h_w1_0 e_w1_0 d_w1_0 _ _)); (try (refine bcB (n := w1.heap.size + 1) hb ?_; intro h_w1_1 e_w1_1 d_w1_1 _ _))))
    refine bodyPost_ret (v := .tuple #[.agg #[.int .i64 0, .int .i64 0], .int .i64 11]) (by simp only [results, Tryz.results9]; go_simp) rfl ⟨rfl, ?_⟩
    exact belz
/-- What sharpen.Earlier answers. -/
def eaN (al ah bl bh : Int) : Int := if ah < bl then -1 else if bh < al then 1 else 0
def eaE (al ah bl bh : Int) : Int := if ah < bl then 0 else if bh < al then 0 else 11
end
end Go.Proofs.YtjkhoepohiafeaaGreatDoor
