/- Contracts of sharpen.narrow, Season, Phase, Earlier and of sharpenWorks. Contracts of sharpen.Season, Phase, Earlier and of sharpenWorks. -/
import Derived.Test.YtmjdcabniefifaaGreatDoorLuA
import Derived.Test.YtmjdcabniefifaaGreatDoorSdA
set_option linter.unusedVariables false
set_option linter.unusedSimpArgs false
namespace Go.Proofs.YtmjdcabniefifaaGreatDoor
section
open Go.RowKit
theorem c_sside1 (b : Nat) (q x : Int) (w : World) (hT : Tab w) (hx : instB x = true) (hbl : b < w.heap.size) (hc : w.cell? ⟨b, 0, none⟩ = some (.int .i64 q)) (t0 : 0 ≤ q) (t1 : q ≤ 3) :
    Calls Tryz.prog 112 #[.int .i64 x, .pointer (some ⟨b, 0, none⟩)] w fun e w' => e = .returned (.int .i64 (sunSide (q * 250000000) x)) ∧ Below w.heap.size w w' := by
  obtain ⟨q1, q2, -, q3, -, -, q6⟩ := sun_facts x
  have HB := Lib.hid (fun w1 (h : Tab w1) => c_sunLongitude x w1 h hx)
  have HS := Lib.hid (fun w1 => c_Side (sunLo x) (sunHi x) (q * 250000000) w1 q1 q2 q6 (by omega) (by omega) (by omega))
  rw [show sideV (sunLo x) (sunHi x) (q * 250000000) = sunSide (q * 250000000) x from rfl] at HS
  have HT := Lib.hid hT
  have e1 : q * 1000000000 / 4 = q * 250000000 := by omega
  have e2 : (q * 1000000000).tdiv 4 = q * 250000000 := by rw [Int.tdiv_eq_ediv_of_nonneg (by omega)]; omega
  clear hT hx q1 q2 q3 q6
  generalize sunSide (q * 250000000) x = sv at *
  generalize sunLo x = b1 at *
  generalize sunHi x = b2 at *
  have hgen := sgen; have hgen2 := sgen2; have hgen3 := sgen3; go_enter Tryz.func112, Tryz.ntmps112
  go_wp2_with (first | (go_at_call 46; (refine (HB.out _ (HT.out.below (by exact belz))).mono ?_); rintro e w1 ⟨rfl, hb⟩; have hz := hb.size; (try simp only [szA, szS, szD, szN] at hz); (try (refine bcB (n := b) hb ?_; intro h_bb_0 e_bb_0 d_bb_0 _ _)); (try (refine bcB (n := w.heap.size) hb ?_; intro h_w_0 e_w_0 d_w_0 _ _))) | (go_at_call 113; (refine (HS.out _).mono ?_); rintro e w2 ⟨rfl, hb⟩; have hz := hb.size; (try simp only [szA, szS, szD, szN] at hz); (try (refine bcB (n := b) hb ?_; intro h_bb_0 e_bb_0 d_bb_0 _ _)); (try (refine bcB (n := w.heap.size) hb ?_; intro h_w_0 e_w_0 d_w_0 _ _)); (try (refine bcB (n := w1.heap.size) hb ?_; intro h_w1_0 e_w1_0 d_w1_0 _ _))))
  go_ret
  refine ⟨rfl, ?_⟩
  exact belz
theorem call_sside1 (args : Array Value) (w : World) : (callFunc 112 args).run Tryz.prog w = .ok (.enter 112 args) w := by
  go_simp
theorem c_narrow_arg (f : Value) (lo hi width : Int) (w : World) (h : width < 1) :
    Calls Tryz.prog 71 #[.agg #[.int .i64 lo, .int .i64 hi], .int .i64 width, f] w fun e w' => e = .returned (.tuple #[.agg #[.int .i64 0, .int .i64 0], .int .i64 1]) ∧ Below w.heap.size w w' := by
  have f1 : decide (width < 1) = true := decide_eq_true h
  have hgen := sgen; have hgen2 := sgen2; have hgen3 := sgen3; go_enter Tryz.func71, Tryz.ntmps71
  go_wp2
  refine bodyPost_ret (v := .tuple #[.agg #[.int .i64 0, .int .i64 0], .int .i64 1]) (by simp only [results, Tryz.results71]; go_simp) rfl ⟨rfl, ?_⟩
  exact belz
/-- What sharpen.narrow answers. -/
def shV (r : NarR) : Value := if r.is = true then .tuple #[.agg #[.int .i64 r.lo, .int .i64 r.hi], .int .i64 0] else .tuple #[.agg #[.int .i64 0, .int .i64 0], .int .i64 11]
theorem c_narrow (F : Nat) (c : Value) (s : Int → Int) (W : World → Prop) (lo hi width : Int) (w : World) (hW : Kept W) (hw : W w) (h1 : -1000000000000000000 ≤ lo) (h2 : lo ≤ hi) (h3 : hi ≤ 1000000000000000000) (hF : ∀ args w, (callFunc F args).run Tryz.prog w = .ok (.enter F args) w) (hwd : 1 ≤ width) (hwd2 : width ≤ 9223372036854775807)
    (hf : ∀ w1 x, W w1 → lo ≤ x → x ≤ hi → Calls Tryz.prog F #[.int .i64 x, c] w1 fun e w' => e = .returned (.int .i64 (s x)) ∧ Below w1.heap.size w1 w') :
    Calls Tryz.prog 71 #[.agg #[.int .i64 lo, .int .i64 hi], .int .i64 width, .func (.func F) #[] #[c]] w fun e w' => e = .returned (shV (narF s width 62 lo hi)) ∧ Below w.heap.size w w' := by
  have HN := Lib.hid (fun w1 (hw : W w1) => c_Narrow F c s W lo hi width w1 hW hw h1 h2 h3 hF hwd hwd2 hf)
  have HW := Lib.hid (show ∀ w1 w2, W w1 → Below w1.heap.size w1 w2 → W w2 from hW)
  have HWW := Lib.hid hw
  have f1 : decide (width < 1) = false := decide_eq_false (by omega)
  clear hf hW hw hF
  generalize narF s width 62 lo hi = R at *
  cases hR : R.is with
  | true =>
    have e : shV R = .tuple #[.agg #[.int .i64 R.lo, .int .i64 R.hi], .int .i64 0] := by unfold shV; rw [if_pos hR]
    rw [e]
    clear e
    have hgen := sgen; have hgen2 := sgen2; have hgen3 := sgen3; go_enter Tryz.func71, Tryz.ntmps71
    go_wp2_with (go_at_call 66; (refine (HN.out _ (HW.out _ _ HWW.out (by exact belz))).mono ?_); rintro e w1 ⟨rfl, hb⟩; have hz := hb.size; (try simp only [szA, szS, szD, szN] at hz); (try (refine bcB (n := w.heap.size) hb ?_; intro h_w_0 e_w_0 d_w_0 _ _)); (try (refine bcB (n := w.heap.size + 1) hb ?_; intro h_w_1 e_w_1 d_w_1 _ _)))
    refine bodyPost_ret (v := .tuple #[.agg #[.int .i64 R.lo, .int .i64 R.hi], .int .i64 0]) (by simp only [results, Tryz.results71]; go_simp) rfl ⟨rfl, ?_⟩
    exact belz
  | false =>
    have e : shV R = .tuple #[.agg #[.int .i64 0, .int .i64 0], .int .i64 11] := by unfold shV; rw [if_neg (by rw [hR]; decide)]
    rw [e]
    clear e
    have hgen := sgen; have hgen2 := sgen2; have hgen3 := sgen3; go_enter Tryz.func71, Tryz.ntmps71
    go_wp2_with (go_at_call 66; (refine (HN.out _ (HW.out _ _ HWW.out (by exact belz))).mono ?_); rintro e w1 ⟨rfl, hb⟩; have hz := hb.size; (try simp only [szA, szS, szD, szN] at hz); (try (refine bcB (n := w.heap.size) hb ?_; intro h_w_0 e_w_0 d_w_0 _ _)); (try (refine bcB (n := w.heap.size + 1) hb ?_; intro h_w_1 e_w_1 d_w_1 _ _)))
    refine bodyPost_ret (v := .tuple #[.agg #[.int .i64 0, .int .i64 0], .int .i64 11]) (by simp only [results, Tryz.results71]; go_simp) rfl ⟨rfl, ?_⟩
    exact belz
end
section
open Go.RowKit
theorem c_shS_arg (q y wd : Int) (w : World) (h : q < 0 ∨ 3 < q) :
    Calls Tryz.prog 69 #[.int .i64 q, .int .i64 y, .int .i64 wd] w fun e w' => e = .returned (.tuple #[.agg #[.int .i64 0, .int .i64 0], .int .i64 1]) ∧ Below w.heap.size w w' := by
  have HS := Lib.hid (fun w1 => c_sFind_arg q y w1 h)
  clear h
  have hgen := sgen; have hgen2 := sgen2; have hgen3 := sgen3; go_enter Tryz.func69, Tryz.ntmps69
  go_wp2_with (go_at_call 76; (refine (HS.out _).mono ?_); rintro e w1 ⟨rfl, hb⟩; have hz := hb.size; (try simp only [szA, szS, szD, szN] at hz); (try (refine bcB (n := w.heap.size) hb ?_; intro h_w_0 e_w_0 d_w_0 _ _)); (try (refine bcB (n := w.heap.size + 1) hb ?_; intro h_w_1 e_w_1 d_w_1 _ _)))
  refine bodyPost_ret (v := .tuple #[.agg #[.int .i64 0, .int .i64 0], .int .i64 1]) (by simp only [results, Tryz.results69]; go_simp) rfl ⟨rfl, ?_⟩
  exact belz
theorem c_shS_rng (q y wd : Int) (w : World) (q0 : 0 ≤ q) (q1 : q ≤ 3) (h : y < -10000 ∨ 10000 < y) :
    Calls Tryz.prog 69 #[.int .i64 q, .int .i64 y, .int .i64 wd] w fun e w' => e = .returned (.tuple #[.agg #[.int .i64 0, .int .i64 0], .int .i64 3]) ∧ Below w.heap.size w w' := by
  have HS := Lib.hid (fun w1 => c_sFind_rng q y w1 q0 q1 h)
  clear h
  have hgen := sgen; have hgen2 := sgen2; have hgen3 := sgen3; go_enter Tryz.func69, Tryz.ntmps69
  go_wp2_with (go_at_call 76; (refine (HS.out _).mono ?_); rintro e w1 ⟨rfl, hb⟩; have hz := hb.size; (try simp only [szA, szS, szD, szN] at hz); (try (refine bcB (n := w.heap.size) hb ?_; intro h_w_0 e_w_0 d_w_0 _ _)); (try (refine bcB (n := w.heap.size + 1) hb ?_; intro h_w_1 e_w_1 d_w_1 _ _)))
  refine bodyPost_ret (v := .tuple #[.agg #[.int .i64 0, .int .i64 0], .int .i64 3]) (by simp only [results, Tryz.results69]; go_simp) rfl ⟨rfl, ?_⟩
  exact belz
theorem c_shS_wd (q y wd : Int) (w : World) (hT : Tab w) (q0 : 0 ≤ q) (q1 : q ≤ 3) (h1 : -10000 ≤ y) (h2 : y ≤ 10000) (hw : wd < 1) :
    Calls Tryz.prog 69 #[.int .i64 q, .int .i64 y, .int .i64 wd] w fun e w' => e = .returned (.tuple #[.agg #[.int .i64 0, .int .i64 0], .int .i64 1]) ∧ Below w.heap.size w w' := by
  have HS := Lib.hid (fun w1 (h : Tab w1) => c_sFind_ok q y w1 h q0 q1 h1 h2)
  have HN := Lib.hid (fun f lo hi w1 => c_narrow_arg f lo hi wd w1 hw)
  have HT := Lib.hid hT
  clear hT
  generalize seR q y = R at *
  have hgen := sgen; have hgen2 := sgen2; have hgen3 := sgen3; go_enter Tryz.func69, Tryz.ntmps69
  go_wp2_with (first | (go_at_call 76; (refine (HS.out _ (HT.out.below (by exact belz))).mono ?_); rintro e w1 ⟨rfl, hb⟩; have hz := hb.size; (try simp only [szA, szS, szD, szN] at hz); (try (refine bcB (n := w.heap.size) hb ?_; intro h_w_0 e_w_0 d_w_0 _ _)); (try (refine bcB (n := w.heap.size + 1) hb ?_; intro h_w_1 e_w_1 d_w_1 _ _))) | (go_at_call 71; (refine (HN.out _ _ _ _).mono ?_); rintro e w2 ⟨rfl, hb⟩; have hz := hb.size; (try simp only [szA, szS, szD, szN] at hz); (try (refine bcB (n := w.heap.size) hb ?_; intro h_w_0 e_w_0 d_w_0 _ _)); (try (refine bcB (n := w.heap.size + 1) hb ?_; intro h_w_1 e_w_1 d_w_1 _ _)); (try (refine bcB (n := w1.heap.size) hb ?_; intro h_w1_0 e_w1_0 d_w1_0 _ _)); (try (refine bcB (n := w1.heap.size + 1) hb ?_; intro h_w1_1 e_w1_1 d_w1_1 _ _))))
  refine bodyPost_ret (v := .tuple #[.agg #[.int .i64 0, .int .i64 0], .int .i64 1]) (by simp only [results, Tryz.results69]; go_simp) rfl ⟨rfl, ?_⟩
  exact belz
theorem sea_bd {y q : Int} (h1 : -10000 ≤ y) (h2 : y ≤ 10000) (q0 : 0 ≤ q) (q1 : q ≤ 3) : -340000000000000 ≤ (seR q y).lo ∧ (seR q y).lo < (seR q y).hi ∧ (seR q y).hi ≤ 340000000000000 ∧ ∀ x, (seR q y).lo ≤ x → x ≤ (seR q y).hi → instB x = true := by
  have h := seR_ok h1 h2 q0 q1
  have n := nyD_bd y
  have a := h.a
  have b := h.b
  have c := h.c
  refine ⟨by omega, b, by omega, fun x x1 x2 => inst_of (by omega) (by omega)⟩
theorem ph_bd {n q : Int} (n0 : -100000 ≤ n) (n1 : n ≤ 100000) (q0 : 0 ≤ q) (q1 : q ≤ 3) : -340000000000000 ≤ (phR n q).lo ∧ (phR n q).lo < (phR n q).hi ∧ (phR n q).hi ≤ 340000000000000 ∧ ∀ x, (phR n q).lo ≤ x → x ≤ (phR n q).hi → instB x = true := by
  have h := phR_ok n0 n1 q0 q1
  have a := h.a
  have b := h.b
  have c := h.c
  unfold phMid at a c
  refine ⟨by omega, b, by omega, fun x x1 x2 => inst_of (by omega) (by omega)⟩
set_option maxHeartbeats 1000000 in
theorem c_shS (q y wd : Int) (w : World) (hT : Tab w) (q0 : 0 ≤ q) (q1 : q ≤ 3) (h1 : -10000 ≤ y) (h2 : y ≤ 10000) (hw : 1 ≤ wd) (hw2 : wd ≤ 9223372036854775807) :
    Calls Tryz.prog 69 #[.int .i64 q, .int .i64 y, .int .i64 wd] w fun e w' => e = .returned (shV (shS q y wd)) ∧ Below w.heap.size w w' := by
  have HS := Lib.hid (fun w1 (h : Tab w1) => c_sFind_ok q y w1 h q0 q1 h1 h2)
  obtain ⟨b1, b2, b3, b4⟩ := sea_bd h1 h2 q0 q1
  have HN := Lib.hid (fun w1 (hw1 : Tab w1 ∧ w.heap.size < w1.heap.size ∧ w1.cell? ⟨w.heap.size, 0, none⟩ = some (.int .i64 q)) => c_narrow 112 (.pointer (some ⟨w.heap.size, 0, none⟩)) (sunSide (q * 250000000)) _ (seR q y).lo (seR q y).hi wd w1 (kept_cell kept_tab w.heap.size (.int .i64 q)) hw1 (by omega) (by omega) (by omega) call_sside1 hw hw2 (fun w2 x h2 x1 x2 => c_sside1 w.heap.size q x w2 h2.1 (b4 x x1 x2) h2.2.1 h2.2.2 q0 q1))
  rw [show narF (sunSide (q * 250000000)) wd 62 (seR q y).lo (seR q y).hi = shS q y wd from rfl] at HN
  have HT := Lib.hid hT
  clear hT b4
  generalize shS q y wd = S at *
  generalize seR q y = R at *
  cases hS : S.is with
  | true =>
    have e : shV S = .tuple #[.agg #[.int .i64 S.lo, .int .i64 S.hi], .int .i64 0] := by unfold shV; rw [if_pos hS]
    rw [e] at HN ⊢
    clear e hS
    have hgen := sgen; have hgen2 := sgen2; have hgen3 := sgen3; go_enter Tryz.func69, Tryz.ntmps69
    go_wp2_with (first | (go_at_call 76; (refine (HS.out _ (HT.out.below (by exact belz))).mono ?_); rintro e w1 ⟨rfl, hb⟩; have hz := hb.size; (try simp only [szA, szS, szD, szN] at hz); (try (refine bcB (n := w.heap.size) hb ?_; intro h_w_0 e_w_0 d_w_0 _ _)); (try (refine bcB (n := w.heap.size + 1) hb ?_; intro h_w_1 e_w_1 d_w_1 _ _))) | (go_at_call 71; (refine (HN.out _ ⟨HT.out.below (by exact belz), by simp only [World.size_alloc]; omega, by go_simp⟩).mono ?_); rintro e w2 ⟨rfl, hb⟩; have hz := hb.size; (try simp only [szA, szS, szD, szN] at hz); (try (refine bcB (n := w.heap.size) hb ?_; intro h_w_0 e_w_0 d_w_0 _ _)); (try (refine bcB (n := w.heap.size + 1) hb ?_; intro h_w_1 e_w_1 d_w_1 _ _)); (try (refine bcB (n := w1.heap.size) hb ?_; intro h_w1_0 e_w1_0 d_w1_0 _ _)); (try (refine bcB (n := w1.heap.size + 1) hb ?_; intro h_w1_1 e_w1_1 d_w1_1 _ _))))
    refine bodyPost_ret (v := .tuple #[.agg #[.int .i64 S.lo, .int .i64 S.hi], .int .i64 0]) (by simp only [results, Tryz.results69]; go_simp) rfl ⟨rfl, ?_⟩
    exact belz
  | false =>
    have e : shV S = .tuple #[.agg #[.int .i64 0, .int .i64 0], .int .i64 11] := by unfold shV; rw [if_neg (by rw [hS]; decide)]
    rw [e] at HN ⊢
    clear e hS
    have hgen := sgen; have hgen2 := sgen2; have hgen3 := sgen3; go_enter Tryz.func69, Tryz.ntmps69
    go_wp2_with (first | (go_at_call 76; (refine (HS.out _ (HT.out.below (by exact belz))).mono ?_); rintro e w1 ⟨rfl, hb⟩; have hz := hb.size; (try simp only [szA, szS, szD, szN] at hz); (try (refine bcB (n := w.heap.size) hb ?_; intro h_w_0 e_w_0 d_w_0 _ _)); (try (refine bcB (n := w.heap.size + 1) hb ?_; intro h_w_1 e_w_1 d_w_1 _ _))) | (go_at_call 71; (refine (HN.out _ ⟨HT.out.below (by exact belz), by simp only [World.size_alloc]; omega, by go_simp⟩).mono ?_); rintro e w2 ⟨rfl, hb⟩; have hz := hb.size; (try simp only [szA, szS, szD, szN] at hz); (try (refine bcB (n := w.heap.size) hb ?_; intro h_w_0 e_w_0 d_w_0 _ _)); (try (refine bcB (n := w.heap.size + 1) hb ?_; intro h_w_1 e_w_1 d_w_1 _ _)); (try (refine bcB (n := w1.heap.size) hb ?_; intro h_w1_0 e_w1_0 d_w1_0 _ _)); (try (refine bcB (n := w1.heap.size + 1) hb ?_; intro h_w1_1 e_w1_1 d_w1_1 _ _))))
    refine bodyPost_ret (v := .tuple #[.agg #[.int .i64 0, .int .i64 0], .int .i64 11]) (by simp only [results, Tryz.results69]; go_simp) rfl ⟨rfl, ?_⟩
    exact belz
/-- What sharpen.Earlier answers. -/
def eaN (al ah bl bh : Int) : Int := if ah < bl then -1 else if bh < al then 1 else 0
def eaE (al ah bl bh : Int) : Int := if ah < bl then 0 else if bh < al then 0 else 11
set_option maxHeartbeats 1000000 in
theorem c_Earlier (al ah bl bh : Int) (w : World) (ha : spanErr al ah = 0) (hb' : spanErr bl bh = 0) :
    Calls Tryz.prog 70 #[.agg #[.int .i64 al, .int .i64 ah], .agg #[.int .i64 bl, .int .i64 bh]] w fun e w' => e = .returned (.tuple #[.int .i64 (eaN al ah bl bh), .int .i64 (eaE al ah bl bh)]) ∧ Below w.heap.size w w' := by
  have i0 : ∀ w, (Instr.index 86 (.agg #[.int .i64 al, .int .i64 ah, .int .i64 bl, .int .i64 bh]) (.int .i64 0)).run Tryz.prog w = .ok (.agg #[.int .i64 al, .int .i64 ah]) w := fun _ => by kernel_rfl
  have i1 : ∀ w, (Instr.index 86 (.agg #[.int .i64 al, .int .i64 ah, .int .i64 bl, .int .i64 bh]) (.int .i64 1)).run Tryz.prog w = .ok (.agg #[.int .i64 bl, .int .i64 bh]) w := fun _ => by kernel_rfl
  have hA := fun w1 => c_intervalCheck al ah w1
  have hB := fun w1 => c_intervalCheck bl bh w1
  rw [ha] at hA
  rw [hb'] at hB
  have HA := Lib.hid hA
  have HB := Lib.hid hB
  clear hA hB ha hb'
  obtain ⟨N, hN⟩ : ∃ N, N = eaN al ah bl bh := ⟨_, rfl⟩
  obtain ⟨E, hE⟩ : ∃ E, E = eaE al ah bl bh := ⟨_, rfl⟩
  rw [← hN, ← hE]
  unfold eaN at hN
  unfold eaE at hE
  have cs : (ah < bl ∧ N = -1 ∧ E = 0) ∨ (¬ ah < bl ∧ bh < al ∧ N = 1 ∧ E = 0) ∨ (¬ ah < bl ∧ ¬ bh < al ∧ N = 0 ∧ E = 11) := by
    by_cases c : ah < bl
    · rw [if_pos c] at hN hE; exact .inl ⟨c, hN, hE⟩
    · rw [if_neg c] at hN hE
      by_cases d : bh < al
      · rw [if_pos d] at hN hE; exact .inr (.inl ⟨c, d, hN, hE⟩)
      · rw [if_neg d] at hN hE; exact .inr (.inr ⟨c, d, hN, hE⟩)
  clear hN hE
  rcases cs with ⟨c, rfl, rfl⟩ | ⟨c, d, rfl, rfl⟩ | ⟨c, d, rfl, rfl⟩
  · have f1 : decide (ah < bl) = true := decide_eq_true c
    have hgen := sgen; have hgen2 := sgen2; have hgen3 := sgen3; go_enter Tryz.func70, Tryz.ntmps70
    go_wp2
    refine wp_loop_rounds 3 ?_
    rw [rounds_succ]
    go_wp2_with (go_at_call 81; (refine (HA.out _).mono ?_); rintro e w1 ⟨rfl, hb⟩; have hz := hb.size; (try simp only [szA, szS, szD, szN] at hz); (try (refine bcB (n := w.heap.size) hb ?_; intro h_w_0 e_w_0 d_w_0 _ _)); (try (refine bcB (n := w.heap.size + 1) hb ?_; intro h_w_1 e_w_1 d_w_1 _ _)); (try (refine bcB (n := w.heap.size + 1 + 1) hb ?_; intro h_w_2 e_w_2 d_w_2 _ _)))
    rw [rounds_succ]
    go_wp2_with (go_at_call 81; (refine (HB.out _).mono ?_); rintro e w2 ⟨rfl, hb⟩; have hz := hb.size; (try simp only [szA, szS, szD, szN] at hz); (try (refine bcB (n := w.heap.size) hb ?_; intro h_w_0 e_w_0 d_w_0 _ _)); (try (refine bcB (n := w.heap.size + 1) hb ?_; intro h_w_1 e_w_1 d_w_1 _ _)); (try (refine bcB (n := w.heap.size + 1 + 1) hb ?_; intro h_w_2 e_w_2 d_w_2 _ _)); (try (refine bcB (n := w1.heap.size) hb ?_; intro h_w1_0 e_w1_0 d_w1_0 _ _)); (try (refine bcB (n := w1.heap.size + 1) hb ?_; intro h_w1_1 e_w1_1 d_w1_1 _ _)))
    rw [rounds_succ]
    go_wp2
    go_ret2
    refine ⟨rfl, ?_⟩
    exact belz
  · have f1 : decide (ah < bl) = false := decide_eq_false c
    have f2 : decide (bh < al) = true := decide_eq_true d
    have hgen := sgen; have hgen2 := sgen2; have hgen3 := sgen3; go_enter Tryz.func70, Tryz.ntmps70
    go_wp2
    refine wp_loop_rounds 3 ?_
    rw [rounds_succ]
    go_wp2_with (go_at_call 81; (refine (HA.out _).mono ?_); rintro e w1 ⟨rfl, hb⟩; have hz := hb.size; (try simp only [szA, szS, szD, szN] at hz); (try (refine bcB (n := w.heap.size) hb ?_; intro h_w_0 e_w_0 d_w_0 _ _)); (try (refine bcB (n := w.heap.size + 1) hb ?_; intro h_w_1 e_w_1 d_w_1 _ _)); (try (refine bcB (n := w.heap.size + 1 + 1) hb ?_; intro h_w_2 e_w_2 d_w_2 _ _)))
    rw [rounds_succ]
    go_wp2_with (go_at_call 81; (refine (HB.out _).mono ?_); rintro e w2 ⟨rfl, hb⟩; have hz := hb.size; (try simp only [szA, szS, szD, szN] at hz); (try (refine bcB (n := w.heap.size) hb ?_; intro h_w_0 e_w_0 d_w_0 _ _)); (try (refine bcB (n := w.heap.size + 1) hb ?_; intro h_w_1 e_w_1 d_w_1 _ _)); (try (refine bcB (n := w.heap.size + 1 + 1) hb ?_; intro h_w_2 e_w_2 d_w_2 _ _)); (try (refine bcB (n := w1.heap.size) hb ?_; intro h_w1_0 e_w1_0 d_w1_0 _ _)); (try (refine bcB (n := w1.heap.size + 1) hb ?_; intro h_w1_1 e_w1_1 d_w1_1 _ _)))
    rw [rounds_succ]
    go_wp2
    go_ret2
    refine ⟨rfl, ?_⟩
    exact belz
  · have f1 : decide (ah < bl) = false := decide_eq_false c
    have f2 : decide (bh < al) = false := decide_eq_false d
    have hgen := sgen; have hgen2 := sgen2; have hgen3 := sgen3; go_enter Tryz.func70, Tryz.ntmps70
    go_wp2
    refine wp_loop_rounds 3 ?_
    rw [rounds_succ]
    go_wp2_with (go_at_call 81; (refine (HA.out _).mono ?_); rintro e w1 ⟨rfl, hb⟩; have hz := hb.size; (try simp only [szA, szS, szD, szN] at hz); (try (refine bcB (n := w.heap.size) hb ?_; intro h_w_0 e_w_0 d_w_0 _ _)); (try (refine bcB (n := w.heap.size + 1) hb ?_; intro h_w_1 e_w_1 d_w_1 _ _)); (try (refine bcB (n := w.heap.size + 1 + 1) hb ?_; intro h_w_2 e_w_2 d_w_2 _ _)))
    rw [rounds_succ]
    go_wp2_with (go_at_call 81; (refine (HB.out _).mono ?_); rintro e w2 ⟨rfl, hb⟩; have hz := hb.size; (try simp only [szA, szS, szD, szN] at hz); (try (refine bcB (n := w.heap.size) hb ?_; intro h_w_0 e_w_0 d_w_0 _ _)); (try (refine bcB (n := w.heap.size + 1) hb ?_; intro h_w_1 e_w_1 d_w_1 _ _)); (try (refine bcB (n := w.heap.size + 1 + 1) hb ?_; intro h_w_2 e_w_2 d_w_2 _ _)); (try (refine bcB (n := w1.heap.size) hb ?_; intro h_w1_0 e_w1_0 d_w1_0 _ _)); (try (refine bcB (n := w1.heap.size + 1) hb ?_; intro h_w1_1 e_w1_1 d_w1_1 _ _)))
    rw [rounds_succ]
    go_wp2
    go_ret2
    refine ⟨rfl, ?_⟩
    exact belz
theorem c_Earlier_a (al ah bl bh x : Int) (w : World) (ha : spanErr al ah = x) (hx : x ≠ 0) :
    Calls Tryz.prog 70 #[.agg #[.int .i64 al, .int .i64 ah], .agg #[.int .i64 bl, .int .i64 bh]] w fun e w' => e = .returned (.tuple #[.int .i64 0, .int .i64 x]) ∧ Below w.heap.size w w' := by
  have i0 : ∀ w, (Instr.index 86 (.agg #[.int .i64 al, .int .i64 ah, .int .i64 bl, .int .i64 bh]) (.int .i64 0)).run Tryz.prog w = .ok (.agg #[.int .i64 al, .int .i64 ah]) w := fun _ => by kernel_rfl
  have hA := fun w1 => c_intervalCheck al ah w1
  rw [ha] at hA
  have HA := Lib.hid hA
  have hx1 : (x != 0) = true := by simpa using hx
  clear hA ha hx
  have hgen := sgen; have hgen2 := sgen2; have hgen3 := sgen3; go_enter Tryz.func70, Tryz.ntmps70
  go_wp2
  refine wp_loop_rounds 3 ?_
  rw [rounds_succ]
  go_wp2_with (go_at_call 81; (refine (HA.out _).mono ?_); rintro e w1 ⟨rfl, hb⟩; have hz := hb.size; (try simp only [szA, szS, szD, szN] at hz); (try (refine bcB (n := w.heap.size) hb ?_; intro h_w_0 e_w_0 d_w_0 _ _)); (try (refine bcB (n := w.heap.size + 1) hb ?_; intro h_w_1 e_w_1 d_w_1 _ _)); (try (refine bcB (n := w.heap.size + 1 + 1) hb ?_; intro h_w_2 e_w_2 d_w_2 _ _)))
  go_ret2
  refine ⟨rfl, ?_⟩
  exact belz
theorem c_Earlier_b (al ah bl bh x : Int) (w : World) (ha : spanErr al ah = 0) (hb' : spanErr bl bh = x) (hx : x ≠ 0) :
    Calls Tryz.prog 70 #[.agg #[.int .i64 al, .int .i64 ah], .agg #[.int .i64 bl, .int .i64 bh]] w fun e w' => e = .returned (.tuple #[.int .i64 0, .int .i64 x]) ∧ Below w.heap.size w w' := by
  have i0 : ∀ w, (Instr.index 86 (.agg #[.int .i64 al, .int .i64 ah, .int .i64 bl, .int .i64 bh]) (.int .i64 0)).run Tryz.prog w = .ok (.agg #[.int .i64 al, .int .i64 ah]) w := fun _ => by kernel_rfl
  have i1 : ∀ w, (Instr.index 86 (.agg #[.int .i64 al, .int .i64 ah, .int .i64 bl, .int .i64 bh]) (.int .i64 1)).run Tryz.prog w = .ok (.agg #[.int .i64 bl, .int .i64 bh]) w := fun _ => by kernel_rfl
  have hA := fun w1 => c_intervalCheck al ah w1
  have hB := fun w1 => c_intervalCheck bl bh w1
  rw [ha] at hA
  rw [hb'] at hB
  have HA := Lib.hid hA
  have HB := Lib.hid hB
  have hx1 : (x != 0) = true := by simpa using hx
  clear hA hB ha hb' hx
  have hgen := sgen; have hgen2 := sgen2; have hgen3 := sgen3; go_enter Tryz.func70, Tryz.ntmps70
  go_wp2
  refine wp_loop_rounds 3 ?_
  rw [rounds_succ]
  go_wp2_with (go_at_call 81; (refine (HA.out _).mono ?_); rintro e w1 ⟨rfl, hb⟩; have hz := hb.size; (try simp only [szA, szS, szD, szN] at hz); (try (refine bcB (n := w.heap.size) hb ?_; intro h_w_0 e_w_0 d_w_0 _ _)); (try (refine bcB (n := w.heap.size + 1) hb ?_; intro h_w_1 e_w_1 d_w_1 _ _)); (try (refine bcB (n := w.heap.size + 1 + 1) hb ?_; intro h_w_2 e_w_2 d_w_2 _ _)))
  rw [rounds_succ]
  go_wp2_with (go_at_call 81; (refine (HB.out _).mono ?_); rintro e w2 ⟨rfl, hb⟩; have hz := hb.size; (try simp only [szA, szS, szD, szN] at hz); (try (refine bcB (n := w.heap.size) hb ?_; intro h_w_0 e_w_0 d_w_0 _ _)); (try (refine bcB (n := w.heap.size + 1) hb ?_; intro h_w_1 e_w_1 d_w_1 _ _)); (try (refine bcB (n := w.heap.size + 1 + 1) hb ?_; intro h_w_2 e_w_2 d_w_2 _ _)); (try (refine bcB (n := w1.heap.size) hb ?_; intro h_w1_0 e_w1_0 d_w1_0 _ _)); (try (refine bcB (n := w1.heap.size + 1) hb ?_; intro h_w1_1 e_w1_1 d_w1_1 _ _)))
  go_ret2
  refine ⟨rfl, ?_⟩
  exact belz
theorem c_sharpenWorks (w : World) (hT : Tab w) : Calls Tryz.prog 37 #[] w fun e w' => e = .returned (.bool true) ∧ Below w.heap.size w w' := by
  obtain ⟨f1, f2, f3, f4⟩ := sh_fix
  have hS := fun w1 (h : Tab w1) => c_shS 0 2000 500000 w1 h (by omega) (by omega) (by omega) (by omega) (by omega) (by omega)
  have e : shV (shS 0 2000 500000) = .tuple #[.agg #[.int .i64 (shS 0 2000 500000).lo, .int .i64 (shS 0 2000 500000).hi], .int .i64 0] := by unfold shV; rw [if_pos f1]
  rw [e] at hS
  have HS := Lib.hid hS
  have HH := Lib.hid (fun w1 => c_has1 (shS 0 2000 500000).lo (shS 0 2000 500000).hi 63089219834394 500000 w1 f2 f3 f4 (by omega) (by omega))
  have HE := Lib.hid (fun w1 => c_Earlier 1 2 3 4 w1 (by decide) (by decide))
  rw [show eaN 1 2 3 4 = -1 from rfl, show eaE 1 2 3 4 = 0 from rfl] at HE
  have HT := Lib.hid hT
  clear hT hS e f1
  generalize shS 0 2000 500000 = R at *
  have hgen := sgen; have hgen2 := sgen2; have hgen3 := sgen3; go_enter Tryz.func37, Tryz.ntmps37
  go_wp2_with (first | (go_at_call 69; (refine (HS.out _ (HT.out.below (by exact belz))).mono ?_); rintro e w1 ⟨rfl, hb⟩; have hz := hb.size; (try simp only [szA, szS, szD, szN] at hz); (try (refine bcB (n := w.heap.size) hb ?_; intro h_w_0 e_w_0 d_w_0 _ _))) | (go_at_call 70; (refine (HE.out _).mono ?_); rintro e w2 ⟨rfl, hb⟩; have hz := hb.size; (try simp only [szA, szS, szD, szN] at hz); (try (refine bcB (n := w.heap.size) hb ?_; intro h_w_0 e_w_0 d_w_0 _ _)); (try (refine bcB (n := w1.heap.size) hb ?_; intro h_w1_0 e_w1_0 d_w1_0 _ _)); (try (refine bcB (n := w1.heap.size + 1) hb ?_; intro h_w1_1 e_w1_1 d_w1_1 _ _))) | (go_at_call 45; (refine (HH.out _).mono ?_); rintro e w3 ⟨rfl, hb⟩; have hz := hb.size; (try simp only [szA, szS, szD, szN] at hz); (try (refine bcB (n := w.heap.size) hb ?_; intro h_w_0 e_w_0 d_w_0 _ _)); (try (refine bcB (n := w1.heap.size) hb ?_; intro h_w1_0 e_w1_0 d_w1_0 _ _)); (try (refine bcB (n := w1.heap.size + 1) hb ?_; intro h_w1_1 e_w1_1 d_w1_1 _ _)); (try (refine bcB (n := w2.heap.size) hb ?_; intro h_w2_0 e_w2_0 d_w2_0 _ _))))
  go_ret
  refine ⟨rfl, ?_⟩
  exact belz
end
end Go.Proofs.YtmjdcabniefifaaGreatDoor
