/- Contracts of series.Side and of the functions that tell on which side of a passage an instant is. Contracts of phase.find, phase.Find, season.Next, line.NewYear and season.Find. Contracts of season.Next. Contracts of line.NewYear, of the reference's NewYear, of the law's ahead and beyond. The sun at the new year; the season of the fixed example. No program in sight. Contracts of season.Find and seasonWorks; the walks through the laws SeasonFinds and SeasonNexts. -/
import Derived.Test.YtcgnhnmigmdalaaGreatDoorNrA
import Derived.Test.YtcgnhnmigmdalaaGreatDoorSmA
import Derived.Test.YtcgnhnmigmdalaaGreatDoorGwA
import Derived.Test.YtcgnhnmigmdalaaGreatDoorWkA
import Derived.Test.YtcgnhnmigmdalaaGreatDoorWkD
import Derived.Deep.LoopGhost
set_option linter.unusedVariables false
set_option linter.unusedSimpArgs false
namespace Go.Proofs.YtcgnhnmigmdalaaGreatDoor
section
open Go.RowKit
set_option maxHeartbeats 1000000 in
theorem c_Side (lo hi tg : Int) (w : World) (l0 : 0 ≤ lo) (l1 : lo < 1000000000) (h0 : lo ≤ hi) (h1 : hi ≤ 3000000000) (t0 : 0 ≤ tg) (t1 : tg < 1000000000) :
    Calls Tryz.prog 127 #[.agg #[.int .i64 lo, .int .i64 hi], .int .i64 tg] w fun e w' => e = .returned (.int .i64 (sideV lo hi tg)) ∧ Below w.heap.size w w' := by
  have HM := Lib.hid (fun w1 => c_mod (lo - tg) 1000000000 w1 (by omega) (by omega) (by omega) (by omega))
  have q0 := Int.emod_nonneg (lo - tg) (show (1000000000 : Int) ≠ 0 by omega)
  have q1 := Int.emod_lt_of_pos (lo - tg) (show (0 : Int) < 1000000000 by omega)
  obtain ⟨v, hv⟩ : ∃ v, v = sideV lo hi tg := ⟨_, rfl⟩
  rw [← hv]
  unfold sideV at hv
  generalize (lo - tg) % 1000000000 = q at *
  have HV := Lib.hid hv
  clear hv
  have cases : (q = 0 ∧ v = 0) ∨ (q ≠ 0 ∧ 1000000000 ≤ q + (hi - lo) ∧ v = 0) ∨ (q ≠ 0 ∧ q + (hi - lo) < 1000000000 ∧ q ≤ 500000000 ∧ 500000000 ≤ q + (hi - lo) ∧ v = 2) ∨ (q ≠ 0 ∧ q + (hi - lo) < 1000000000 ∧ q < 500000000 ∧ q + (hi - lo) < 500000000 ∧ v = 1) ∨ (q ≠ 0 ∧ q + (hi - lo) < 1000000000 ∧ 500000000 < q ∧ v = -1) := by
    have hv := HV.out
    by_cases a : q = 0 ∨ 1000000000 ≤ q + (hi - lo)
    · rw [if_pos a] at hv; omega
    · rw [if_neg a] at hv
      by_cases b : q ≤ 500000000 ∧ 500000000 ≤ q + (hi - lo)
      · rw [if_pos b] at hv; omega
      · rw [if_neg b] at hv
        by_cases c : q < 500000000
        · rw [if_pos c] at hv; omega
        · rw [if_neg c] at hv; omega
  clear HV
  rcases cases with ⟨a1, rfl⟩ | ⟨a1, a2, rfl⟩ | ⟨a1, a2, a3, a4, rfl⟩ | ⟨a1, a2, a3, a4, rfl⟩ | ⟨a1, a2, a3, rfl⟩
  · subst a1
    have hgen := sgen; have hgen2 := sgen2; have hgen3 := sgen3; go_enter Tryz.func127, Tryz.ntmps127
    go_wp2_with (go_at_call 102; (refine (Calls.belowOf (HM.out _)).mono ?_); rintro e w1 ⟨rfl, hb⟩; have hz := hb.size; (try simp only [szA, szS, szD, szN] at hz); (try (refine bcB (n := w.heap.size) hb ?_; intro h_w_0 e_w_0 d_w_0 _ _)))
    go_ret
    refine ⟨rfl, ?_⟩
    exact belz
  · have f1 : (q == 0) = false := by simpa using a1
    have f2 : decide (1000000000 ≤ q + (hi - lo)) = true := decide_eq_true a2
    have hgen := sgen; have hgen2 := sgen2; have hgen3 := sgen3; go_enter Tryz.func127, Tryz.ntmps127
    go_wp2_with (go_at_call 102; (refine (Calls.belowOf (HM.out _)).mono ?_); rintro e w1 ⟨rfl, hb⟩; have hz := hb.size; (try simp only [szA, szS, szD, szN] at hz); (try (refine bcB (n := w.heap.size) hb ?_; intro h_w_0 e_w_0 d_w_0 _ _)))
    go_ret
    refine ⟨rfl, ?_⟩
    exact belz
  · have f1 : (q == 0) = false := by simpa using a1
    have f2 : decide (1000000000 ≤ q + (hi - lo)) = false := decide_eq_false (by omega)
    have f3 : decide (q ≤ 500000000) = true := decide_eq_true a3
    have f4 : decide (500000000 ≤ q + (hi - lo)) = true := decide_eq_true a4
    have hgen := sgen; have hgen2 := sgen2; have hgen3 := sgen3; go_enter Tryz.func127, Tryz.ntmps127
    go_wp2_with (go_at_call 102; (refine (Calls.belowOf (HM.out _)).mono ?_); rintro e w1 ⟨rfl, hb⟩; have hz := hb.size; (try simp only [szA, szS, szD, szN] at hz); (try (refine bcB (n := w.heap.size) hb ?_; intro h_w_0 e_w_0 d_w_0 _ _)))
    go_ret
    refine ⟨rfl, ?_⟩
    exact belz
  · have f1 : (q == 0) = false := by simpa using a1
    have f2 : decide (1000000000 ≤ q + (hi - lo)) = false := decide_eq_false (by omega)
    have f3 : decide (q ≤ 500000000) = true := decide_eq_true (by omega)
    have f4 : decide (500000000 ≤ q + (hi - lo)) = false := decide_eq_false (by omega)
    have f5 : decide (q < 500000000) = true := decide_eq_true a3
    have hgen := sgen; have hgen2 := sgen2; have hgen3 := sgen3; go_enter Tryz.func127, Tryz.ntmps127
    go_wp2_with (go_at_call 102; (refine (Calls.belowOf (HM.out _)).mono ?_); rintro e w1 ⟨rfl, hb⟩; have hz := hb.size; (try simp only [szA, szS, szD, szN] at hz); (try (refine bcB (n := w.heap.size) hb ?_; intro h_w_0 e_w_0 d_w_0 _ _)))
    go_ret
    refine ⟨rfl, ?_⟩
    exact belz
  · have f1 : (q == 0) = false := by simpa using a1
    have f2 : decide (1000000000 ≤ q + (hi - lo)) = false := decide_eq_false (by omega)
    have f3 : decide (q ≤ 500000000) = false := decide_eq_false (by omega)
    have f5 : decide (q < 500000000) = false := decide_eq_false (by omega)
    have hgen := sgen; have hgen2 := sgen2; have hgen3 := sgen3; go_enter Tryz.func127, Tryz.ntmps127
    go_wp2_with (go_at_call 102; (refine (Calls.belowOf (HM.out _)).mono ?_); rintro e w1 ⟨rfl, hb⟩; have hz := hb.size; (try simp only [szA, szS, szD, szN] at hz); (try (refine bcB (n := w.heap.size) hb ?_; intro h_w_0 e_w_0 d_w_0 _ _)))
    go_ret
    refine ⟨rfl, ?_⟩
    exact belz
theorem c_next1 (b : Nat) (tg x : Int) (w : World) (hT : Tab w) (hx : instB x = true) (hbl : b < w.heap.size) (hc : w.cell? ⟨b, 0, none⟩ = some (.int .i64 tg)) (t0 : 0 ≤ tg) (t1 : tg < 1000000000) :
    Calls Tryz.prog 129 #[.int .i64 x, .pointer (some ⟨b, 0, none⟩)] w fun e w' => e = .returned (.int .i64 (sunSide tg x)) ∧ Below w.heap.size w w' := by
  obtain ⟨q1, q2, -, q3, -, -, q6⟩ := sun_facts x
  have HB := Lib.hid (fun w1 (h : Tab w1) => c_sunLongitude x w1 h hx)
  have HS := Lib.hid (fun w1 => c_Side (sunLo x) (sunHi x) tg w1 q1 q2 q6 (by omega) t0 t1)
  rw [show sideV (sunLo x) (sunHi x) tg = sunSide tg x from rfl] at HS
  have HT := Lib.hid hT
  clear hT hx q1 q2 q3 q6
  generalize sunSide tg x = sv at *
  generalize sunLo x = b1 at *
  generalize sunHi x = b2 at *
  have hgen := sgen; have hgen2 := sgen2; have hgen3 := sgen3; go_enter Tryz.func129, Tryz.ntmps129
  go_wp2_with (first | (go_at_call 46; (refine (HB.out _ (HT.out.below (by exact belz))).mono ?_); rintro e w1 ⟨rfl, hb⟩; have hz := hb.size; (try simp only [szA, szS, szD, szN] at hz); (try (refine bcB (n := b) hb ?_; intro h_bb_0 e_bb_0 d_bb_0 _ _)); (try (refine bcB (n := w.heap.size) hb ?_; intro h_w_0 e_w_0 d_w_0 _ _))) | (go_at_call 127; (refine (HS.out _).mono ?_); rintro e w2 ⟨rfl, hb⟩; have hz := hb.size; (try simp only [szA, szS, szD, szN] at hz); (try (refine bcB (n := b) hb ?_; intro h_bb_0 e_bb_0 d_bb_0 _ _)); (try (refine bcB (n := w.heap.size) hb ?_; intro h_w_0 e_w_0 d_w_0 _ _)); (try (refine bcB (n := w1.heap.size) hb ?_; intro h_w1_0 e_w1_0 d_w1_0 _ _))))
  go_ret
  refine ⟨rfl, ?_⟩
  exact belz
theorem call_next1 (args : Array Value) (w : World) : (callFunc 129 args).run Tryz.prog w = .ok (.enter 129 args) w := by
  go_simp
def elSide (tg x : Int) : Int := sideV (elLo x) (elHi x) tg
theorem c_pfind1 (b : Nat) (q x : Int) (w : World) (hT : Tab w) (hx : instB x = true) (hbl : b < w.heap.size) (hc : w.cell? ⟨b, 0, none⟩ = some (.int .i64 q)) (t0 : 0 ≤ q) (t1 : q ≤ 3) :
    Calls Tryz.prog 126 #[.int .i64 x, .pointer (some ⟨b, 0, none⟩)] w fun e w' => e = .returned (.int .i64 (elSide (q * 250000000) x)) ∧ Below w.heap.size w w' := by
  obtain ⟨p1, p2, -, p3, p4, p5, p6⟩ := moon_facts x
  obtain ⟨q1, q2, -, q3, q4, q5, q6⟩ := sun_facts x
  have g0 : 0 ≤ elLo x := by unfold elLo; omega
  have g1 : elLo x < 1000000000 := by unfold elLo; omega
  have g2 : elHi x - elLo x ≤ 44006 := by unfold elHi; omega
  have g3 : elLo x ≤ elHi x := by unfold elHi; omega
  have HB := Lib.hid (fun w1 (h : Tab w1) => c_Elongation x w1 h hx)
  have HS := Lib.hid (fun w1 => c_Side (elLo x) (elHi x) (q * 250000000) w1 g0 g1 g3 (by omega) (by omega) (by omega))
  rw [show sideV (elLo x) (elHi x) (q * 250000000) = elSide (q * 250000000) x from rfl] at HS
  have HT := Lib.hid hT
  have e1 : q * 1000000000 / 4 = q * 250000000 := by omega
  have e2 : (q * 1000000000).tdiv 4 = q * 250000000 := by rw [Int.tdiv_eq_ediv_of_nonneg (by omega)]; omega
  clear hT hx q1 q2 q3 q4 q5 q6 p1 p2 p3 p4 p5 p6 g0 g1 g2 g3
  generalize elSide (q * 250000000) x = sv at *
  generalize elLo x = b1 at *
  generalize elHi x = b2 at *
  have hgen := sgen; have hgen2 := sgen2; have hgen3 := sgen3; go_enter Tryz.func126, Tryz.ntmps126
  go_wp2_with (first | (go_at_call 98; (refine (HB.out _ (HT.out.below (by exact belz))).mono ?_); rintro e w1 ⟨rfl, hb⟩; have hz := hb.size; (try simp only [szA, szS, szD, szN] at hz); (try (refine bcB (n := b) hb ?_; intro h_bb_0 e_bb_0 d_bb_0 _ _)); (try (refine bcB (n := w.heap.size) hb ?_; intro h_w_0 e_w_0 d_w_0 _ _))) | (go_at_call 127; (refine (HS.out _).mono ?_); rintro e w2 ⟨rfl, hb⟩; have hz := hb.size; (try simp only [szA, szS, szD, szN] at hz); (try (refine bcB (n := b) hb ?_; intro h_bb_0 e_bb_0 d_bb_0 _ _)); (try (refine bcB (n := w.heap.size) hb ?_; intro h_w_0 e_w_0 d_w_0 _ _)); (try (refine bcB (n := w1.heap.size) hb ?_; intro h_w1_0 e_w1_0 d_w1_0 _ _))))
  go_ret
  refine ⟨rfl, ?_⟩
  exact belz
theorem call_pfind1 (args : Array Value) (w : World) : (callFunc 126 args).run Tryz.prog w = .ok (.enter 126 args) w := by
  go_simp
end
section
open Go.RowKit
theorem kept_tab : Kept Tab := fun _ _ h hb => h.below hb
theorem inst_of {x : Int} (h1 : -345600000000000 ≤ x) (h2 : x < 345600086400000) : instB x = true := by unfold instB; exact decide_eq_true (by omega)
def phMid (n q : Int) : Int := 977949455 + 2551442878 * n + 637860719 * q
def phR (n q : Int) : NarR := narF (elSide (q * 250000000)) 600000 62 (phMid n q - 172800000) (phMid n q + 172800000)
set_option maxHeartbeats 1000000 in
theorem c_pfind (n q : Int) (w : World) (hT : Tab w) (n0 : -100000 ≤ n) (n1 : n ≤ 100000) (q0 : 0 ≤ q) (q1 : q ≤ 3) :
    Calls Tryz.prog 105 #[.int .i64 n, .int .i64 q] w fun e w' => e = .returned (.agg #[.int .i64 (phR n q).lo, .int .i64 (phR n q).hi]) ∧ Below w.heap.size w w' := by
  have HN := Lib.hid (fun w1 (hw : Tab w1 ∧ w.heap.size < w1.heap.size ∧ w1.cell? ⟨w.heap.size, 0, none⟩ = some (.int .i64 q)) => c_Narrow 126 (.pointer (some ⟨w.heap.size, 0, none⟩)) (elSide (q * 250000000)) _ (phMid n q - 172800000) (phMid n q + 172800000) 600000 w1 (kept_cell kept_tab w.heap.size (.int .i64 q)) hw (by unfold phMid; omega) (by omega) (by unfold phMid; omega) call_pfind1 (by omega) (by omega) (fun w2 x h2 x1 x2 => c_pfind1 w.heap.size q x w2 h2.1 (inst_of (by unfold phMid at *; omega) (by unfold phMid at *; omega)) h2.2.1 h2.2.2 q0 q1))
  rw [show narF (elSide (q * 250000000)) 600000 62 (phMid n q - 172800000) (phMid n q + 172800000) = phR n q from rfl] at HN
  unfold phMid at HN
  generalize phR n q = R at *
  have HT := Lib.hid hT
  clear hT
  have hgen := sgen; have hgen2 := sgen2; have hgen3 := sgen3; go_enter Tryz.func105, Tryz.ntmps105
  go_wp2_with (go_at_call 82; (refine (HN.out _ ⟨HT.out.below (by exact belz), by go_simp, by go_simp⟩).mono ?_); rintro e w1 ⟨rfl, hb⟩; have hz := hb.size; (try simp only [szA, szS, szD, szN] at hz); (try (refine bcB (n := w.heap.size) hb ?_; intro h_w_0 e_w_0 d_w_0 _ _)); (try (refine bcB (n := w.heap.size + 1) hb ?_; intro h_w_1 e_w_1 d_w_1 _ _)))
  refine bodyPost_ret (v := .agg #[.int .i64 R.lo, .int .i64 R.hi]) (by simp only [results, Tryz.results105]; go_simp) rfl ⟨rfl, ?_⟩
  exact belz
theorem c_pinRange (n : Int) (w : World) (v : Bool) (hv : v = decide (-100000 ≤ n ∧ n ≤ 100000)) : Calls Tryz.prog 104 #[.int .i64 n] w fun e w' => e = .returned (.bool v) ∧ Below w.heap.size w w' := by
  by_cases a : -100000 ≤ n
  · have f1 : decide (-100000 ≤ n) = true := decide_eq_true a
    by_cases b : n ≤ 100000
    · have f2 : decide (n ≤ 100000) = true := decide_eq_true b
      have e : v = true := by rw [hv]; exact decide_eq_true ⟨a, b⟩
      subst e
      clear hv
      have hgen := sgen; have hgen2 := sgen2; have hgen3 := sgen3; go_enter Tryz.func104, Tryz.ntmps104
      go_wp2
      go_ret
      exact ⟨rfl, Below.refl _ _⟩
    · have f2 : decide (n ≤ 100000) = false := decide_eq_false b
      have e : v = false := by rw [hv]; exact decide_eq_false (by omega)
      subst e
      clear hv
      have hgen := sgen; have hgen2 := sgen2; have hgen3 := sgen3; go_enter Tryz.func104, Tryz.ntmps104
      go_wp2
      go_ret
      exact ⟨rfl, Below.refl _ _⟩
  · have f1 : decide (-100000 ≤ n) = false := decide_eq_false a
    have e : v = false := by rw [hv]; exact decide_eq_false (by omega)
    subst e
    clear hv
    have hgen := sgen; have hgen2 := sgen2; have hgen3 := sgen3; go_enter Tryz.func104, Tryz.ntmps104
    go_wp2
    go_ret
    exact ⟨rfl, Below.refl _ _⟩
theorem c_pFind_ok (n q : Int) (w : World) (hT : Tab w) (n0 : -100000 ≤ n) (n1 : n ≤ 100000) (q0 : 0 ≤ q) (q1 : q ≤ 3) :
    Calls Tryz.prog 72 #[.int .i64 n, .int .i64 q] w fun e w' => e = .returned (.tuple #[.agg #[.int .i64 (phR n q).lo, .int .i64 (phR n q).hi], .int .i64 0]) ∧ Below w.heap.size w w' := by
  have HI := Lib.hid (fun w1 => c_pinRange n w1 true (decide_eq_true ⟨n0, n1⟩).symm)
  have HF := Lib.hid (fun w1 (h : Tab w1) => c_pfind n q w1 h n0 n1 q0 q1)
  have f1 : decide (q < 0) = false := decide_eq_false (by omega)
  have f2 : decide (3 < q) = false := decide_eq_false (by omega)
  have HT := Lib.hid hT
  clear hT
  generalize phR n q = R at *
  have hgen := sgen; have hgen2 := sgen2; have hgen3 := sgen3; go_enter Tryz.func72, Tryz.ntmps72
  go_wp2_with (first | (go_at_call 104; (refine (HI.out _).mono ?_); rintro e w1 ⟨rfl, hb⟩; have hz := hb.size; (try simp only [szA, szS, szD, szN] at hz); (try (refine bcB (n := w.heap.size) hb ?_; intro h_w_0 e_w_0 d_w_0 _ _)); (try (refine bcB (n := w.heap.size + 1) hb ?_; intro h_w_1 e_w_1 d_w_1 _ _))) | (go_at_call 105; (refine (HF.out _ (HT.out.below (by exact belz))).mono ?_); rintro e w2 ⟨rfl, hb⟩; have hz := hb.size; (try simp only [szA, szS, szD, szN] at hz); (try (refine bcB (n := w.heap.size) hb ?_; intro h_w_0 e_w_0 d_w_0 _ _)); (try (refine bcB (n := w.heap.size + 1) hb ?_; intro h_w_1 e_w_1 d_w_1 _ _)); (try (refine bcB (n := w1.heap.size) hb ?_; intro h_w1_0 e_w1_0 d_w1_0 _ _))))
  refine bodyPost_ret (v := .tuple #[.agg #[.int .i64 R.lo, .int .i64 R.hi], .int .i64 0]) (by simp only [results, Tryz.results72]; go_simp) rfl ⟨rfl, ?_⟩
  exact belz
end
section
open Go.RowKit
/-- The instants of which season.Next speaks. -/
def seaB (t : Int) : Bool := instB t && instB (t - 1728000000) && instB (t + 34560000000)
theorem sea_inst {t : Int} (h : seaB t = true) : instB t = true ∧ instB (t - 1728000000) = true ∧ instB (t + 34560000000) = true := by
  unfold seaB at h
  cases a : instB t <;> cases b : instB (t - 1728000000) <;> cases c : instB (t + 34560000000) <;> rw [a, b, c] at h <;> first | exact ⟨rfl, rfl, rfl⟩ | (exact absurd h (by decide))
/-- What the next passage is. -/
def snM (tg t : Int) : Int := (tg - sunLo t) % 1000000000
def snR (tg t : Int) : NarR := narF (sunSide tg) 600000 62 (seaLo t (waitF (snM tg t))) (seaHi t (waitF (snM tg t)))
theorem snR_ok {tg t : Int} (t0 : 0 ≤ tg) (t1 : tg < 1000000000) (hs : sunSide tg t ≠ 0) : SeaOk tg t (waitF (snM tg t)) (sL t + snM tg t) (snR tg t) := by
  have m0 : 0 ≤ snM tg t := Int.emod_nonneg _ (by omega)
  have m1 : snM tg t < 1000000000 := Int.emod_lt_of_pos _ (by omega)
  obtain ⟨q, -, -, -, w1, w2, -⟩ := wait_run m0 m1
  exact sea_ok t0 t1 rfl hs w1 w2
set_option maxRecDepth 100000 in
set_option maxHeartbeats 2000000 in
theorem c_sNext_ok (tg t : Int) (w : World) (hT : Tab w) (t0 : 0 ≤ tg) (t1 : tg < 1000000000) (h : seaB t = true) (hs : sunSide tg t ≠ 0) :
    Calls Tryz.prog 108 #[.int .i64 tg, .int .i64 t] w fun e w' => e = .returned (.tuple #[.agg #[.int .i64 (snR tg t).lo, .int .i64 (snR tg t).hi], .int .i64 0]) ∧ Below w.heap.size w w' := by
  have f1 : decide (tg < 0) = false := decide_eq_false (by omega)
  have f2 : decide (1000000000 ≤ tg) = false := decide_eq_false (by omega)
  obtain ⟨ha, hb, hc⟩ := sea_inst h
  obtain ⟨b1, b2⟩ := inst_bd ha
  obtain ⟨b3, b4⟩ := inst_bd hc
  have HA := Lib.hid (fun w1 => c_isInst t w1 (by omega) (by omega))
  have HB := Lib.hid (fun w1 => c_isInst (t - 1728000000) w1 (by omega) (by omega))
  have HC := Lib.hid (fun w1 => c_isInst (t + 34560000000) w1 (by omega) (by omega))
  rw [ha] at HA
  rw [hb] at HB
  rw [hc] at HC
  have hS := fun w1 (hT1 : Tab w1) hl hcell => c_next1 w.heap.size tg t w1 hT1 ha hl hcell t0 t1
  have HS := Lib.hid hS
  have hs0 : (sunSide tg t == 0) = false := by simpa using hs
  have his := (snR_ok t0 t1 hs).is
  have hia : -345600000000000 ≤ t ∧ t + 34560000000 < 345600086400000 := by
    unfold instB at ha hc
    have := of_decide_eq_true ha
    have := of_decide_eq_true hc
    omega
  have HI := Lib.hid (fun x (x1 : t ≤ x) (x2 : x ≤ t + 34560000000) => inst_of (x := x) (by omega) (by omega))
  have m0 : 0 ≤ snM tg t := Int.emod_nonneg _ (by omega)
  have m1 : snM tg t < 1000000000 := Int.emod_lt_of_pos _ (by omega)
  obtain ⟨q, e1, e2, e3, w1, w2, hw0⟩ := wait_run m0 m1
  have HSL := Lib.hid (fun w1 (h : Tab w1) => c_sunLongitude t w1 h ha)
  obtain ⟨p1, p2, -, p3, -, -, p6⟩ := sun_facts t
  have HM := Lib.hid (fun w1 => c_mod (tg - sunLo t) 1000000000 w1 (by omega) (by omega) (by omega) (by omega))
  rw [show (tg - sunLo t) % 1000000000 = snM tg t from rfl] at HM
  obtain ⟨R, hR⟩ : ∃ R, R = snR tg t := ⟨_, rfl⟩
  rw [← hR] at his ⊢
  unfold snR at hR
  generalize snM tg t = M at *
  have wb : 0 ≤ waitF M + 2 ∧ waitF M ≤ 31700000000 := by omega
  have r3 := hcut e3 (by omega) (by omega)
  have r1 : ∀ t w, (binOp .quo t (.float .f64 (fofI M)) (.float .f64 4703134026798884454)).run Tryz.prog w = .ok (.float .f64 q) w := hdiv e1
  have r2 : ∀ t w, (binOp .mul t (.float .f64 q) (.float .f64 4725570615333879808)).run Tryz.prog w = .ok (.float .f64 (waitW M)) w := hmul e2
  obtain ⟨xM, hxM⟩ : ∃ z, fofI M = z := ⟨_, rfl⟩
  have r0 : floatOfInt .f64 M = xM := hxM
  rw [hxM] at r1
  generalize waitW M = ww at *
  generalize waitF M = wt at *
  have HT := Lib.hid hT
  have HN := Lib.hid (fun w1 (hw : Tab w1 ∧ w.heap.size < w1.heap.size ∧ w1.cell? ⟨w.heap.size, 0, none⟩ = some (.int .i64 tg)) => c_Narrow 129 (.pointer (some ⟨w.heap.size, 0, none⟩)) (sunSide tg) _ (seaLo t wt) (seaHi t wt) 600000 w1 (kept_cell kept_tab w.heap.size (.int .i64 tg)) hw (by unfold seaLo; omega) (by unfold seaLo seaHi; omega) (by unfold seaHi; omega) call_next1 (by omega) (by omega) (fun w2 x h2 x1 x2 => c_next1 w.heap.size tg x w2 h2.1 (HI.out x (by unfold seaLo at x1; omega) (by unfold seaHi at x2; omega)) h2.2.1 h2.2.2 t0 t1))
  rw [← hR] at HN
  unfold seaLo seaHi at HN
  have HRI := Lib.hid his
  clear hT ha hb hc hs hS h e1 e2 e3 hxM hR HI w1 w2
  generalize sunSide tg t = sv at *
  generalize sunLo t = s0 at *
  generalize sunHi t = s1 at *
  have hRI := HRI.out
  have hgen := sgen; have hgen2 := sgen2; have hgen3 := sgen3; go_enter Tryz.func108, Tryz.ntmps108
  go_wp2_with (first | (go_at_call 54; (with_reducible refine (HA.out _).mono ?_); rintro e w1 ⟨rfl, hb⟩; have hz := hb.size; (try simp only [szA, szS, szD, szN] at hz); (try (refine bcB (n := w.heap.size) hb ?_; intro h_w_0 e_w_0 d_w_0 _ _)); (try (refine bcB (n := w.heap.size + 1) hb ?_; intro h_w_1 e_w_1 d_w_1 _ _)); (try (refine bcB (n := w.heap.size + 1 + 1) hb ?_; intro h_w_2 e_w_2 d_w_2 _ _))) | (go_at_call 54; (with_reducible refine (HB.out _).mono ?_); rintro e w2 ⟨rfl, hb⟩; have hz := hb.size; (try simp only [szA, szS, szD, szN] at hz); (try (refine bcB (n := w.heap.size) hb ?_; intro h_w_0 e_w_0 d_w_0 _ _)); (try (refine bcB (n := w.heap.size + 1) hb ?_; intro h_w_1 e_w_1 d_w_1 _ _)); (try (refine bcB (n := w.heap.size + 1 + 1) hb ?_; intro h_w_2 e_w_2 d_w_2 _ _)); (try (refine bcB (n := w1.heap.size) hb ?_; intro h_w1_0 e_w1_0 d_w1_0 _ _))) | (go_at_call 54; (with_reducible refine (HC.out _).mono ?_); rintro e w3 ⟨rfl, hb⟩; have hz := hb.size; (try simp only [szA, szS, szD, szN] at hz); (try (refine bcB (n := w.heap.size) hb ?_; intro h_w_0 e_w_0 d_w_0 _ _)); (try (refine bcB (n := w.heap.size + 1) hb ?_; intro h_w_1 e_w_1 d_w_1 _ _)); (try (refine bcB (n := w.heap.size + 1 + 1) hb ?_; intro h_w_2 e_w_2 d_w_2 _ _)); (try (refine bcB (n := w1.heap.size) hb ?_; intro h_w1_0 e_w1_0 d_w1_0 _ _)); (try (refine bcB (n := w2.heap.size) hb ?_; intro h_w2_0 e_w2_0 d_w2_0 _ _))) | (go_at_call 129; (refine (HS.out _ (HT.out.below (by exact belz)) (by omega) (by go_simp)).mono ?_); rintro e w4 ⟨rfl, hb⟩; have hz := hb.size; (try simp only [szA, szS, szD, szN] at hz); (try (refine bcB (n := w.heap.size) hb ?_; intro h_w_0 e_w_0 d_w_0 _ _)); (try (refine bcB (n := w.heap.size + 1) hb ?_; intro h_w_1 e_w_1 d_w_1 _ _)); (try (refine bcB (n := w.heap.size + 1 + 1) hb ?_; intro h_w_2 e_w_2 d_w_2 _ _)); (try (refine bcB (n := w1.heap.size) hb ?_; intro h_w1_0 e_w1_0 d_w1_0 _ _)); (try (refine bcB (n := w2.heap.size) hb ?_; intro h_w2_0 e_w2_0 d_w2_0 _ _)); (try (refine bcB (n := w3.heap.size) hb ?_; intro h_w3_0 e_w3_0 d_w3_0 _ _))) | (go_at_call 46; (refine (HSL.out _ (HT.out.below (by exact belz))).mono ?_); rintro e w5 ⟨rfl, hb⟩; have hz := hb.size; (try simp only [szA, szS, szD, szN] at hz); (try (refine bcB (n := w.heap.size) hb ?_; intro h_w_0 e_w_0 d_w_0 _ _)); (try (refine bcB (n := w.heap.size + 1) hb ?_; intro h_w_1 e_w_1 d_w_1 _ _)); (try (refine bcB (n := w.heap.size + 1 + 1) hb ?_; intro h_w_2 e_w_2 d_w_2 _ _)); (try (refine bcB (n := w1.heap.size) hb ?_; intro h_w1_0 e_w1_0 d_w1_0 _ _)); (try (refine bcB (n := w2.heap.size) hb ?_; intro h_w2_0 e_w2_0 d_w2_0 _ _)); (try (refine bcB (n := w3.heap.size) hb ?_; intro h_w3_0 e_w3_0 d_w3_0 _ _)); (try (refine bcB (n := w4.heap.size) hb ?_; intro h_w4_0 e_w4_0 d_w4_0 _ _))) | (go_at_call 102; (refine (Calls.belowOf (HM.out _)).mono ?_); rintro e w6 ⟨rfl, hb⟩; have hz := hb.size; (try simp only [szA, szS, szD, szN] at hz); (try (refine bcB (n := w.heap.size) hb ?_; intro h_w_0 e_w_0 d_w_0 _ _)); (try (refine bcB (n := w.heap.size + 1) hb ?_; intro h_w_1 e_w_1 d_w_1 _ _)); (try (refine bcB (n := w.heap.size + 1 + 1) hb ?_; intro h_w_2 e_w_2 d_w_2 _ _)); (try (refine bcB (n := w1.heap.size) hb ?_; intro h_w1_0 e_w1_0 d_w1_0 _ _)); (try (refine bcB (n := w2.heap.size) hb ?_; intro h_w2_0 e_w2_0 d_w2_0 _ _)); (try (refine bcB (n := w3.heap.size) hb ?_; intro h_w3_0 e_w3_0 d_w3_0 _ _)); (try (refine bcB (n := w4.heap.size) hb ?_; intro h_w4_0 e_w4_0 d_w4_0 _ _)); (try (refine bcB (n := w5.heap.size) hb ?_; intro h_w5_0 e_w5_0 d_w5_0 _ _)); (try (refine bcB (n := w5.heap.size + 1) hb ?_; intro h_w5_1 e_w5_1 d_w5_1 _ _))) | (go_at_call 82; (with_reducible refine (HN.out _ ⟨HT.out.below (by exact belz), by omega, by go_simp⟩).mono ?_); rintro e w7 ⟨rfl, hb⟩; have hz := hb.size; (try simp only [szA, szS, szD, szN] at hz); (try (refine bcB (n := w.heap.size) hb ?_; intro h_w_0 e_w_0 d_w_0 _ _)); (try (refine bcB (n := w.heap.size + 1) hb ?_; intro h_w_1 e_w_1 d_w_1 _ _)); (try (refine bcB (n := w.heap.size + 1 + 1) hb ?_; intro h_w_2 e_w_2 d_w_2 _ _)); (try (refine bcB (n := w1.heap.size) hb ?_; intro h_w1_0 e_w1_0 d_w1_0 _ _)); (try (refine bcB (n := w2.heap.size) hb ?_; intro h_w2_0 e_w2_0 d_w2_0 _ _)); (try (refine bcB (n := w3.heap.size) hb ?_; intro h_w3_0 e_w3_0 d_w3_0 _ _)); (try (refine bcB (n := w4.heap.size) hb ?_; intro h_w4_0 e_w4_0 d_w4_0 _ _)); (try (refine bcB (n := w5.heap.size) hb ?_; intro h_w5_0 e_w5_0 d_w5_0 _ _)); (try (refine bcB (n := w5.heap.size + 1) hb ?_; intro h_w5_1 e_w5_1 d_w5_1 _ _)); (try (refine bcB (n := w6.heap.size) hb ?_; intro h_w6_0 e_w6_0 d_w6_0 _ _))))
  refine bodyPost_ret (v := .tuple #[.agg #[.int .i64 R.lo, .int .i64 R.hi], .int .i64 0]) (by simp only [results, Tryz.results108]; go_simp) rfl ⟨rfl, ?_⟩
  exact belz
end
section
open Go.RowKit
def nyD (y : Int) : Int := 365 * (y - 1) + (y - 1) / 4 - (y - 1) / 100 + (y - 1) / 400 + 1
theorem nyD_bd (y : Int) : 146097 * (y - 1) - 300 ≤ 400 * nyD y ∧ 400 * nyD y ≤ 146097 * (y - 1) + 800 := by unfold nyD; omega
theorem c_lNewYear (y : Int) (w : World) (h1 : -20000 ≤ y) (h2 : y ≤ 20000) :
    Calls Tryz.prog 109 #[.int .i64 y] w fun e w' => e = .returned (.int .i64 (nyD y)) ∧ Below w.heap.size w w' := by
  have h3 := fun w1 => c_down (y - 1) 4 w1 (by omega) (by omega) (by omega) (by omega)
  have h4 := fun w1 => c_down (y - 1) 100 w1 (by omega) (by omega) (by omega) (by omega)
  have h5 := fun w1 => c_down (y - 1) 400 w1 (by omega) (by omega) (by omega) (by omega)
  have H3 := Lib.hid h3
  have H4 := Lib.hid h4
  have H5 := Lib.hid h5
  have e : nyD y = 365 * (y - 1) + (y - 1) / 4 - (y - 1) / 100 + (y - 1) / 400 + 1 := rfl
  rw [e]
  clear h3 h4 h5 e
  have b1 : -6000 ≤ (y - 1) / 4 ∧ (y - 1) / 4 ≤ 6000 := by omega
  have b2 : -6000 ≤ (y - 1) / 100 ∧ (y - 1) / 100 ≤ 6000 := by omega
  have b3 : -6000 ≤ (y - 1) / 400 ∧ (y - 1) / 400 ≤ 6000 := by omega
  generalize (y - 1) / 4 = q4 at *
  generalize (y - 1) / 100 = q1 at *
  generalize (y - 1) / 400 = q2 at *
  have hgen := sgen; have hgen2 := sgen2; have hgen3 := sgen3; go_enter Tryz.func109, Tryz.ntmps109
  go_wp2_with (first | (go_at_call 75; (with_reducible refine (Calls.belowOf (H3.out _)).mono ?_); rintro e w1 ⟨rfl, hb⟩; have hz := hb.size; (try simp only [szA, szS, szD, szN] at hz); (try (refine bcB (n := w.heap.size) hb ?_; intro h_w_0 e_w_0 d_w_0 _ _))) | (go_at_call 75; (with_reducible refine (Calls.belowOf (H4.out _)).mono ?_); rintro e w2 ⟨rfl, hb⟩; have hz := hb.size; (try simp only [szA, szS, szD, szN] at hz); (try (refine bcB (n := w.heap.size) hb ?_; intro h_w_0 e_w_0 d_w_0 _ _)); (try (refine bcB (n := w1.heap.size) hb ?_; intro h_w1_0 e_w1_0 d_w1_0 _ _))) | (go_at_call 75; (with_reducible refine (Calls.belowOf (H5.out _)).mono ?_); rintro e w3 ⟨rfl, hb⟩; have hz := hb.size; (try simp only [szA, szS, szD, szN] at hz); (try (refine bcB (n := w.heap.size) hb ?_; intro h_w_0 e_w_0 d_w_0 _ _)); (try (refine bcB (n := w1.heap.size) hb ?_; intro h_w1_0 e_w1_0 d_w1_0 _ _)); (try (refine bcB (n := w2.heap.size) hb ?_; intro h_w2_0 e_w2_0 d_w2_0 _ _))))
  go_ret
  refine ⟨rfl, ?_⟩
  exact belz
end
section
theorem sun_ny {y : Int} (h1 : -10000 ≤ y) (h2 : y ≤ 10000) : (y - 1) * 1000000000 + 755000000 ≤ sL (nyD y * 86400000) ∧ sL (nyD y * 86400000) ≤ (y - 1) * 1000000000 + 800000000 := by
  have m := sun_mean (nyD y * 86400000)
  have n := nyD_bd y
  generalize sL (nyD y * 86400000) = D at *
  generalize nyD y = d at *
  constructor <;> omega
theorem ny_seaB {y : Int} (h1 : -10000 ≤ y) (h2 : y ≤ 10000) : seaB (nyD y * 86400000) = true := by
  have n := nyD_bd y
  unfold seaB
  rw [inst_of (x := nyD y * 86400000) (by omega) (by omega), inst_of (x := nyD y * 86400000 - 1728000000) (by omega) (by omega), inst_of (x := nyD y * 86400000 + 34560000000) (by omega) (by omega)]
  rfl
theorem ny_side {y q : Int} (h1 : -10000 ≤ y) (h2 : y ≤ 10000) (q0 : 0 ≤ q) (q1 : q ≤ 3) : sunSide (q * 250000000) (nyD y * 86400000) ≠ 0 ∧ 190000000 ≤ snM (q * 250000000) (nyD y * 86400000) := by
  have n := sun_ny h1 h2
  obtain ⟨a, b⟩ := sun_lift (nyD y * 86400000)
  have w := sun_wd (nyD y * 86400000)
  unfold sunSide sideV snM
  rw [a]
  have hi : sunHi (nyD y * 86400000) = sL (nyD y * 86400000) % 1000000000 + (sH (nyD y * 86400000) - sL (nyD y * 86400000)) := by omega
  rw [hi]
  generalize sL (nyD y * 86400000) = L at *
  generalize sH (nyD y * 86400000) = H at *
  rcases (show q = 0 ∨ q = 1 ∨ q = 2 ∨ q = 3 by omega) with rfl | rfl | rfl | rfl
  all_goals
    refine ⟨?_, by omega⟩
    rw [if_neg (by omega)]
    split
    · omega
    · split <;> omega
/-- The season of a quarter of a year. -/
def seR (q y : Int) : NarR := snR (q * 250000000) (nyD y * 86400000)
structure SeasOk (tg T t : Int) (r : NarR) : Prop where
  tt : T % 1000000000 = tg % 1000000000
  a : t < r.lo
  b : r.lo < r.hi
  c : r.hi < t + 31708800000
  w : r.hi - r.lo ≤ 600000
  lo : sH r.lo < T
  lo4 : T - 400000000 < sL r.lo
  hi : T < sL r.hi
  hi4 : sL r.hi < T + 400000000
  und : ∀ x y, r.lo ≤ x → y ≤ r.hi → x + 132000 ≤ y → sunSide tg x ≠ -1 → sunSide tg y = 1
theorem seR_ok {y q : Int} (h1 : -10000 ≤ y) (h2 : y ≤ 10000) (q0 : 0 ≤ q) (q1 : q ≤ 3) : SeasOk (q * 250000000) (sL (nyD y * 86400000) + snM (q * 250000000) (nyD y * 86400000)) (nyD y * 86400000) (seR q y) := by
  obtain ⟨s1, s2⟩ := ny_side h1 h2 q0 q1
  have h := snR_ok (tg := q * 250000000) (t := nyD y * 86400000) (by omega) (by omega) s1
  have m0 : 0 ≤ snM (q * 250000000) (nyD y * 86400000) := Int.emod_nonneg _ (by omega)
  have m1 : snM (q * 250000000) (nyD y * 86400000) < 1000000000 := Int.emod_lt_of_pos _ (by omega)
  obtain ⟨-, -, -, -, w1, w2, -⟩ := wait_run m0 m1
  have hl : nyD y * 86400000 < seaLo (nyD y * 86400000) (waitF (snM (q * 250000000) (nyD y * 86400000))) := by unfold seaLo; omega
  have ha := h.ok.a
  have hb := h.ok.b
  have hc := h.ok.c
  have hw := h.ok.w h.is
  have hy := h.yr
  exact ⟨by have := h.tt; omega, by show _ < (snR _ _).lo; omega, hb, by show (snR _ _).hi < _; omega, hw, h.lo, h.lo4, h.hi, h.hi4, fun x y h1 h2 => h.und x y (Int.le_trans ha h1) (Int.le_trans h2 hc)⟩
theorem sea_has {tg T t X : Int} {r : NarR} (h : SeasOk tg T t r) (x1 : T - 3990 ≤ sL X) (x2 : sL X ≤ T - 10) : r.lo ≤ X ∧ X ≤ r.hi := by
  have hl := h.lo
  have hh := h.hi
  constructor
  · by_cases c : r.lo ≤ X
    · exact c
    · have g := sun_grow (x := X) (y := r.lo) (by omega)
      have w := sun_wd r.lo
      omega
  · by_cases c : X ≤ r.hi
    · exact c
    · have g := sun_grow (x := r.hi) (y := X) (by omega)
      omega
theorem sea_fix : sL 63082368000000 = 1999777421835 ∧ sL 63089219834394 = 1999999997999 ∧ snM 0 63082368000000 = 222578165 ∧ nyD 2000 * 86400000 = 63082368000000 := by decide +kernel
theorem sea_fix2 : (seR 0 2000).lo ≤ 63089219834394 ∧ 63089219834394 ≤ (seR 0 2000).hi := by
  obtain ⟨f1, f2, f3, f4⟩ := sea_fix
  have h := seR_ok (y := 2000) (q := 0) (by omega) (by omega) (by omega) (by omega)
  rw [f4, show (0 : Int) * 250000000 = 0 from rfl, f1, f3] at h
  exact sea_has h (by rw [f2]; omega) (by rw [f2]; omega)
end
section
open Go.RowKit
theorem c_sFind_ok (q y : Int) (w : World) (hT : Tab w) (q0 : 0 ≤ q) (q1 : q ≤ 3) (h1 : -10000 ≤ y) (h2 : y ≤ 10000) :
    Calls Tryz.prog 77 #[.int .i64 q, .int .i64 y] w fun e w' => e = .returned (.tuple #[.agg #[.int .i64 (seR q y).lo, .int .i64 (seR q y).hi], .int .i64 0]) ∧ Below w.heap.size w w' := by
  have f1 : decide (q < 0) = false := decide_eq_false (by omega)
  have f2 : decide (3 < q) = false := decide_eq_false (by omega)
  have f3 : decide (y < -10000) = false := decide_eq_false (by omega)
  have f4 : decide (10000 < y) = false := decide_eq_false (by omega)
  have HN := Lib.hid (fun w1 => c_lNewYear y w1 (by omega) (by omega))
  have HS := Lib.hid (fun w1 (h : Tab w1) => c_sNext_ok (q * 250000000) (nyD y * 86400000) w1 h (by omega) (by omega) (ny_seaB h1 h2) (ny_side h1 h2 q0 q1).1)
  rw [show snR (q * 250000000) (nyD y * 86400000) = seR q y from rfl] at HS
  have n := nyD_bd y
  have HT := Lib.hid hT
  have e2 : (q * 1000000000).tdiv 4 = q * 250000000 := by rw [Int.tdiv_eq_ediv_of_nonneg (by omega)]; omega
  have e3 : q * 1000000000 / 4 = q * 250000000 := by omega
  clear hT
  generalize seR q y = R at *
  generalize nyD y = d at *
  have hgen := sgen; have hgen2 := sgen2; have hgen3 := sgen3; go_enter Tryz.func77, Tryz.ntmps77
  go_wp2_with (first | (go_at_call 109; (refine (HN.out _).mono ?_); rintro e w1 ⟨rfl, hb⟩; have hz := hb.size; (try simp only [szA, szS, szD, szN] at hz); (try (refine bcB (n := w.heap.size) hb ?_; intro h_w_0 e_w_0 d_w_0 _ _)); (try (refine bcB (n := w.heap.size + 1) hb ?_; intro h_w_1 e_w_1 d_w_1 _ _))) | (go_at_call 108; (with_reducible refine (HS.out _ (HT.out.below (by exact belz))).mono ?_); rintro e w2 ⟨rfl, hb⟩; have hz := hb.size; (try simp only [szA, szS, szD, szN] at hz); (try (refine bcB (n := w.heap.size) hb ?_; intro h_w_0 e_w_0 d_w_0 _ _)); (try (refine bcB (n := w.heap.size + 1) hb ?_; intro h_w_1 e_w_1 d_w_1 _ _)); (try (refine bcB (n := w1.heap.size) hb ?_; intro h_w1_0 e_w1_0 d_w1_0 _ _))))
  refine bodyPost_ret (v := .tuple #[.agg #[.int .i64 R.lo, .int .i64 R.hi], .int .i64 0]) (by simp only [results, Tryz.results77]; go_simp) rfl ⟨rfl, ?_⟩
  exact belz
end
end Go.Proofs.YtcgnhnmigmdalaaGreatDoor
