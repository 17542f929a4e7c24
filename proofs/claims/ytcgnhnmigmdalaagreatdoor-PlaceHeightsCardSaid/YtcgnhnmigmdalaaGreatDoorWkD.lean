/- Contracts of series.Check, the reference's SumErr, series.bound and Bound. Contracts of series.bound and Bound. The contract of series.Part. The contract of series.value. Contracts of series.angle, Angle, Value, and of instants. Contracts of series.Angle and Value, and the laws' self-check seriesWorks. -/
import Derived.Test.YtcgnhnmigmdalaaGreatDoorWkB
import Derived.Test.YtcgnhnmigmdalaaGreatDoorFltD
import Derived.Test.YtcgnhnmigmdalaaGreatDoorWkA
import Derived.Deep.LoopGhost
import Derived.Test.YtcgnhnmigmdalaaGreatDoorWkC
import Derived.Deep.QuietTactic
import Derived.BigQuiet
set_option linter.unusedVariables false
set_option linter.unusedSimpArgs false
namespace Go.Proofs.YtcgnhnmigmdalaaGreatDoor
section
open Go.RowKit
abbrev sumV (m r : Int) (a : Option Addr) (len cap : Nat) (s : Int) : Value := .agg #[.int .i64 m, .int .i64 r, .slice a len cap, .int .i64 s]
theorem c_srange1 (n m : Int) (w : World) (h1 : -m ≤ n) (h2 : n ≤ m) (m1 : 0 ≤ m) (m2 : m ≤ 9223372036854775807) : Calls Tryz.prog 130 #[.int .i64 n, .int .i64 m] w fun e w' => e = .returned (.bool true) ∧ w = w' := by
  have hgen := sgen; have hgen2 := sgen2; have hgen3 := sgen3; go_enter Tryz.func130, Tryz.ntmps130
  go_wp2
  go_ret
  exact ⟨rfl, rfl⟩
theorem c_srange0 (n m : Int) (w : World) (h : n < -m ∨ m < n) (m1 : 0 ≤ m) (m2 : m ≤ 9223372036854775807) : Calls Tryz.prog 130 #[.int .i64 n, .int .i64 m] w fun e w' => e = .returned (.bool false) ∧ w = w' := by
  rcases h with h | h
  all_goals
    have hgen := sgen; have hgen2 := sgen2; have hgen3 := sgen3; go_enter Tryz.func130, Tryz.ntmps130
    go_wp2
    go_ret
    first | exact ⟨rfl, rfl⟩ | exact ⟨ret_bool (decide_eq_false (by omega)), rfl⟩
theorem c_serCheck_large (m r s : Int) (a : Option Addr) (len cap : Nat) (w : World) (h : 40 < len) : Calls Tryz.prog 113 #[sumV m r a len cap s] w fun e w' => e = .returned (.int .i64 2) ∧ Below w.heap.size w w' := by
  have hgen := sgen; have hgen2 := sgen2; have hgen3 := sgen3; go_enter Tryz.func113, Tryz.ntmps113
  go_wp2
  go_ret
  exact ⟨rfl, (Below.refl _ _).alloc (Nat.le_refl _) _⟩
set_option maxHeartbeats 1000000 in
theorem c_serCheck_hd (m r s : Int) (a : Option Addr) (len cap : Nat) (w : World) (h : len ≤ 40) (hb : m < -1000000000 ∨ 1000000000 < m ∨ r < -4000000000000000 ∨ 4000000000000000 < r ∨ s < 0 ∨ 100000000 < s) : Calls Tryz.prog 113 #[sumV m r a len cap s] w fun e w' => e = .returned (.int .i64 3) ∧ Below w.heap.size w w' := by
  rcases (show (m < -1000000000 ∨ 1000000000 < m) ∨ (-1000000000 ≤ m ∧ m ≤ 1000000000 ∧ (r < -4000000000000000 ∨ 4000000000000000 < r)) ∨ (-1000000000 ≤ m ∧ m ≤ 1000000000 ∧ -4000000000000000 ≤ r ∧ r ≤ 4000000000000000 ∧ s < 0) ∨ (-1000000000 ≤ m ∧ m ≤ 1000000000 ∧ -4000000000000000 ≤ r ∧ r ≤ 4000000000000000 ∧ 100000000 < s) by omega) with h1 | ⟨h1, h2, h3⟩ | ⟨h1, h2, h3, h4, h5⟩ | ⟨h1, h2, h3, h4, h5⟩
  all_goals
    clear hb
    have hgen := sgen; have hgen2 := sgen2; have hgen3 := sgen3; go_enter Tryz.func113, Tryz.ntmps113
    go_wp2_with (first | (go_at_call 130; (with_reducible refine (c_srange1 _ _ _ (by omega) (by omega) (by omega) (by omega)).mono ?_); rintro e w' ⟨rfl, rfl⟩) | (go_at_call 130; (with_reducible refine (c_srange0 _ _ _ (by omega) (by omega) (by omega)).mono ?_); rintro e w' ⟨rfl, rfl⟩))
    go_ret
    exact ⟨rfl, (Below.refl _ _).alloc (Nat.le_refl _) _⟩
theorem tmOne_ok {t : Tm} (h : ¬ (t.amp < -1000000000 ∨ 1000000000 < t.amp ∨ t.ph < 0 ∨ 999999999 < t.ph ∨ t.rt < -4000000000000000 ∨ 4000000000000000 < t.rt)) : tmOne t = 0 := by unfold tmOne; rw [if_neg h]
theorem tmOne_bad {t : Tm} (h : t.amp < -1000000000 ∨ 1000000000 < t.amp ∨ t.ph < 0 ∨ 999999999 < t.ph ∨ t.rt < -4000000000000000 ∨ 4000000000000000 < t.rt) : tmOne t = 3 := by unfold tmOne; rw [if_pos h]
set_option maxHeartbeats 2000000 in
theorem c_serCheck_tm (m r s : Int) (a : Option Addr) (cap : Nat) (l : List Tm) (w : World) (hc : l.length ≤ cap) (h40 : l.length ≤ 40) (hs : TmSlice w a l) (m1 : -1000000000 ≤ m) (m2 : m ≤ 1000000000) (r1 : -4000000000000000 ≤ r) (r2 : r ≤ 4000000000000000) (s1 : 0 ≤ s) (s2 : s ≤ 100000000) :
    Calls Tryz.prog 113 #[sumV m r a l.length cap s] w fun e w' => e = .returned (.int .i64 (fe tmOne l)) ∧ Below w.heap.size w w' := by
  have h2 : (l.length : Int) ≤ 40 := by omega
  have hgen := sgen; have hgen2 := sgen2; have hgen3 := sgen3; go_enter Tryz.func113, Tryz.ntmps113
  go_wp2_with (first | (go_at_call 130; (with_reducible refine (c_srange1 _ _ _ (by omega) (by omega) (by omega) (by omega)).mono ?_); rintro e w' ⟨rfl, rfl⟩) | (go_at_call 130; (with_reducible refine (c_srange0 _ _ _ (by omega) (by omega) (by omega)).mono ?_); rintro e w' ⟨rfl, rfl⟩))
  go_loopg [32] l.length (fun gk i wr => ∃ k : Nat, gk + k = l.length ∧ i = .int .i64 k ∧ Below w.heap.size w wr ∧ fe tmOne (l.take k) = 0)
  case atStart => exact ⟨0, by omega, rfl, (Below.refl _ _).alloc (Nat.le_refl _) _, rfl⟩
  case round =>
    obtain ⟨k, hk, rfl, hbel, hfe⟩ := hrel
    by_cases hlt : k < l.length
    · obtain ⟨b, off, ha, hb1, c0, c1, c2⟩ := (hs.below (Nat.le_refl _) hbel) k hlt
      have ix1 := @ix_Tm a b off l.length cap k ha hlt
      have hsz := hbel.size
      have hat := fe_at tmOne l k hlt hfe
      have hsn := fe_snoc tmOne l k hlt
      rw [if_pos hfe] at hsn
      clear ha hfe
      generalize l[k] = x at *
      by_cases hx : x.amp < -1000000000 ∨ 1000000000 < x.amp ∨ x.ph < 0 ∨ 999999999 < x.ph ∨ x.rt < -4000000000000000 ∨ 4000000000000000 < x.rt
      · have hb := tmOne_bad hx
        have HA := Lib.hid ((hat (by rw [hb]; omega)).trans hb)
        clear hsn hat hb
        rcases (show (x.amp < -1000000000 ∨ 1000000000 < x.amp) ∨ (-1000000000 ≤ x.amp ∧ x.amp ≤ 1000000000 ∧ x.ph < 0) ∨ (-1000000000 ≤ x.amp ∧ x.amp ≤ 1000000000 ∧ 1000000000 ≤ x.ph) ∨ (-1000000000 ≤ x.amp ∧ x.amp ≤ 1000000000 ∧ 0 ≤ x.ph ∧ x.ph < 1000000000 ∧ (x.rt < -4000000000000000 ∨ 4000000000000000 < x.rt)) by omega) with q1 | ⟨q1, q2, q3⟩ | ⟨q1, q2, q3⟩ | ⟨q1, q2, q3, q4, q5⟩
        all_goals
          clear hx
          try have q0 : 0 ≤ x.ph := by omega
          go_wp2_with (first | (go_at_call 130; (with_reducible refine (c_srange1 _ _ _ (by omega) (by omega) (by omega) (by omega)).mono ?_); rintro e w' ⟨rfl, rfl⟩) | (go_at_call 130; (with_reducible refine (c_srange0 _ _ _ (by omega) (by omega) (by omega)).mono ?_); rintro e w' ⟨rfl, rfl⟩))
          go_ret
          refine ⟨ret_int HA.out.symm, ?_⟩
          exact belz
      · have hb := tmOne_ok hx
        rw [hb] at hsn
        have HS := Lib.hid hsn
        clear hsn hat hb
        have q1 : -1000000000 ≤ x.amp := by omega
        have q2 : x.amp ≤ 1000000000 := by omega
        have q3 : 0 ≤ x.ph := by omega
        have q4 : x.ph < 1000000000 := by omega
        have q5 : -4000000000000000 ≤ x.rt := by omega
        have q6 : x.rt ≤ 4000000000000000 := by omega
        clear hx
        go_wp2_with (first | (go_at_call 130; (with_reducible refine (c_srange1 _ _ _ (by omega) (by omega) (by omega) (by omega)).mono ?_); rintro e w' ⟨rfl, rfl⟩) | (go_at_call 130; (with_reducible refine (c_srange0 _ _ _ (by omega) (by omega) (by omega)).mono ?_); rintro e w' ⟨rfl, rfl⟩))
        go_roundg (l.length - (k + 1))
        case measure => omega
        case rel =>
          refine ⟨k + 1, by omega, by go_num, ?_, HS.out⟩
          exact belz
    · have hkl : k = l.length := by omega
      rw [hkl, List.take_of_length_le (Nat.le_refl _)] at hfe
      have HF := Lib.hid hfe
      clear hfe hkl
      go_wp2
      go_ret
      exact ⟨ret_int HF.out.symm, hbel⟩
theorem hdOne_bad {m r s : Int} (h : m < -1000000000 ∨ 1000000000 < m ∨ r < -4000000000000000 ∨ 4000000000000000 < r ∨ s < 0 ∨ 100000000 < s) : hdOne m r s = 3 := by unfold hdOne; rw [if_pos h]
theorem hdOne_ok {m r s : Int} (h : ¬ (m < -1000000000 ∨ 1000000000 < m ∨ r < -4000000000000000 ∨ 4000000000000000 < r ∨ s < 0 ∨ 100000000 < s)) : hdOne m r s = 0 := by unfold hdOne; rw [if_neg h]
theorem c_serCheck (m r s : Int) (a : Option Addr) (cap : Nat) (l : List Tm) (w : World) (hc : l.length ≤ cap) (hs : TmSlice w a l) :
    Calls Tryz.prog 113 #[sumV m r a l.length cap s] w fun e w' => e = .returned (.int .i64 (sumE m r l s)) ∧ Below w.heap.size w w' := by
  unfold sumE
  by_cases h : 40 < l.length
  · rw [if_pos h]; exact c_serCheck_large m r s a _ cap w h
  · rw [if_neg h]
    by_cases hb : m < -1000000000 ∨ 1000000000 < m ∨ r < -4000000000000000 ∨ 4000000000000000 < r ∨ s < 0 ∨ 100000000 < s
    · rw [hdOne_bad hb, if_pos (by omega)]; exact c_serCheck_hd m r s a _ cap w (by omega) hb
    · rw [hdOne_ok hb, if_neg (by omega)]; exact c_serCheck_tm m r s a cap l w hc (by omega) hs (by omega) (by omega) (by omega) (by omega) (by omega) (by omega)
end
section
open Go.RowKit
theorem absT_nn (n : Int) : 0 ≤ absT n := by unfold absT; split <;> omega
end
section
open Go.RowKit
theorem gr_bd {rate inst : Int} (r1 : -4000000000000000 ≤ rate) (r2 : rate ≤ 4000000000000000) (i1 : -400000000000000 ≤ inst) (i2 : inst ≤ 400000000000000) : -20000000000000000 ≤ grQ rate inst ∧ grQ rate inst ≤ 20000000000000000 ∧ 0 ≤ grR rate inst ∧ grR rate inst < 86400000000000 := by
  have n1 : (rate * inst).natAbs ≤ 4000000000000000 * 400000000000000 := by
    rw [Int.natAbs_mul]
    exact Nat.mul_le_mul (by omega) (by omega)
  unfold grQ grR
  omega
theorem Calls.belowOf {f : FuncId} {args : Array Value} {w : World} {v : Ending} (h : Calls Tryz.prog f args w fun e w' => e = v ∧ ∃ n, w' = w.drewN n) : Calls Tryz.prog f args w fun e w' => e = v ∧ Below w.heap.size w w' := by
  refine h.mono ?_
  rintro e w' ⟨he, n, rfl⟩
  exact ⟨he, below_drewN (Below.refl _ _) n⟩
set_option maxHeartbeats 1000000 in
theorem c_sPart (t : Tm) (inst : Int) (w : World) (ht : Tab w) (hok : TmOk t) (i1 : -400000000000000 ≤ inst) (i2 : inst ≤ 400000000000000) :
    Calls Tryz.prog 132 #[.agg #[.int .i64 t.amp, .int .i64 t.ph, .int .i64 t.rt], .int .i64 inst] w fun e w' => e = .returned (fl (partW t inst)) ∧ Below w.heap.size w w' := by
  obtain ⟨xr, x, q, Y, sq, p, e1, e2, e3, e4, e5, e6, e7, e8, e9, e10, e11, e12, -⟩ := part_run (inst := inst) hok
  rw [← e12]
  obtain ⟨a1, a2, p1, p2, r1, r2⟩ := hok
  obtain ⟨g1, g2, g3, g4⟩ := gr_bd r1 r2 i1 i2
  have HG := Lib.hid (fun w1 => c_grown t.rt inst w1 r1 r2 i1 i2)
  have HM := Lib.hid (fun w1 => c_mod (t.ph + grQ t.rt inst) 1000000000 w1 (by omega) (by omega) (by omega) (by omega))
  obtain ⟨q1, q2, d1, d2, d3⟩ := e3
  obtain ⟨xn, hn⟩ : ∃ z, fofI ((t.ph + grQ t.rt inst) % 1000000000) = z := ⟨_, rfl⟩
  obtain ⟨xg, hg⟩ : ∃ z, fofI (grR t.rt inst) = z := ⟨_, rfl⟩
  obtain ⟨xa, hxa⟩ : ∃ z, fofI t.amp = z := ⟨_, rfl⟩
  rw [hg] at e1
  rw [hn] at e2
  rw [hxa] at e11
  have f1 : floatOfInt .f64 ((t.ph + grQ t.rt inst) % 1000000000) = xn := hn
  have f2 : floatOfInt .f64 (grR t.rt inst) = xg := hg
  have f3 : floatOfInt .f64 t.amp = xa := hxa
  have r1' : ∀ t w, (binOp .quo t (.float .f64 xg) (.float .f64 4815374002031689728)).run Tryz.prog w = .ok (.float .f64 xr) w := hdiv e1
  have r2' := hadd e2
  have r3' : ∀ t w, (binOp .quo t (.float .f64 x) (.float .f64 4741671816366391296)).run Tryz.prog w = .ok (.float .f64 q1) w := hdiv d1
  have r4' : ∀ t w, (binOp .mul t (.float .f64 q1) (.float .f64 4611686018427387904)).run Tryz.prog w = .ok (.float .f64 q2) w := hmul d2
  have r5' : ∀ t w, (binOp .mul t (.float .f64 q2) (.float .f64 4614256656552045848)).run Tryz.prog w = .ok (.float .f64 q) w := hmul d3
  have r6' := hmul e11
  have HS := Lib.hid (fun w1 (h : Tab w1) => c_Sin w1 h e5 (by omega) e6 e9 e7 e8 (by grind))
  rw [e10] at HS
  have HT := Lib.hid ht
  clear e1 e2 e4 e5 e6 e7 e8 e9 e10 e11 e12 d1 d2 d3 hn hg hxa ht
  generalize grQ t.rt inst = gq at *
  generalize grR t.rt inst = gr at *
  have m0 := Int.emod_nonneg (t.ph + gq) (show (1000000000 : Int) ≠ 0 by omega)
  have m1 := Int.emod_lt_of_pos (t.ph + gq) (show (0 : Int) < 1000000000 by omega)
  have hgen := sgen; have hgen2 := sgen2; have hgen3 := sgen3; go_enter Tryz.func132, Tryz.ntmps132
  go_wp2_with (first | (go_at_call 131; (refine (Calls.belowOf (HG.out _)).mono ?_); rintro e w1 ⟨rfl, hb⟩; have hz := hb.size; (try simp only [szA, szS, szD, szN] at hz); (try (refine bcB (n := w.heap.size) hb ?_; intro h_w_0 e_w_0 d_w_0 _ _))) | (go_at_call 102; (refine (Calls.belowOf (HM.out _)).mono ?_); rintro e w2 ⟨rfl, hb⟩; have hz := hb.size; (try simp only [szA, szS, szD, szN] at hz); (try (refine bcB (n := w.heap.size) hb ?_; intro h_w_0 e_w_0 d_w_0 _ _)); (try (refine bcB (n := w1.heap.size) hb ?_; intro h_w1_0 e_w1_0 d_w1_0 _ _))))
  go_quiet ((go_at_call 123; exact Calls.quiet_of_same ((HS.out _ (HT.out.below (by exact belz))).mono (fun e w' ⟨h1, h2⟩ => ⟨h1, h2.symm⟩))))
  go_wp2
  go_ret
  refine ⟨rfl, ?_⟩
  exact belz
end
section
open Go.RowKit
theorem c_value_nil (m r s inst : Int) (a : Option Addr) (cap : Nat) (w : World) (m1 : -1000000000 ≤ m) (m2 : m ≤ 1000000000) (s1 : 0 ≤ s) (s2 : s ≤ 100000000) :
    Calls Tryz.prog 115 #[sumV m r a 0 cap s, .int .i64 inst] w fun e w' => e = .returned (.agg #[.int .i64 (m - s), .int .i64 (m + s)]) ∧ Below w.heap.size w w' := by
  have hgen := sgen; have hgen2 := sgen2; have hgen3 := sgen3; go_enter Tryz.func115, Tryz.ntmps115
  go_wp2
  refine bodyPost_ret (v := .agg #[.int .i64 (m - s), .int .i64 (m + s)]) (by simp only [results, Tryz.results115]; go_simp) rfl ⟨rfl, ?_⟩
  exact belz
set_option maxHeartbeats 4000000 in
theorem c_value_some (m r s inst : Int) (a : Option Addr) (cap : Nat) (l : List Tm) (w : World) (hT : Tab w) (hc : l.length ≤ cap) (hs : TmSlice w a l) (hv : SumOk m r l s) (h0 : 0 < l.length) (i1 : -400000000000000 ≤ inst) (i2 : inst ≤ 400000000000000) :
    Calls Tryz.prog 115 #[sumV m r a l.length cap s, .int .i64 inst] w fun e w' => e = .returned (.agg #[.int .i64 (m + arLo (vAt l inst l.length) - s), .int .i64 (m + arHi (vAt l inst l.length) + s)]) ∧ Below w.heap.size w w' := by
  have h40 := hv.len
  have h2 : (l.length : Int) ≤ 40 := by omega
  have s1 := hv.s1
  have s2 := hv.s2
  have m1 := hv.m1
  have m2 := hv.m2
  have HV := Lib.hid (fun k hk => (val_run (inst := inst) h40 hv.tm k hk).2.2.2)
  obtain ⟨f1, f2, X1, X2, p10, p11, p12, p13, p14, p15, p16, p17, p18, p19, -⟩ := val_around (inst := inst) h40 hv.tm
  have HA := Lib.hid (fun w1 => c_Around p10 p11 p12 p13 p14 p15 (by omega) (by omega) (by omega) (by omega) w1)
  generalize arLo (vAt l inst l.length) = lo at *
  generalize arHi (vAt l inst l.length) = hi at *
  have HP := Lib.hid hv.tm
  have HT := Lib.hid hT
  have HSL := Lib.hid hs
  clear hv p10 p11 p12 p13 p14 p15 hT hs
  have hgen := sgen; have hgen2 := sgen2; have hgen3 := sgen3; go_enter Tryz.func115, Tryz.ntmps115
  go_wp2_with fail
  go_loopg [6, 22] l.length (fun gk x6 i wr => ∃ k : Nat, gk + k = l.length ∧ i = .int .i64 k ∧ x6 = .float .f64 (vAt l inst k) ∧ Below w.heap.size w wr ∧ SumAt wr w.heap.size m r a l.length cap s ∧ SpAt wr (w.heap.size + 1) 0 0 ∧ SpAt wr (w.heap.size + 1 + 1) m m)
  case atStart =>
    refine ⟨0, by omega, rfl, rfl, ?_, ?_, ?_, ?_⟩
    · exact belz
    · constructor <;> go_simp
    · constructor <;> go_simp
    · constructor <;> go_simp
  case round =>
    obtain ⟨k, hk, rfl, rfl, hbel, hB, hR, hO⟩ := hrel
    have hsz := hbel.size
    have lB := hB.lt
    have lR := hR.lt
    have lO := hO.lt
    by_cases hlt : k < l.length
    · obtain ⟨b, off, ha, hb1, c0, c1, c2⟩ := (HSL.out.below (Nat.le_refl _) hbel) k hlt
      have ix1 := @ix_Tm a b off l.length cap k ha hlt
      have hp := HP.out l[k] (List.getElem_mem hlt)
      have hadd1 := hadd (HV.out k (by omega) hlt)
      have HC := Lib.hid (fun w1 (h : Tab w1) => c_sPart l[k] inst w1 h hp i1 i2)
      have HB := Lib.hid hB
      have HR := Lib.hid hR
      have HO := Lib.hid hO
      clear ha hp hB hR hO
      generalize l[k] = x at *
      generalize partW x inst = pw at *
      go_wp2_with (go_at_call 132; (refine (HC.out _ (HT.out.below (by exact belz))).mono ?_); rintro e w1 ⟨rfl, hb⟩; have hz := hb.size; (try simp only [szA, szS, szD, szN] at hz); (try (refine bcB (n := wr.heap.size) hb ?_; intro h_wr_0 e_wr_0 d_wr_0 _ _)))
      go_roundg (l.length - (k + 1))
      case measure => omega
      case rel =>
        have hbz : Below wr.heap.size wr w1 := by exact belz
        refine ⟨k + 1, by omega, by go_num, rfl, ?_, HB.out.below hbz, HR.out.below hbz, HO.out.below hbz⟩
        exact belz
    · have hkl : k = l.length := by omega
      rw [hkl]
      clear hkl HV
      obtain ⟨-, x0, x1, x2, x3⟩ := hB
      obtain ⟨-, y0, y1, y2, y3⟩ := hR
      obtain ⟨-, z0, z1, z2, z3⟩ := hO
      go_wp2_with (go_at_call 94; (refine (HA.out _).mono ?_); rintro e w1 ⟨rfl, hb⟩; have hz := hb.size; (try simp only [szA, szS, szD, szN] at hz); (try (refine bcB (n := wr.heap.size) hb ?_; intro h_wr_0 e_wr_0 d_wr_0 _ _)); (try (refine bcB (n := w.heap.size) hb ?_; intro h_w_0 e_w_0 d_w_0 _ _)); (try (refine bcB (n := w.heap.size + 1) hb ?_; intro h_w_1 e_w_1 d_w_1 _ _)); (try (refine bcB (n := w.heap.size + 1 + 1) hb ?_; intro h_w_2 e_w_2 d_w_2 _ _)))
      refine bodyPost_ret (v := .agg #[.int .i64 (m + lo - s), .int .i64 (m + hi + s)]) (by simp only [results, Tryz.results115]; go_simp) rfl ⟨rfl, ?_⟩
      exact belz
theorem c_value (m r s inst : Int) (a : Option Addr) (cap : Nat) (l : List Tm) (w : World) (hT : Tab w) (hc : l.length ≤ cap) (hs : TmSlice w a l) (hv : SumOk m r l s) (i1 : -400000000000000 ≤ inst) (i2 : inst ≤ 400000000000000) :
    Calls Tryz.prog 115 #[sumV m r a l.length cap s, .int .i64 inst] w fun e w' => e = .returned (.agg #[.int .i64 (valLo m l s inst), .int .i64 (valHi m l s inst)]) ∧ Below w.heap.size w w' := by
  unfold valLo valHi
  by_cases h0 : l.length = 0
  · rw [if_pos h0, if_pos h0, h0]
    exact c_value_nil m r s inst a cap w hv.m1 hv.m2 hv.s1 hv.s2
  · rw [if_neg h0, if_neg h0]
    exact c_value_some m r s inst a cap l w hT hc hs hv (by omega) i1 i2
end
section
open Go.RowKit
/-- Whether a number is an instant. -/
def instB (t : Int) : Bool := decide (-345600000000000 ≤ t ∧ t < 345600086400000)
def instE (t : Int) : Int := if -345600000000000 ≤ t ∧ t < 345600086400000 then 0 else 3
def isDayB (d : Int) : Bool := decide (-4000000 ≤ d ∧ d ≤ 4000000)
theorem c_isDay (d : Int) (w : World) : Calls Tryz.prog 97 #[.int .i64 d] w fun e w' => e = .returned (.bool (isDayB d)) ∧ w = w' := by
  by_cases h1 : -4000000 ≤ d <;> by_cases h2 : d ≤ 4000000
  all_goals
    have hgen := sgen; have hgen2 := sgen2; have hgen3 := sgen3; go_enter Tryz.func97, Tryz.ntmps97
    go_wp2
    go_ret
    exact ⟨ret_bool (by unfold isDayB; simp; try omega), rfl⟩
theorem c_isInst (t : Int) (w : World) (t1 : -9223372036854775808 ≤ t) (t2 : t ≤ 9223372036854775807) : Calls Tryz.prog 54 #[.int .i64 t] w fun e w' => e = .returned (.bool (instB t)) ∧ Below w.heap.size w w' := by
  have HE := Lib.hid (show isDayB (t / 86400000) = instB t by unfold instB isDayB; rw [decide_eq_decide]; omega)
  have HD := Lib.hid (fun w1 => c_down t 86400000 w1 (by omega) t1 t2 (by omega))
  have hgen := sgen; have hgen2 := sgen2; have hgen3 := sgen3; go_enter Tryz.func54, Tryz.ntmps54
  go_wp2_with (first | (go_at_call 75; (refine (Calls.belowOf (HD.out _)).mono ?_); rintro e w1 ⟨rfl, hb⟩; have hz := hb.size; (try simp only [szA, szS, szD, szN] at hz); (try (refine bcB (n := w.heap.size) hb ?_; intro h_w_0 e_w_0 d_w_0 _ _))) | (go_at_call 97; refine (c_isDay _ _).mono ?_; rintro e w' ⟨rfl, rfl⟩))
  go_ret
  refine ⟨ret_bool HE.out, ?_⟩
  exact belz
theorem c_instErr (t : Int) (w : World) : Calls Tryz.prog 14 #[.int .i64 t] w fun e w' => e = .returned (.int .i64 (instE t)) ∧ w = w' := by
  have hgen := sgen; have hgen2 := sgen2; have hgen3 := sgen3; go_enter Tryz.func14, Tryz.ntmps14
  go_wp2
  all_goals go_ret
  all_goals exact ⟨ret_int (by unfold instE; split <;> first | rfl | omega), rfl⟩
theorem c_Norm (lo hi : Int) (w : World) (l1 : -4000000000000000000 ≤ lo) (l2 : lo ≤ 4000000000000000000) (h1 : -4000000000000000000 ≤ hi) (h2 : hi ≤ 4000000000000000000) :
    Calls Tryz.prog 84 #[.agg #[.int .i64 lo, .int .i64 hi]] w fun e w' => e = .returned (.agg #[.int .i64 (lo % 1000000000), .int .i64 (lo % 1000000000 + hi - lo)]) ∧ Below w.heap.size w w' := by
  have HM := Lib.hid (fun w1 => c_mod lo 1000000000 w1 (by omega) (by omega) (by omega) (by omega))
  have m0 := Int.emod_nonneg lo (show (1000000000 : Int) ≠ 0 by omega)
  have m1 := Int.emod_lt_of_pos lo (show (0 : Int) < 1000000000 by omega)
  generalize lo % 1000000000 = q at *
  have hgen := sgen; have hgen2 := sgen2; have hgen3 := sgen3; go_enter Tryz.func84, Tryz.ntmps84
  go_wp2_with (go_at_call 102; (refine (Calls.belowOf (HM.out _)).mono ?_); rintro e w1 ⟨rfl, hb⟩; have hz := hb.size; (try simp only [szA, szS, szD, szN] at hz); (try (refine bcB (n := w.heap.size) hb ?_; intro h_w_0 e_w_0 d_w_0 _ _)); (try (refine bcB (n := w.heap.size + 1) hb ?_; intro h_w_1 e_w_1 d_w_1 _ _)))
  refine bodyPost_ret (v := .agg #[.int .i64 q, .int .i64 (q + hi - lo)]) (by simp only [results, Tryz.results84]; go_simp) rfl ⟨rfl, ?_⟩
  exact belz
theorem val_bd {m r s inst : Int} {l : List Tm} (hv : SumOk m r l s) : -60000000000 ≤ valLo m l s inst ∧ valLo m l s inst ≤ 60000000000 ∧ -60000000000 ≤ valHi m l s inst ∧ valHi m l s inst ≤ 60000000000 := by
  obtain ⟨f1, f2, X1, X2, -, -, -, -, -, -, p16, p17, p18, p19, -⟩ := val_around (inst := inst) hv.len hv.tm
  have := hv.m1
  have := hv.m2
  have := hv.s1
  have := hv.s2
  unfold valLo valHi
  split <;> omega
def angLo (m r : Int) (l : List Tm) (s inst : Int) : Int := (valLo m l s inst + grQ r inst % 1000000000) % 1000000000
def angHi (m r : Int) (l : List Tm) (s inst : Int) : Int := angLo m r l s inst + (if 0 < grR r inst then valHi m l s inst + 1 else valHi m l s inst) - valLo m l s inst
set_option maxHeartbeats 2000000 in
theorem c_angle (m r s inst : Int) (a : Option Addr) (cap : Nat) (l : List Tm) (w : World) (hT : Tab w) (hc : l.length ≤ cap) (hs : TmSlice w a l) (hv : SumOk m r l s) (i1 : -400000000000000 ≤ inst) (i2 : inst ≤ 400000000000000) :
    Calls Tryz.prog 114 #[sumV m r a l.length cap s, .int .i64 inst] w fun e w' => e = .returned (.agg #[.int .i64 (angLo m r l s inst), .int .i64 (angHi m r l s inst)]) ∧ Below w.heap.size w w' := by
  obtain ⟨v1, v2, v3, v4⟩ := val_bd (inst := inst) hv
  have HV := Lib.hid (fun w1 (h : Tab w1) hs1 => c_value m r s inst a cap l w1 h hc hs1 hv i1 i2)
  obtain ⟨g1, g2, g3, g4⟩ := gr_bd hv.r1 hv.r2 i1 i2
  have HG := Lib.hid (fun w1 => c_grown r inst w1 hv.r1 hv.r2 i1 i2)
  have HL : Hid (angLo m r l s inst = (valLo m l s inst + grQ r inst % 1000000000) % 1000000000) := Lib.hid rfl
  have HH : Hid (angHi m r l s inst = (valLo m l s inst + grQ r inst % 1000000000) % 1000000000 + (if 0 < grR r inst then valHi m l s inst + 1 else valHi m l s inst) - valLo m l s inst) := Lib.hid rfl
  have HT := Lib.hid hT
  have HSL := Lib.hid hs
  clear hv hT hs
  generalize valLo m l s inst = vl at *
  generalize valHi m l s inst = vh at *
  generalize grQ r inst = gq at *
  generalize grR r inst = gr at *
  have HM := Lib.hid (fun w1 => c_mod gq 1000000000 w1 (by omega) (by omega) (by omega) (by omega))
  have m0 := Int.emod_nonneg gq (show (1000000000 : Int) ≠ 0 by omega)
  have m1 := Int.emod_lt_of_pos gq (show (0 : Int) < 1000000000 by omega)
  generalize gq % 1000000000 = q at *
  have k0 := Int.emod_nonneg (vl + q) (show (1000000000 : Int) ≠ 0 by omega)
  have k1 := Int.emod_lt_of_pos (vl + q) (show (0 : Int) < 1000000000 by omega)
  by_cases hr : 0 < gr
  all_goals
    have hgen := sgen; have hgen2 := sgen2; have hgen3 := sgen3; go_enter Tryz.func114, Tryz.ntmps114
    go_wp2_with (first | (go_at_call 115; (refine (HV.out _ (HT.out.below (by exact belz)) (HSL.out.below (Nat.le_refl _) (by exact belz))).mono ?_); rintro e w1 ⟨rfl, hb⟩; have hz := hb.size; (try simp only [szA, szS, szD, szN] at hz); (try (refine bcB (n := w.heap.size) hb ?_; intro h_w_0 e_w_0 d_w_0 _ _)); (try (refine bcB (n := w.heap.size + 1) hb ?_; intro h_w_1 e_w_1 d_w_1 _ _))) | (go_at_call 131; (refine (Calls.belowOf (HG.out _)).mono ?_); rintro e w2 ⟨rfl, hb⟩; have hz := hb.size; (try simp only [szA, szS, szD, szN] at hz); (try (refine bcB (n := w.heap.size) hb ?_; intro h_w_0 e_w_0 d_w_0 _ _)); (try (refine bcB (n := w.heap.size + 1) hb ?_; intro h_w_1 e_w_1 d_w_1 _ _)); (try (refine bcB (n := w1.heap.size) hb ?_; intro h_w1_0 e_w1_0 d_w1_0 _ _))) | (go_at_call 102; (refine (Calls.belowOf (HM.out _)).mono ?_); rintro e w3 ⟨rfl, hb⟩; have hz := hb.size; (try simp only [szA, szS, szD, szN] at hz); (try (refine bcB (n := w.heap.size) hb ?_; intro h_w_0 e_w_0 d_w_0 _ _)); (try (refine bcB (n := w.heap.size + 1) hb ?_; intro h_w_1 e_w_1 d_w_1 _ _)); (try (refine bcB (n := w1.heap.size) hb ?_; intro h_w1_0 e_w1_0 d_w1_0 _ _)); (try (refine bcB (n := w2.heap.size) hb ?_; intro h_w2_0 e_w2_0 d_w2_0 _ _))) | (go_at_call 84; (refine (c_Norm _ _ _ (by omega) (by omega) (by omega) (by omega)).mono ?_); rintro e w4 ⟨rfl, hb⟩; have hz := hb.size; (try simp only [szA, szS, szD, szN] at hz); (try (refine bcB (n := w.heap.size) hb ?_; intro h_w_0 e_w_0 d_w_0 _ _)); (try (refine bcB (n := w.heap.size + 1) hb ?_; intro h_w_1 e_w_1 d_w_1 _ _)); (try (refine bcB (n := w1.heap.size) hb ?_; intro h_w1_0 e_w1_0 d_w1_0 _ _)); (try (refine bcB (n := w2.heap.size) hb ?_; intro h_w2_0 e_w2_0 d_w2_0 _ _)); (try (refine bcB (n := w3.heap.size) hb ?_; intro h_w3_0 e_w3_0 d_w3_0 _ _))))
    refine bodyPost_ret (v := .agg #[.int .i64 (angLo m r l s inst), .int .i64 (angHi m r l s inst)]) (by simp only [results, Tryz.results114]; rw [HL.out, HH.out]; (first | rw [if_pos hr] | rw [if_neg (by omega)]); go_simp; try omega) rfl ⟨rfl, ?_⟩
    exact belz
end
section
open Go.RowKit
theorem c_Angle_bad (m r s inst : Int) (a : Option Addr) (cap : Nat) (l : List Tm) (w : World) (hc : l.length ≤ cap) (hs : TmSlice w a l) (he : sumE m r l s ≠ 0) :
    Calls Tryz.prog 85 #[sumV m r a l.length cap s, .int .i64 inst] w fun e w' => e = .returned (.tuple #[.agg #[.int .i64 0, .int .i64 0], .int .i64 (sumE m r l s)]) ∧ Below w.heap.size w w' := by
  have h1 : (sumE m r l s != 0) = true := by simp [he]
  have HS := Lib.hid hs
  clear hs
  have hgen := sgen; have hgen2 := sgen2; have hgen3 := sgen3; go_enter Tryz.func85, Tryz.ntmps85
  go_wp2_with (go_at_call 113; (refine (c_serCheck _ _ _ _ _ l _ hc (HS.out.below (Nat.le_refl _) (by exact belz))).mono ?_); rintro e w1 ⟨rfl, hb⟩; have hz := hb.size; (try simp only [szA, szS, szD, szN] at hz); (try (refine bcB (n := w.heap.size) hb ?_; intro h_w_0 e_w_0 d_w_0 _ _)); (try (refine bcB (n := w.heap.size + 1) hb ?_; intro h_w_1 e_w_1 d_w_1 _ _)))
  refine bodyPost_ret (v := .tuple #[.agg #[.int .i64 0, .int .i64 0], .int .i64 (sumE m r l s)]) (by simp only [results, Tryz.results85]; go_simp) rfl ⟨rfl, ?_⟩
  exact belz
theorem c_Angle_time (m r s inst : Int) (a : Option Addr) (cap : Nat) (l : List Tm) (w : World) (hc : l.length ≤ cap) (hs : TmSlice w a l) (he : sumE m r l s = 0) (ht : instB inst = false) (t1 : -9223372036854775808 ≤ inst) (t2 : inst ≤ 9223372036854775807) :
    Calls Tryz.prog 85 #[sumV m r a l.length cap s, .int .i64 inst] w fun e w' => e = .returned (.tuple #[.agg #[.int .i64 0, .int .i64 0], .int .i64 3]) ∧ Below w.heap.size w w' := by
  have hk := fun w1 hs1 => c_serCheck m r s a cap l w1 hc hs1
  rw [he] at hk
  have hi := fun w1 => c_isInst inst w1 t1 t2
  rw [ht] at hi
  have HK := Lib.hid hk
  have HI := Lib.hid hi
  have HS := Lib.hid hs
  clear hs hk hi he ht
  have hgen := sgen; have hgen2 := sgen2; have hgen3 := sgen3; go_enter Tryz.func85, Tryz.ntmps85
  go_wp2_with (first | (go_at_call 113; (refine (HK.out _ (HS.out.below (Nat.le_refl _) (by exact belz))).mono ?_); rintro e w1 ⟨rfl, hb⟩; have hz := hb.size; (try simp only [szA, szS, szD, szN] at hz); (try (refine bcB (n := w.heap.size) hb ?_; intro h_w_0 e_w_0 d_w_0 _ _)); (try (refine bcB (n := w.heap.size + 1) hb ?_; intro h_w_1 e_w_1 d_w_1 _ _))) | (go_at_call 54; (refine (HI.out _).mono ?_); rintro e w2 ⟨rfl, hb⟩; have hz := hb.size; (try simp only [szA, szS, szD, szN] at hz); (try (refine bcB (n := w.heap.size) hb ?_; intro h_w_0 e_w_0 d_w_0 _ _)); (try (refine bcB (n := w.heap.size + 1) hb ?_; intro h_w_1 e_w_1 d_w_1 _ _)); (try (refine bcB (n := w1.heap.size) hb ?_; intro h_w1_0 e_w1_0 d_w1_0 _ _))))
  refine bodyPost_ret (v := .tuple #[.agg #[.int .i64 0, .int .i64 0], .int .i64 3]) (by simp only [results, Tryz.results85]; go_simp) rfl ⟨rfl, ?_⟩
  exact belz
theorem inst_bd {t : Int} (h : instB t = true) : -345600000000000 ≤ t ∧ t < 345600086400000 := by simpa [instB] using h
theorem c_Angle_ok (m r s inst : Int) (a : Option Addr) (cap : Nat) (l : List Tm) (w : World) (hT : Tab w) (hc : l.length ≤ cap) (hs : TmSlice w a l) (he : sumE m r l s = 0) (ht : instB inst = true) :
    Calls Tryz.prog 85 #[sumV m r a l.length cap s, .int .i64 inst] w fun e w' => e = .returned (.tuple #[.agg #[.int .i64 (angLo m r l s inst), .int .i64 (angHi m r l s inst)], .int .i64 0]) ∧ Below w.heap.size w w' := by
  obtain ⟨t1, t2⟩ := inst_bd ht
  have hk := fun w1 hs1 => c_serCheck m r s a cap l w1 hc hs1
  have HA := Lib.hid (fun w1 (h : Tab w1) hs1 => c_angle m r s inst a cap l w1 h hc hs1 (sumOk_of he) (by omega) (by omega))
  rw [he] at hk
  have hi := fun w1 => c_isInst inst w1 (by omega) (by omega)
  rw [ht] at hi
  have HK := Lib.hid hk
  have HI := Lib.hid hi
  have HS := Lib.hid hs
  have HT := Lib.hid hT
  clear hs hk hi he ht hT
  generalize angLo m r l s inst = al at *
  generalize angHi m r l s inst = ah at *
  have hgen := sgen; have hgen2 := sgen2; have hgen3 := sgen3; go_enter Tryz.func85, Tryz.ntmps85
  go_wp2_with (first | (go_at_call 113; (refine (HK.out _ (HS.out.below (Nat.le_refl _) (by exact belz))).mono ?_); rintro e w1 ⟨rfl, hb⟩; have hz := hb.size; (try simp only [szA, szS, szD, szN] at hz); (try (refine bcB (n := w.heap.size) hb ?_; intro h_w_0 e_w_0 d_w_0 _ _)); (try (refine bcB (n := w.heap.size + 1) hb ?_; intro h_w_1 e_w_1 d_w_1 _ _))) | (go_at_call 54; (refine (HI.out _).mono ?_); rintro e w2 ⟨rfl, hb⟩; have hz := hb.size; (try simp only [szA, szS, szD, szN] at hz); (try (refine bcB (n := w.heap.size) hb ?_; intro h_w_0 e_w_0 d_w_0 _ _)); (try (refine bcB (n := w.heap.size + 1) hb ?_; intro h_w_1 e_w_1 d_w_1 _ _)); (try (refine bcB (n := w1.heap.size) hb ?_; intro h_w1_0 e_w1_0 d_w1_0 _ _))) | (go_at_call 114; (refine (HA.out _ (HT.out.below (by exact belz)) (HS.out.below (Nat.le_refl _) (by exact belz))).mono ?_); rintro e w3 ⟨rfl, hb⟩; have hz := hb.size; (try simp only [szA, szS, szD, szN] at hz); (try (refine bcB (n := w.heap.size) hb ?_; intro h_w_0 e_w_0 d_w_0 _ _)); (try (refine bcB (n := w.heap.size + 1) hb ?_; intro h_w_1 e_w_1 d_w_1 _ _)); (try (refine bcB (n := w1.heap.size) hb ?_; intro h_w1_0 e_w1_0 d_w1_0 _ _)); (try (refine bcB (n := w2.heap.size) hb ?_; intro h_w2_0 e_w2_0 d_w2_0 _ _))))
  refine bodyPost_ret (v := .tuple #[.agg #[.int .i64 al, .int .i64 ah], .int .i64 0]) (by simp only [results, Tryz.results85]; go_simp) rfl ⟨rfl, ?_⟩
  exact belz
theorem c_Value_bad (m r s inst : Int) (a : Option Addr) (cap : Nat) (l : List Tm) (w : World) (hc : l.length ≤ cap) (hs : TmSlice w a l) (he : sumE m r l s ≠ 0) :
    Calls Tryz.prog 89 #[sumV m r a l.length cap s, .int .i64 inst] w fun e w' => e = .returned (.tuple #[.agg #[.int .i64 0, .int .i64 0], .int .i64 (sumE m r l s)]) ∧ Below w.heap.size w w' := by
  have h1 : (sumE m r l s != 0) = true := by simp [he]
  have HS := Lib.hid hs
  clear hs
  have hgen := sgen; have hgen2 := sgen2; have hgen3 := sgen3; go_enter Tryz.func89, Tryz.ntmps89
  go_wp2_with (go_at_call 113; (refine (c_serCheck _ _ _ _ _ l _ hc (HS.out.below (Nat.le_refl _) (by exact belz))).mono ?_); rintro e w1 ⟨rfl, hb⟩; have hz := hb.size; (try simp only [szA, szS, szD, szN] at hz); (try (refine bcB (n := w.heap.size) hb ?_; intro h_w_0 e_w_0 d_w_0 _ _)); (try (refine bcB (n := w.heap.size + 1) hb ?_; intro h_w_1 e_w_1 d_w_1 _ _)))
  refine bodyPost_ret (v := .tuple #[.agg #[.int .i64 0, .int .i64 0], .int .i64 (sumE m r l s)]) (by simp only [results, Tryz.results89]; go_simp) rfl ⟨rfl, ?_⟩
  exact belz
theorem c_Value_time (m r s inst : Int) (a : Option Addr) (cap : Nat) (l : List Tm) (w : World) (hc : l.length ≤ cap) (hs : TmSlice w a l) (he : sumE m r l s = 0) (ht : instB inst = false) (t1 : -9223372036854775808 ≤ inst) (t2 : inst ≤ 9223372036854775807) :
    Calls Tryz.prog 89 #[sumV m r a l.length cap s, .int .i64 inst] w fun e w' => e = .returned (.tuple #[.agg #[.int .i64 0, .int .i64 0], .int .i64 3]) ∧ Below w.heap.size w w' := by
  have hk := fun w1 hs1 => c_serCheck m r s a cap l w1 hc hs1
  rw [he] at hk
  have hi := fun w1 => c_isInst inst w1 t1 t2
  rw [ht] at hi
  have HK := Lib.hid hk
  have HI := Lib.hid hi
  have HS := Lib.hid hs
  clear hs hk hi he ht
  have hgen := sgen; have hgen2 := sgen2; have hgen3 := sgen3; go_enter Tryz.func89, Tryz.ntmps89
  go_wp2_with (first | (go_at_call 113; (refine (HK.out _ (HS.out.below (Nat.le_refl _) (by exact belz))).mono ?_); rintro e w1 ⟨rfl, hb⟩; have hz := hb.size; (try simp only [szA, szS, szD, szN] at hz); (try (refine bcB (n := w.heap.size) hb ?_; intro h_w_0 e_w_0 d_w_0 _ _)); (try (refine bcB (n := w.heap.size + 1) hb ?_; intro h_w_1 e_w_1 d_w_1 _ _))) | (go_at_call 54; (refine (HI.out _).mono ?_); rintro e w2 ⟨rfl, hb⟩; have hz := hb.size; (try simp only [szA, szS, szD, szN] at hz); (try (refine bcB (n := w.heap.size) hb ?_; intro h_w_0 e_w_0 d_w_0 _ _)); (try (refine bcB (n := w.heap.size + 1) hb ?_; intro h_w_1 e_w_1 d_w_1 _ _)); (try (refine bcB (n := w1.heap.size) hb ?_; intro h_w1_0 e_w1_0 d_w1_0 _ _))))
  refine bodyPost_ret (v := .tuple #[.agg #[.int .i64 0, .int .i64 0], .int .i64 3]) (by simp only [results, Tryz.results89]; go_simp) rfl ⟨rfl, ?_⟩
  exact belz
theorem inst_bd2 {t : Int} (h : instB t = true) : -345600000000000 ≤ t ∧ t < 345600086400000 := by simpa [instB] using h
theorem c_Value_ok (m r s inst : Int) (a : Option Addr) (cap : Nat) (l : List Tm) (w : World) (hT : Tab w) (hc : l.length ≤ cap) (hs : TmSlice w a l) (he : sumE m r l s = 0) (ht : instB inst = true) :
    Calls Tryz.prog 89 #[sumV m r a l.length cap s, .int .i64 inst] w fun e w' => e = .returned (.tuple #[.agg #[.int .i64 (valLo m l s inst), .int .i64 (valHi m l s inst)], .int .i64 0]) ∧ Below w.heap.size w w' := by
  obtain ⟨t1, t2⟩ := inst_bd ht
  have hk := fun w1 hs1 => c_serCheck m r s a cap l w1 hc hs1
  have HA := Lib.hid (fun w1 (h : Tab w1) hs1 => c_value m r s inst a cap l w1 h hc hs1 (sumOk_of he) (by omega) (by omega))
  rw [he] at hk
  have hi := fun w1 => c_isInst inst w1 (by omega) (by omega)
  rw [ht] at hi
  have HK := Lib.hid hk
  have HI := Lib.hid hi
  have HS := Lib.hid hs
  have HT := Lib.hid hT
  clear hs hk hi he ht hT
  generalize valLo m l s inst = al at *
  generalize valHi m l s inst = ah at *
  have hgen := sgen; have hgen2 := sgen2; have hgen3 := sgen3; go_enter Tryz.func89, Tryz.ntmps89
  go_wp2_with (first | (go_at_call 113; (refine (HK.out _ (HS.out.below (Nat.le_refl _) (by exact belz))).mono ?_); rintro e w1 ⟨rfl, hb⟩; have hz := hb.size; (try simp only [szA, szS, szD, szN] at hz); (try (refine bcB (n := w.heap.size) hb ?_; intro h_w_0 e_w_0 d_w_0 _ _)); (try (refine bcB (n := w.heap.size + 1) hb ?_; intro h_w_1 e_w_1 d_w_1 _ _))) | (go_at_call 54; (refine (HI.out _).mono ?_); rintro e w2 ⟨rfl, hb⟩; have hz := hb.size; (try simp only [szA, szS, szD, szN] at hz); (try (refine bcB (n := w.heap.size) hb ?_; intro h_w_0 e_w_0 d_w_0 _ _)); (try (refine bcB (n := w.heap.size + 1) hb ?_; intro h_w_1 e_w_1 d_w_1 _ _)); (try (refine bcB (n := w1.heap.size) hb ?_; intro h_w1_0 e_w1_0 d_w1_0 _ _))) | (go_at_call 115; (refine (HA.out _ (HT.out.below (by exact belz)) (HS.out.below (Nat.le_refl _) (by exact belz))).mono ?_); rintro e w3 ⟨rfl, hb⟩; have hz := hb.size; (try simp only [szA, szS, szD, szN] at hz); (try (refine bcB (n := w.heap.size) hb ?_; intro h_w_0 e_w_0 d_w_0 _ _)); (try (refine bcB (n := w.heap.size + 1) hb ?_; intro h_w_1 e_w_1 d_w_1 _ _)); (try (refine bcB (n := w1.heap.size) hb ?_; intro h_w1_0 e_w1_0 d_w1_0 _ _)); (try (refine bcB (n := w2.heap.size) hb ?_; intro h_w2_0 e_w2_0 d_w2_0 _ _))))
  refine bodyPost_ret (v := .tuple #[.agg #[.int .i64 al, .int .i64 ah], .int .i64 0]) (by simp only [results, Tryz.results89]; go_simp) rfl ⟨rfl, ?_⟩
  exact belz
theorem tm_nil (w : World) (a : Option Addr) : TmSlice w a [] := fun k h => absurd h (by simp)
theorem c_sw_angle (w : World) (hT : Tab w) : Calls Tryz.prog 85 #[sumV 5 2000000 none 0 0 0, .int .i64 259200000] w fun e w' => e = .returned (.tuple #[.agg #[.int .i64 11, .int .i64 11], .int .i64 0]) ∧ Below w.heap.size w w' :=
  c_Angle_ok 5 2000000 0 259200000 none 0 [] w hT (Nat.le_refl _) (tm_nil w none) (by decide +kernel) (by decide +kernel)
theorem c_sw_value (w : World) (hT : Tab w) : Calls Tryz.prog 89 #[sumV 7 0 none 0 0 2, .int .i64 0] w fun e w' => e = .returned (.tuple #[.agg #[.int .i64 5, .int .i64 9], .int .i64 0]) ∧ Below w.heap.size w w' :=
  c_Value_ok 7 0 2 0 none 0 [] w hT (Nat.le_refl _) (tm_nil w none) (by decide +kernel) (by decide +kernel)
theorem tm_slice1 {w : World} {b : Nat} {x y z : Int} (h : b < w.heap.size) (c0 : w.cell? ⟨b, 0, none⟩ = some (.int .i64 x)) (c1 : w.cell? ⟨b, 1, none⟩ = some (.int .i64 y)) (c2 : w.cell? ⟨b, 2, none⟩ = some (.int .i64 z)) : TmSlice w (some ⟨b, 0, none⟩) [⟨x, y, z⟩] := by
  intro k hk
  have : k = 0 := by simp at hk; omega
  subst this
  exact ⟨b, 0, rfl, h, by simpa using c0, by simpa using c1, by simpa using c2⟩
def hasB (lo hi n wd : Int) : Bool := decide (lo ≤ n ∧ n ≤ hi ∧ hi - lo ≤ wd)
theorem c_has1 (lo hi n wd : Int) (w : World) (h1 : lo ≤ n) (h2 : n ≤ hi) (h3 : hi - lo ≤ wd) (b1 : -4000000000000000000 ≤ lo) (b2 : hi ≤ 4000000000000000000) : Calls Tryz.prog 45 #[.agg #[.int .i64 lo, .int .i64 hi], .int .i64 n, .int .i64 wd] w fun e w' => e = .returned (.bool true) ∧ Below w.heap.size w w' := by
  have hgen := sgen; have hgen2 := sgen2; have hgen3 := sgen3; go_enter Tryz.func45, Tryz.ntmps45
  go_wp2
  go_ret
  refine ⟨rfl, ?_⟩
  exact belz
end
end Go.Proofs.YtcgnhnmigmdalaaGreatDoor
