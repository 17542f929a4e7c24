/- Where element k of a slice of api.TideTerm lies. Contracts of tide.Check, the law's tideErr, tide.height and tide.Height. Contracts of tide.height and tide.Height. -/
import Derived.Test.YtcgnhnmigmdalaaDoorProg
import Derived.Test.YtcgnhnmigmdalaaDoorWkA
import Derived.WalkKit
import Derived.Test.YtcgnhnmigmdalaaDoorWalkSva
import Derived.Deep.LoopGhost
set_option linter.unusedVariables false
set_option linter.unusedSimpArgs false
namespace Go.Proofs.YtcgnhnmigmdalaaDoor
section
open Go.RowKit
theorem ix_Td {a : Option Addr} {b off len cap k : Nat} (ha : a = some ⟨b, off, none⟩) (hk : k < len) : ∀ w, (Instr.indexAt 61 (.slice a len cap) (.int .i64 k)).run Tryd.prog w = .ok (.pointer (some ⟨b, off + k * 3, none⟩)) w := by
  intro w
  subst ha
  have h1 : (k : Int) < (len : Int) := by omega
  go_simp
end
section
open Go.RowKit
def TdBad (t : Tm) : Prop := t.amp < 0 ∨ 20000 < t.amp ∨ t.ph < 0 ∨ 999999999 < t.ph ∨ t.rt < 1 ∨ 4000000000000000 < t.rt
instance (t : Tm) : Decidable (TdBad t) := by unfold TdBad; infer_instance
def tdOne (t : Tm) : Int := if TdBad t then 3 else 0
/-- The error of constituents. -/
def tdE (l : List Tm) : Int := if 12 < l.length then 2 else fe tdOne l
theorem tdOne_ok {t : Tm} (h : ¬ TdBad t) : tdOne t = 0 := by unfold tdOne; rw [if_neg h]
theorem tdOne_bad {t : Tm} (h : TdBad t) : tdOne t = 3 := by unfold tdOne; rw [if_pos h]
theorem td_of {l : List Tm} (h : tdE l = 0) : l.length ≤ 12 ∧ ∀ t ∈ l, ¬ TdBad t := by
  unfold tdE at h
  by_cases h1 : 12 < l.length
  · rw [if_pos h1] at h; omega
  · rw [if_neg h1] at h
    refine ⟨by omega, fun t ht hb => ?_⟩
    have := fe_all tdOne l h t ht
    rw [tdOne_bad hb] at this; omega
theorem c_tCheck_large (a : Option Addr) (len cap : Nat) (w : World) (h : 12 < len) : Calls Tryd.prog 55 #[.slice a len cap] w fun e w' => e = .returned (.int .i64 2) ∧ Below w.heap.size w w' := by
  have h1 : decide ((12 : Int) < (len : Int)) = true := decide_eq_true (by omega)
  have hgen := sgen; have hgen2 := sgen2; have hgen3 := sgen3; go_enter Tryd.func55, Tryd.ntmps55
  go_wp2
  go_ret
  exact ⟨rfl, Below.refl _ _⟩
set_option maxHeartbeats 2000000 in
theorem c_tCheck_tm (a : Option Addr) (cap : Nat) (l : List Tm) (w : World) (hc : l.length ≤ cap) (h12 : l.length ≤ 12) (hs : TmSlice w a l) :
    Calls Tryd.prog 55 #[.slice a l.length cap] w fun e w' => e = .returned (.int .i64 (fe tdOne l)) ∧ Below w.heap.size w w' := by
  have h1 : decide ((12 : Int) < (l.length : Int)) = false := decide_eq_false (by omega)
  have hgen := sgen; have hgen2 := sgen2; have hgen3 := sgen3; go_enter Tryd.func55, Tryd.ntmps55
  go_wp2_with fail
  go_loopg [10] l.length (fun gk i wr => ∃ k : Nat, gk + k = l.length ∧ i = .int .i64 k ∧ Below w.heap.size w wr ∧ fe tdOne (l.take k) = 0)
  case atStart => exact ⟨0, by omega, rfl, Below.refl _ _, rfl⟩
  case round =>
    obtain ⟨k, hk, rfl, hbel, hfe⟩ := hrel
    by_cases hlt : k < l.length
    · obtain ⟨b, off, ha, hb1, c0, c1, c2⟩ := (hs.below (Nat.le_refl _) hbel) k hlt
      have ix1 := @ix_Td a b off l.length cap k ha hlt
      have hsz := hbel.size
      have hat := fe_at tdOne l k hlt hfe
      have hsn := fe_snoc tdOne l k hlt
      rw [if_pos hfe] at hsn
      clear ha hfe
      generalize l[k] = x at *
      by_cases hx : TdBad x
      · have hb := tdOne_bad hx
        have HA := Lib.hid ((hat (by rw [hb]; omega)).trans hb)
        clear hsn hat hb
        unfold TdBad at hx
        rcases (show x.amp < 0 ∨ (0 ≤ x.amp ∧ 20000 < x.amp) ∨ (0 ≤ x.amp ∧ x.amp ≤ 20000 ∧ x.ph < 0) ∨ (0 ≤ x.amp ∧ x.amp ≤ 20000 ∧ 0 ≤ x.ph ∧ 999999999 < x.ph) ∨ (0 ≤ x.amp ∧ x.amp ≤ 20000 ∧ 0 ≤ x.ph ∧ x.ph ≤ 999999999 ∧ x.rt < 1) ∨ (0 ≤ x.amp ∧ x.amp ≤ 20000 ∧ 0 ≤ x.ph ∧ x.ph ≤ 999999999 ∧ 1 ≤ x.rt ∧ 4000000000000000 < x.rt) by omega) with q | q | q | q | q | q
        all_goals
          clear hx
          ((try have z1 : decide (x.amp < 0) = true := decide_eq_true (by omega)); (try have z1 : decide (x.amp < 0) = false := decide_eq_false (by omega)); (try have z2 : decide (20000 < x.amp) = true := decide_eq_true (by omega)); (try have z2 : decide (20000 < x.amp) = false := decide_eq_false (by omega)); (try have z3 : decide (x.ph < 0) = true := decide_eq_true (by omega)); (try have z3 : decide (x.ph < 0) = false := decide_eq_false (by omega)); (try have z4 : decide (999999999 < x.ph) = true := decide_eq_true (by omega)); (try have z4 : decide (999999999 < x.ph) = false := decide_eq_false (by omega)); (try have z6 : decide (1000000000 ≤ x.ph) = true := decide_eq_true (by omega)); (try have z6 : decide (1000000000 ≤ x.ph) = false := decide_eq_false (by omega)); (try have z5 : decide (x.rt < 1) = true := decide_eq_true (by omega)); (try have z5 : decide (x.rt < 1) = false := decide_eq_false (by omega)); (try have z7 : decide (4000000000000000 < x.rt) = true := decide_eq_true (by omega)); (try have z7 : decide (4000000000000000 < x.rt) = false := decide_eq_false (by omega)))
          clear q
          go_wp2
          go_ret
          refine ⟨by rw [HA.out]; try rfl, ?_⟩
          exact belz
      · have hb := tdOne_ok hx
        rw [hb] at hsn
        have HS := Lib.hid hsn
        clear hat hsn hb
        unfold TdBad at hx
        have q : 0 ≤ x.amp ∧ x.amp ≤ 20000 ∧ 0 ≤ x.ph ∧ x.ph ≤ 999999999 ∧ 1 ≤ x.rt ∧ x.rt ≤ 4000000000000000 := by omega
        clear hx
        ((try have z1 : decide (x.amp < 0) = true := decide_eq_true (by omega)); (try have z1 : decide (x.amp < 0) = false := decide_eq_false (by omega)); (try have z2 : decide (20000 < x.amp) = true := decide_eq_true (by omega)); (try have z2 : decide (20000 < x.amp) = false := decide_eq_false (by omega)); (try have z3 : decide (x.ph < 0) = true := decide_eq_true (by omega)); (try have z3 : decide (x.ph < 0) = false := decide_eq_false (by omega)); (try have z4 : decide (999999999 < x.ph) = true := decide_eq_true (by omega)); (try have z4 : decide (999999999 < x.ph) = false := decide_eq_false (by omega)); (try have z6 : decide (1000000000 ≤ x.ph) = true := decide_eq_true (by omega)); (try have z6 : decide (1000000000 ≤ x.ph) = false := decide_eq_false (by omega)); (try have z5 : decide (x.rt < 1) = true := decide_eq_true (by omega)); (try have z5 : decide (x.rt < 1) = false := decide_eq_false (by omega)); (try have z7 : decide (4000000000000000 < x.rt) = true := decide_eq_true (by omega)); (try have z7 : decide (4000000000000000 < x.rt) = false := decide_eq_false (by omega)))
        clear q
        go_wp2
        go_roundg (gk - 1)
        case measure => omega
        case rel => exact ⟨k + 1, by omega, by go_num, by exact belz, HS.out⟩
    · have hkl : k = l.length := by omega
      subst hkl
      rw [List.take_length] at hfe
      have HF := Lib.hid hfe
      clear hfe
      go_wp2
      go_ret
      exact ⟨by rw [HF.out]; try rfl, hbel⟩
theorem c_tCheck (a : Option Addr) (cap : Nat) (l : List Tm) (w : World) (hc : l.length ≤ cap) (hs : TmSlice w a l) :
    Calls Tryd.prog 55 #[.slice a l.length cap] w fun e w' => e = .returned (.int .i64 (tdE l)) ∧ Below w.heap.size w w' := by
  unfold tdE
  by_cases h : 12 < l.length
  · rw [if_pos h]; exact c_tCheck_large a l.length cap w h
  · rw [if_neg h]; exact c_tCheck_tm a cap l w hc (by omega) hs
end
section
open Go.RowKit
/-- A constituent as a term: a quarter of a turn ahead. -/
def tdS (t : Tm) : Tm := ⟨t.amp, (t.ph + 250000000) % 1000000000, t.rt⟩
def tdL (l : List Tm) : List Tm := l.map tdS
theorem tdL_len (l : List Tm) : (tdL l).length = l.length := by unfold tdL; simp
theorem tdS_ok {t : Tm} (h : ¬ TdBad t) : TmOk (tdS t) := by
  unfold TdBad at h
  unfold tdS
  constructor <;> simp only <;> omega
theorem tdL_ok {l : List Tm} (h : ∀ t ∈ l, ¬ TdBad t) : ∀ t ∈ tdL l, TmOk t := by
  intro t ht
  unfold tdL at ht
  obtain ⟨x, hx, rfl⟩ := List.mem_map.1 ht
  exact tdS_ok (h x hx)
def tdLo (l : List Tm) (t : Int) : Int := if l.length = 0 then 0 else arLo (vAt (tdL l) t l.length)
def tdHi (l : List Tm) (t : Int) : Int := if l.length = 0 then 0 else arHi (vAt (tdL l) t l.length)
theorem td_bd {l : List Tm} (h : tdE l = 0) (t : Int) : -50000000000 ≤ tdLo l t ∧ tdLo l t ≤ 50000000000 ∧ -50000000000 ≤ tdHi l t ∧ tdHi l t ≤ 50000000000 := by
  obtain ⟨h12, hb⟩ := td_of h
  obtain ⟨f1, f2, X1, X2, -, -, -, -, -, -, b1, b2, b3, b4, -⟩ := val_around (inst := t) (l := tdL l) (by rw [tdL_len]; omega) (tdL_ok hb)
  rw [tdL_len] at b1 b2 b3 b4
  unfold tdLo tdHi
  split <;> omega
set_option maxHeartbeats 4000000 in
theorem c_tHeight0 (l : List Tm) (inst : Int) (a : Option Addr) (cap : Nat) (w : World) (hT : Tab w) (hc : l.length ≤ cap) (hs : TmSlice w a l) (hv : tdE l = 0) (i1 : -400000000000000 ≤ inst) (i2 : inst ≤ 400000000000000) :
    Calls Tryd.prog 56 #[.slice a l.length cap, .int .i64 inst] w fun e w' => e = .returned (.agg #[.int .i64 (tdLo l inst), .int .i64 (tdHi l inst)]) ∧ Below w.heap.size w w' := by
  obtain ⟨h12, hbad⟩ := td_of hv
  by_cases h0 : l.length = 0
  · have e1 : tdLo l inst = 0 := by unfold tdLo; rw [if_pos h0]
    have e2 : tdHi l inst = 0 := by unfold tdHi; rw [if_pos h0]
    rw [e1, e2, h0]
    clear e1 e2 hs hbad hv hT hc
    have hgen := sgen; have hgen2 := sgen2; have hgen3 := sgen3; go_enter Tryd.func56, Tryd.ntmps56
    go_wp2
    refine bodyPost_ret (v := .agg #[.int .i64 0, .int .i64 0]) (by simp only [results, Tryd.results56]; go_simp) rfl ⟨rfl, ?_⟩
    exact belz
  · have e1 : tdLo l inst = arLo (vAt (tdL l) inst l.length) := by unfold tdLo; rw [if_neg h0]
    have e2 : tdHi l inst = arHi (vAt (tdL l) inst l.length) := by unfold tdHi; rw [if_neg h0]
    rw [e1, e2]
    have hl := tdL_len l
    have hok := tdL_ok hbad
    have HV := Lib.hid (fun k hk => (val_run (inst := inst) (l := tdL l) (by rw [hl]; omega) hok k hk).2.2.2)
    obtain ⟨f1, f2, X1, X2, p10, p11, p12, p13, p14, p15, p16, p17, p18, p19, -⟩ := val_around (inst := inst) (l := tdL l) (by rw [hl]; omega) hok
    rw [hl] at p10 p11 p14 p15 p16 p17 p18 p19
    have HA := Lib.hid (fun w1 => c_Around p10 p11 p12 p13 p14 p15 (by omega) (by omega) (by omega) (by omega) w1)
    generalize arLo (vAt (tdL l) inst l.length) = lo at *
    generalize arHi (vAt (tdL l) inst l.length) = hi at *
    have HP := Lib.hid hbad
    have HT := Lib.hid hT
    have HSL := Lib.hid hs
    have hz : (l.length == 0) = false := beq_false_of_ne h0
    have hz2 : ((l.length : Int) == 0) = false := beq_false_of_ne (by omega)
    clear p10 p11 p12 p13 p14 p15 hT hs hv e1 e2 hok hbad
    have hgen := sgen; have hgen2 := sgen2; have hgen3 := sgen3; go_enter Tryd.func56, Tryd.ntmps56
    go_wp2_with fail
    go_loopg [5, 14] l.length (fun gk x5 i wr => ∃ k : Nat, gk + k = l.length ∧ i = .int .i64 k ∧ x5 = .float .f64 (vAt (tdL l) inst k) ∧ Below w.heap.size w wr ∧ SpAt wr w.heap.size 0 0)
    case atStart =>
      refine ⟨0, by omega, rfl, rfl, ?_, ?_⟩
      · exact belz
      · constructor <;> go_simp
    case round =>
      obtain ⟨k, hk, rfl, rfl, hbel, hR⟩ := hrel
      have hsz := hbel.size
      have lR := hR.lt
      by_cases hlt : k < l.length
      · obtain ⟨b, off, ha, hb1, c0, c1, c2⟩ := (HSL.out.below (Nat.le_refl _) hbel) k hlt
        have ix1 := @ix_Td a b off l.length cap k ha hlt
        have hgood := HP.out l[k] (List.getElem_mem hlt)
        have hp := tdS_ok hgood
        have hlt' : k < (tdL l).length := by omega
        have hadd0 := HV.out k (by omega) hlt'
        have eg : (tdL l)[k] = tdS l[k] := List.getElem_map tdS
        rw [eg] at hadd0
        have hadd1 := hadd hadd0
        have HC := Lib.hid (fun w1 (h : Tab w1) => c_sPart (tdS l[k]) inst w1 h hp i1 i2)
        have HR := Lib.hid hR
        unfold TdBad at hgood
        clear ha hp hR hadd0 eg
        generalize l[k] = x at *
        generalize partW (tdS x) inst = pw at *
        have t1 : (tdS x).amp = x.amp := rfl
        have t2 : (tdS x).ph = (x.ph + 250000000) % 1000000000 := rfl
        have t3 : (tdS x).rt = x.rt := rfl
        rw [t1, t2, t3] at HC
        have q1 : 0 ≤ x.ph := by omega
        have q2 : x.ph ≤ 999999999 := by omega
        have hm : (x.ph + 250000000).tmod 1000000000 = (x.ph + 250000000) % 1000000000 := Int.tmod_eq_emod_of_nonneg (by omega)
        clear t1 t2 t3 hgood
        go_wp2_with (go_at_call 77; (refine (HC.out _ (HT.out.below (by exact belz))).mono ?_); rintro e w1 ⟨rfl, hb⟩; have hz := hb.size; (try simp only [szA, szS, szD, szN] at hz); (try (refine bcB (n := w.heap.size) hb ?_; intro h_w_0 e_w_0 d_w_0 _ _)); (try (refine bcB (n := wr.heap.size) hb ?_; intro h_wr_0 e_wr_0 d_wr_0 _ _)))
        go_roundg (gk - 1)
        case measure => omega
        case rel =>
          have hbz : Below wr.heap.size wr w1 := by exact belz
          refine ⟨k + 1, by omega, by go_num, rfl, ?_, HR.out.below hbz⟩
          exact belz
      · have hkl : k = l.length := by omega
        rw [hkl]
        clear hkl HV
        obtain ⟨r0, r1, r2, r3, r4⟩ := hR
        generalize vAt (tdL l) inst l.length = vv at *
        go_wp2_with (go_at_call 78; (refine (HA.out _).mono ?_); rintro e w1 ⟨rfl, hb⟩; have hz := hb.size; (try simp only [szA, szS, szD, szN] at hz); (try (refine bcB (n := w.heap.size) hb ?_; intro h_w_0 e_w_0 d_w_0 _ _)))
        refine bodyPost_ret (v := .agg #[.int .i64 lo, .int .i64 hi]) (by simp only [results, Tryd.results56]; go_simp) rfl ⟨rfl, ?_⟩
        exact belz
theorem c_tHeight (l : List Tm) (inst : Int) (a : Option Addr) (cap : Nat) (w : World) (hT : Tab w) (hc : l.length ≤ cap) (hs : TmSlice w a l) (hv : tdE l = 0) (ht : instB inst = true) :
    Calls Tryd.prog 29 #[.slice a l.length cap, .int .i64 inst] w fun e w' => e = .returned (.tuple #[.agg #[.int .i64 (tdLo l inst), .int .i64 (tdHi l inst)], .int .i64 0]) ∧ Below w.heap.size w w' := by
  obtain ⟨t1, t2⟩ := inst_bd ht
  have hk := fun w1 hs1 => c_tCheck a cap l w1 hc hs1
  have HA := Lib.hid (fun w1 (h : Tab w1) hs1 => c_tHeight0 l inst a cap w1 h hc hs1 hv (by omega) (by omega))
  rw [hv] at hk
  have hi := fun w1 => c_isInst inst w1 (by omega) (by omega)
  rw [ht] at hi
  have HK := Lib.hid hk
  have HI := Lib.hid hi
  have HS := Lib.hid hs
  have HT := Lib.hid hT
  clear hs hk hi hv ht hT
  generalize tdLo l inst = al at *
  generalize tdHi l inst = ah at *
  have hgen := sgen; have hgen2 := sgen2; have hgen3 := sgen3; go_enter Tryd.func29, Tryd.ntmps29
  go_wp2_with (first | (go_at_call 55; (refine (HK.out _ (HS.out.below (Nat.le_refl _) (by exact belz))).mono ?_); rintro e w1 ⟨rfl, hb⟩; have hz := hb.size; (try simp only [szA, szS, szD, szN] at hz); (try (refine bcB (n := w.heap.size) hb ?_; intro h_w_0 e_w_0 d_w_0 _ _))) | (go_at_call 42; (refine (HI.out _).mono ?_); rintro e w2 ⟨rfl, hb⟩; have hz := hb.size; (try simp only [szA, szS, szD, szN] at hz); (try (refine bcB (n := w.heap.size) hb ?_; intro h_w_0 e_w_0 d_w_0 _ _)); (try (refine bcB (n := w1.heap.size) hb ?_; intro h_w1_0 e_w1_0 d_w1_0 _ _))) | (go_at_call 56; (refine (HA.out _ (HT.out.below (by exact belz)) (HS.out.below (Nat.le_refl _) (by exact belz))).mono ?_); rintro e w3 ⟨rfl, hb⟩; have hz := hb.size; (try simp only [szA, szS, szD, szN] at hz); (try (refine bcB (n := w.heap.size) hb ?_; intro h_w_0 e_w_0 d_w_0 _ _)); (try (refine bcB (n := w1.heap.size) hb ?_; intro h_w1_0 e_w1_0 d_w1_0 _ _)); (try (refine bcB (n := w2.heap.size) hb ?_; intro h_w2_0 e_w2_0 d_w2_0 _ _))))
  refine bodyPost_ret (v := .tuple #[.agg #[.int .i64 al, .int .i64 ah], .int .i64 0]) (by simp only [results, Tryd.results29]; go_simp) rfl ⟨rfl, ?_⟩
  exact belz
theorem c_tHeight_bad (l : List Tm) (inst : Int) (a : Option Addr) (cap : Nat) (w : World) (hc : l.length ≤ cap) (hs : TmSlice w a l) (hv : tdE l ≠ 0) :
    Calls Tryd.prog 29 #[.slice a l.length cap, .int .i64 inst] w fun e w' => e = .returned (.tuple #[.agg #[.int .i64 0, .int .i64 0], .int .i64 (tdE l)]) ∧ Below w.heap.size w w' := by
  have HK := Lib.hid (fun w1 hs1 => c_tCheck a cap l w1 hc hs1)
  have HS := Lib.hid hs
  have h1 : (tdE l != 0) = true := by simp; exact hv
  clear hs hv
  generalize tdE l = x at *
  have hgen := sgen; have hgen2 := sgen2; have hgen3 := sgen3; go_enter Tryd.func29, Tryd.ntmps29
  go_wp2_with (go_at_call 55; (refine (HK.out _ (HS.out.below (Nat.le_refl _) (by exact belz))).mono ?_); rintro e w1 ⟨rfl, hb⟩; have hz := hb.size; (try simp only [szA, szS, szD, szN] at hz); (try (refine bcB (n := w.heap.size) hb ?_; intro h_w_0 e_w_0 d_w_0 _ _)))
  refine bodyPost_ret (v := .tuple #[.agg #[.int .i64 0, .int .i64 0], .int .i64 x]) (by simp only [results, Tryd.results29]; go_simp) rfl ⟨rfl, ?_⟩
  exact belz
theorem c_tHeight_time (l : List Tm) (inst : Int) (a : Option Addr) (cap : Nat) (w : World) (hc : l.length ≤ cap) (hs : TmSlice w a l) (hv : tdE l = 0) (ht : instB inst = false) (t1 : -9223372036854775808 ≤ inst) (t2 : inst ≤ 9223372036854775807) :
    Calls Tryd.prog 29 #[.slice a l.length cap, .int .i64 inst] w fun e w' => e = .returned (.tuple #[.agg #[.int .i64 0, .int .i64 0], .int .i64 3]) ∧ Below w.heap.size w w' := by
  have hk := fun w1 hs1 => c_tCheck a cap l w1 hc hs1
  rw [hv] at hk
  have hi := fun w1 => c_isInst inst w1 (by omega) (by omega)
  rw [ht] at hi
  have HK := Lib.hid hk
  have HI := Lib.hid hi
  have HS := Lib.hid hs
  clear hs hk hi hv ht
  have hgen := sgen; have hgen2 := sgen2; have hgen3 := sgen3; go_enter Tryd.func29, Tryd.ntmps29
  go_wp2_with (first | (go_at_call 55; (refine (HK.out _ (HS.out.below (Nat.le_refl _) (by exact belz))).mono ?_); rintro e w1 ⟨rfl, hb⟩; have hz := hb.size; (try simp only [szA, szS, szD, szN] at hz); (try (refine bcB (n := w.heap.size) hb ?_; intro h_w_0 e_w_0 d_w_0 _ _))) | (go_at_call 42; (refine (HI.out _).mono ?_); rintro e w2 ⟨rfl, hb⟩; have hz := hb.size; (try simp only [szA, szS, szD, szN] at hz); (try (refine bcB (n := w.heap.size) hb ?_; intro h_w_0 e_w_0 d_w_0 _ _)); (try (refine bcB (n := w1.heap.size) hb ?_; intro h_w1_0 e_w1_0 d_w1_0 _ _))))
  refine bodyPost_ret (v := .tuple #[.agg #[.int .i64 0, .int .i64 0], .int .i64 3]) (by simp only [results, Tryd.results29]; go_simp) rfl ⟨rfl, ?_⟩
  exact belz
end
end Go.Proofs.YtcgnhnmigmdalaaDoor
