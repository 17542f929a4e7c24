/- The contract of the reference's Dependent where all determinants are 0. The contracts of gauge.Check and gaugeErr. The contract of gauge.Check. The contract of the law's gaugeErr; gauge.Check whole. The contracts of whole.Gcd and of the reference's Gcd. -/
import Derived.Test.YtcgnhnmigmdalaaDoorGgA
import Derived.Test.YtcgnhnmigmdalaaDoorWkA
import Derived.Test.YtcgnhnmigmdalaaDoorGgB
import Derived.Deep.LoopGhost
import Derived.Deep.QuietTactic
import Derived.BigQuiet
import Derived.BigGuard
import Derived.IntWalk
import Derived.Test.YtcgnhnmigmdalaaDoorPlA
import Derived.Deep.DeepCutAuto
set_option linter.unusedVariables false
set_option linter.unusedSimpArgs false
namespace Go.Proofs.YtcgnhnmigmdalaaDoor
section
open Go.RowKit
/-- The numbers of the rows. -/
def rwF (L : List (List Int)) (i j : Nat) : Int := (L.getD i []).getD j 0
/-- A row as the walk meets it. -/
structure RowK (w : World) (a : Option Addr) (n cap k : Nat) (R : Nat → Nat → Int) (i : Nat) : Prop where
  ex : ∃ b off a' cap', w.cell? ⟨b, off + i, none⟩ = some (.slice a' k cap') ∧ (∀ w' : World, (Instr.indexAt 70 (.slice a n cap) (.int .i64 i)).run Tryd.prog w' = .ok (.pointer (some ⟨b, off + i, none⟩)) w') ∧ ∀ j, j < k → ∃ b5 off5, w.cell? ⟨b5, off5 + j, none⟩ = some (.int .i64 (R i j)) ∧ ∀ w' : World, (Instr.indexAt 71 (.slice a' k cap') (.int .i64 j)).run Tryd.prog w' = .ok (.pointer (some ⟨b5, off5 + j, none⟩)) w'
theorem row_k {w : World} {a : Option Addr} {L : List (List Int)} {cap k : Nat} (hM : MatSlice w a L) (hk : ∀ r ∈ L, r.length = k) {i : Nat} (hi : i < L.length) : RowK w a L.length cap k (rwF L) i := by
  obtain ⟨b, off, v, ha, hb, c0, ⟨a', cap', e, hc, hr⟩⟩ := hM i hi
  have hl := hk L[i] (List.getElem_mem hi)
  subst e
  rw [hl] at c0
  refine ⟨b, off, a', cap', c0, @ix_Row a b off L.length cap i ha hi, fun j hj => ?_⟩
  obtain ⟨b5, off5, ha5, hb5, c5⟩ := hr j (by omega)
  refine ⟨b5, off5, ?_, @ix_Int a' b5 off5 k cap' j ha5 hj⟩
  have e : rwF L i j = (L[i])[j]'(by omega) := by
    unfold rwF
    simp only [List.getD_eq_getElem?_getD, List.getElem?_eq_getElem hi, Option.getD_some]
    rw [List.getElem?_eq_getElem (by omega), Option.getD_some]
  rw [e]
  exact c5
end
section
open Go.RowKit
def rowOne (n : Int) : Int := if n < -10 ∨ 10 < n then 3 else 0
def rowE (k : Nat) (r : List Int) (h : Int) : Int := if r.length ≠ k then 8 else if fe rowOne r ≠ 0 then fe rowOne r else if h < -1000 ∨ 1000 < h then 3 else 0
def gIx (L : List (List Int)) (hs : List Int) (i : Nat) : Int := rowE (L.getD 0 []).length (L.getD i []) (hs.getD i 0)
def gForm (L : List (List Int)) (hs : List Int) : Prop := L.length = 0 ∨ hs.length ≠ L.length ∨ (L.getD 0 []).length < 1 ∨ 3 < (L.getD 0 []).length
instance (L : List (List Int)) (hs : List Int) : Decidable (gForm L hs) := by unfold gForm; infer_instance
/-- The error of readings. -/
def gErr (L : List (List Int)) (hs : List Int) : Int := if 8 < L.length then 2 else if gForm L hs then 8 else fe (gIx L hs) (List.range L.length)
theorem c_inRange (n m : Int) (w : World) (m0 : 0 ≤ m) (m1 : m ≤ 1000000) : Calls Tryd.prog 79 #[.int .i64 n, .int .i64 m] w fun e w' => e = .returned (.bool (decide (-m ≤ n ∧ n ≤ m))) ∧ w = w' := by
  have e1 : IntKind.i64.wrap (-m) = -m := IntWalk.i64_in _ (by omega)
  by_cases h1 : -m ≤ n
  · have d1 : decide (-m ≤ n) = true := decide_eq_true h1
    by_cases h2 : n ≤ m
    · have d2 : decide (n ≤ m) = true := decide_eq_true h2
      rw [decide_eq_true (show -m ≤ n ∧ n ≤ m from ⟨h1, h2⟩)]
      have hgen := sgen; have hgen2 := sgen2; have hgen3 := sgen3; go_enter Tryd.func79, Tryd.ntmps79
      go_wp2
      go_ret
      exact ⟨rfl, rfl⟩
    · have d2 : decide (n ≤ m) = false := decide_eq_false h2
      rw [decide_eq_false (show ¬ (-m ≤ n ∧ n ≤ m) from fun h => h2 h.2)]
      have hgen := sgen; have hgen2 := sgen2; have hgen3 := sgen3; go_enter Tryd.func79, Tryd.ntmps79
      go_wp2
      go_ret
      exact ⟨rfl, rfl⟩
  · have d1 : decide (-m ≤ n) = false := decide_eq_false h1
    rw [decide_eq_false (show ¬ (-m ≤ n ∧ n ≤ m) from fun h => h1 h.1)]
    have hgen := sgen; have hgen2 := sgen2; have hgen3 := sgen3; go_enter Tryd.func79, Tryd.ntmps79
    go_wp2
    go_ret
    exact ⟨rfl, rfl⟩
theorem c_gCheck_large (a ah : Option Addr) (len cap lenh caph : Nat) (w : World) (h : 8 < len) : Calls Tryd.prog 59 #[.slice a len cap, .slice ah lenh caph] w fun e w' => e = .returned (.int .i64 2) ∧ w = w' := by
  have h1 : decide ((8 : Int) < (len : Int)) = true := decide_eq_true (by omega)
  have hgen := sgen; have hgen2 := sgen2; have hgen3 := sgen3; go_enter Tryd.func59, Tryd.ntmps59
  go_wp2
  go_ret
  exact ⟨rfl, rfl⟩
theorem c_gCheck_form (a ah : Option Addr) (L : List (List Int)) (hs : List Int) (cap caph : Nat) (w : World) (h8 : L.length ≤ 8) (hM : MatSlice w a L) (h : gForm L hs) : Calls Tryd.prog 59 #[.slice a L.length cap, .slice ah hs.length caph] w fun e w' => e = .returned (.int .i64 8) ∧ w = w' := by
  obtain ⟨n, hn⟩ : ∃ n, n = L.length := ⟨_, rfl⟩
  obtain ⟨m, hm⟩ : ∃ m, m = hs.length := ⟨_, rfl⟩
  unfold gForm at h
  rw [← hn, ← hm] at h
  rw [← hn] at h8
  rw [← hn, ← hm]
  have h1 : decide ((8 : Int) < (n : Int)) = false := decide_eq_false (by omega)
  by_cases hz : n = 0
  · have d1 : ((n : Int) == 0) = true := by rw [beq_iff_eq]; omega
    clear h hM hn hm
    have hgen := sgen; have hgen2 := sgen2; have hgen3 := sgen3; go_enter Tryd.func59, Tryd.ntmps59
    go_wp2
    go_ret
    exact ⟨rfl, rfl⟩
  · have d1 : ((n : Int) == 0) = false := by rw [beq_eq_false_iff_ne]; omega
    by_cases hl : m = n
    · have d2 : ((m : Int) != (n : Int)) = false := by rw [bne_eq_false_iff_eq]; omega
      obtain ⟨b, off, v, ha, hb, c0, ⟨a0, cap0, e0, hc0, hi0⟩⟩ := hM 0 (by omega)
      have eg : L.getD 0 [] = L[0]'(by omega) := by rw [List.getD_eq_getElem?_getD, List.getElem?_eq_getElem (by omega)]; rfl
      rw [eg] at h
      have ix1 := @ix_Row a b off n cap 0 ha (by omega)
      simp only [Int.natCast_zero, Nat.add_zero] at ix1 c0
      subst e0
      generalize (L[0]'(by omega)).length = k at *
      clear ha hi0 hM eg hn hm
      by_cases h3 : k < 1
      · have d3 : decide ((k : Int) < 1) = true := decide_eq_true (by omega)
        have hgen := sgen; have hgen2 := sgen2; have hgen3 := sgen3; go_enter Tryd.func59, Tryd.ntmps59
        go_wp2
        go_ret
        exact ⟨rfl, rfl⟩
      · have d3 : decide ((k : Int) < 1) = false := decide_eq_false (by omega)
        have d4 : decide ((3 : Int) < (k : Int)) = true := decide_eq_true (by omega)
        have hgen := sgen; have hgen2 := sgen2; have hgen3 := sgen3; go_enter Tryd.func59, Tryd.ntmps59
        go_wp2
        go_ret
        exact ⟨rfl, rfl⟩
    · have d2 : ((m : Int) != (n : Int)) = true := by rw [bne_iff_ne]; omega
      clear h hM hn hm
      have hgen := sgen; have hgen2 := sgen2; have hgen3 := sgen3; go_enter Tryd.func59, Tryd.ntmps59
      go_wp2
      go_ret
      exact ⟨rfl, rfl⟩
end
section
open Go.RowKit
theorem gIx_at {L : List (List Int)} {hs : List Int} {j : Nat} (h0 : 0 < L.length) (h : j < L.length) (hh : j < hs.length) : gIx L hs j = rowE (L[0]'h0).length L[j] hs[j] := by
  unfold gIx
  simp only [List.getD_eq_getElem?_getD, List.getElem?_eq_getElem, h0, h, hh, Option.getD_some]
theorem rowE_len {k : Nat} {r : List Int} {h : Int} (hr : r.length ≠ k) : rowE k r h = 8 := by unfold rowE; rw [if_pos hr]
theorem rowE_num {k : Nat} {r : List Int} {h : Int} (hr : r.length = k) (hf : fe rowOne r = 3) : rowE k r h = 3 := by
  unfold rowE
  rw [if_neg (by omega), if_pos (by omega), hf]
theorem rowE_h {k : Nat} {r : List Int} {h : Int} (hr : r.length = k) (hf : fe rowOne r = 0) (hh : h < -1000 ∨ 1000 < h) : rowE k r h = 3 := by
  unfold rowE
  rw [if_neg (by omega), if_neg (by omega), if_pos hh]
theorem rowE_ok {k : Nat} {r : List Int} {h : Int} (hr : r.length = k) (hf : fe rowOne r = 0) (hh : ¬ (h < -1000 ∨ 1000 < h)) : rowE k r h = 0 := by
  unfold rowE
  rw [if_neg (by omega), if_neg (by omega), if_neg hh]
set_option maxHeartbeats 2000000 in
theorem c_gCheck_rows (a ah : Option Addr) (L : List (List Int)) (hs : List Int) (cap caph : Nat) (w : World) (h8 : L.length ≤ 8) (hM : MatSlice w a L) (hH : IntSlice w ah hs) (h : ¬ gForm L hs) : Calls Tryd.prog 59 #[.slice a L.length cap, .slice ah hs.length caph] w fun e w' => e = .returned (.int .i64 (fe (gIx L hs) (List.range L.length))) ∧ w = w' := by
  obtain ⟨n, hn⟩ : ∃ n, n = L.length := ⟨_, rfl⟩
  unfold gForm at h
  have hm : hs.length = n := by omega
  rw [← hn] at h8
  have n0 : 0 < L.length := by omega
  obtain ⟨b, off, v, ha, hb, c0, ⟨a0, cap0, e0, hc0, hi0⟩⟩ := hM 0 n0
  have eg : L.getD 0 [] = L[0]'n0 := by rw [List.getD_eq_getElem?_getD, List.getElem?_eq_getElem n0]; rfl
  rw [eg] at h
  have HIX := Lib.hid (fun j hj hh => gIx_at (L := L) (hs := hs) (j := j) n0 hj hh)
  obtain ⟨k, hk⟩ : ∃ k, k = (L[0]'n0).length := ⟨_, rfl⟩
  rw [← hk] at h HIX e0
  have HM := Lib.hid hM
  have HHs := Lib.hid hH
  have HN := Lib.hid hn
  have HMm := Lib.hid hm
  have HFE := Lib.hid (fun j (hj : j < n) (h0 : fe (gIx L hs) ((List.range n).take j) = 0) => And.intro (fe_snoc (gIx L hs) (List.range n) j (by simpa using hj)) (fe_at (gIx L hs) (List.range n) j (by simpa using hj) h0))
  have HTN := Lib.hid (show (List.range n).take n = List.range n from List.take_of_length_le (by simp))
  rw [← hn, hm]
  have h1 : decide ((8 : Int) < (n : Int)) = false := decide_eq_false (by omega)
  have d1 : ((n : Int) == 0) = false := by rw [beq_eq_false_iff_ne]; omega
  have d2 : ((n : Int) != (n : Int)) = false := by rw [bne_eq_false_iff_eq]
  have d3 : decide ((k : Int) < 1) = false := decide_eq_false (by omega)
  have d4 : decide ((3 : Int) < (k : Int)) = false := decide_eq_false (by omega)
  have ix1 := @ix_Row a b off n cap 0 ha (by omega)
  simp only [Int.natCast_zero, Nat.add_zero] at ix1 c0
  subst e0
  have k3 : k ≤ 3 := by omega
  clear ha hi0 hM hH eg h hn hm hk
  have hgen := sgen; have hgen2 := sgen2; have hgen3 := sgen3; go_enter Tryd.func59, Tryd.ntmps59
  go_wp2_with fail
  go_loopg [38] n (fun gk i wr => ∃ j : Nat, gk + j = n ∧ i = .int .i64 (j : Int) ∧ fe (gIx L hs) ((List.range n).take j) = 0 ∧ w = wr)
  case atStart => exact ⟨0, by omega, rfl, rfl, rfl⟩
  case round =>
    obtain ⟨j, hj, rfl, hfe, rfl⟩ := hrel
    by_cases hlt : j < n
    · have hn := HN.out
      have hm := HMm.out
      obtain ⟨f1, f2⟩ := HFE.out j hlt hfe
      rw [if_pos hfe, List.getElem_range] at f1
      rw [List.getElem_range] at f2
      have hx := HIX.out j (by omega) (by omega)
      rw [hx] at f1 f2
      obtain ⟨b2, off2, v2, ha2, hb2, c2, ⟨a3, cap3, e3, hc3, hi3⟩⟩ := HM.out j (by omega)
      obtain ⟨b4, off4, ha4, hb4, c4⟩ := HHs.out j (by omega)
      have ix2 := @ix_Row a b2 off2 n cap j ha2 hlt
      have ix4 := @ix_Int ah b4 off4 n caph j ha4 hlt
      subst e3
      clear ha2 ha4 hx hfe
      generalize L[j]'(by omega) = r at *
      generalize hs[j]'(by omega) = y at *
      have F1 := Lib.hid f1
      have F2 := Lib.hid f2
      have HR := Lib.hid hi3
      have HH := Lib.hid (fun w1 => c_inRange y 1000 w1 (by omega) (by omega))
      clear hi3 f1 f2 hn hm
      by_cases hrl : r.length = k
      · have e1 : ((r.length : Int) != (k : Int)) = false := by rw [bne_eq_false_iff_eq]; omega
        have HRL := Lib.hid hrl
        obtain ⟨rl, hrl2⟩ : ∃ rl, rl = r.length := ⟨_, rfl⟩
        have HRL2 := Lib.hid hrl2
        rw [← hrl2] at e1 hc3 c2
        have rl3 : rl ≤ 3 := by omega
        clear hrl hrl2
        obtain ⟨wo, rfl⟩ : ∃ wo : World, wo = w := ⟨_, rfl⟩
        go_wp2_with fail
        go_loopg [52] rl (fun gk i wr => ∃ q : Nat, gk + q = rl ∧ i = .int .i64 (q : Int) ∧ fe rowOne (r.take q) = 0 ∧ wo = wr)
        case atStart => exact ⟨0, by omega, rfl, rfl, rfl⟩
        case round =>
          obtain ⟨q, hq, rfl, hfq, rfl⟩ := hrel
          by_cases hql : q < rl
          · have hl := HRL2.out
            obtain ⟨b5, off5, ha5, hb5, c5⟩ := HR.out q (by omega)
            have g1 := fe_snoc rowOne r q (by omega)
            have g2 := fe_at rowOne r q (by omega) hfq
            rw [if_pos hfq] at g1
            have ix5 := @ix_Int a3 b5 off5 rl cap3 q ha5 hql
            clear ha5
            generalize r[q]'(by omega) = z at *
            have G1 := Lib.hid g1
            have G2 := Lib.hid g2
            have HQ := Lib.hid (fun w1 => c_inRange z 10 w1 (by omega) (by omega))
            clear g1 g2 hl hfq
            by_cases hz : -10 ≤ z ∧ z ≤ 10
            · have HZ := Lib.hid (show rowOne z = 0 by unfold rowOne; rw [if_neg (by omega)])
              rw [decide_eq_true hz] at HQ
              clear hz
              go_wp2_with (go_at_call 79; (first | (with_reducible refine (HQ.out _).mono ?_) | (with_reducible refine (HH.out _).mono ?_)); rintro e w' ⟨rfl, rfl⟩)
              go_roundg (rl - (q + 1))
              case measure => omega
              case rel => exact ⟨q + 1, by omega, rfl, by rw [G1.out, HZ.out], rfl⟩
            · have HZ := Lib.hid (show rowOne z = 3 by unfold rowOne; rw [if_pos (by omega)])
              have HE := Lib.hid ((F2.out (by rw [rowE_num HRL.out ((G2.out (by rw [HZ.out]; decide)).trans HZ.out)]; decide)).trans (rowE_num HRL.out ((G2.out (by rw [HZ.out]; decide)).trans HZ.out)))
              rw [decide_eq_false hz] at HQ
              clear hz
              go_wp2_with (go_at_call 79; (first | (with_reducible refine (HQ.out _).mono ?_) | (with_reducible refine (HH.out _).mono ?_)); rintro e w' ⟨rfl, rfl⟩)
              go_ret
              exact ⟨by rw [HE.out]; rfl, rfl⟩
          · have hqe : q = rl := by omega
            subst hqe
            rw [HRL2.out, List.take_of_length_le (Nat.le_refl _)] at hfq
            have HF := Lib.hid hfq
            clear hfq
            by_cases hy : -1000 ≤ y ∧ y ≤ 1000
            · have HZ := Lib.hid (rowE_ok (h := y) HRL.out HF.out (by omega))
              rw [decide_eq_true hy] at HH
              clear hy
              go_wp2_with (go_at_call 79; (first | (with_reducible refine (HQ.out _).mono ?_) | (with_reducible refine (HH.out _).mono ?_)); rintro e w' ⟨rfl, rfl⟩)
              go_roundg (n - (j + 1))
              case measure => omega
              case rel => exact ⟨j + 1, by omega, rfl, by rw [F1.out, HZ.out], rfl⟩
            · have HZ := Lib.hid (rowE_h (h := y) HRL.out HF.out (by omega))
              have HE := Lib.hid ((F2.out (by rw [HZ.out]; decide)).trans HZ.out)
              rw [decide_eq_false hy] at HH
              clear hy
              go_wp2_with (go_at_call 79; (first | (with_reducible refine (HQ.out _).mono ?_) | (with_reducible refine (HH.out _).mono ?_)); rintro e w' ⟨rfl, rfl⟩)
              go_ret
              exact ⟨by rw [HE.out]; rfl, rfl⟩
      · have e1 : ((r.length : Int) != (k : Int)) = true := by rw [bne_iff_ne]; omega
        have HZ := Lib.hid (rowE_len (h := y) hrl)
        have HE := Lib.hid ((F2.out (by rw [HZ.out]; decide)).trans HZ.out)
        go_wp2_with fail
        go_ret
        exact ⟨by rw [HE.out]; rfl, rfl⟩
    · have hje : j = n := by omega
      subst hje
      rw [HTN.out] at hfe
      have HF := Lib.hid hfe
      clear hfe
      go_wp2
      go_ret
      exact ⟨by rw [HF.out]; rfl, rfl⟩
end
section
open Go.RowKit
theorem c_beyondB (n m : Int) (w : World) (m0 : 0 ≤ m) (m1 : m ≤ 1000000) : Calls Tryd.prog 25 #[.int .i64 n, .int .i64 m] w fun e w' => e = .returned (.bool (decide (n < -m ∨ m < n))) ∧ w = w' := by
  have e1 : IntKind.i64.wrap (-m) = -m := IntWalk.i64_in _ (by omega)
  by_cases h1 : n < -m
  · have d1 : decide (n < -m) = true := decide_eq_true h1
    rw [decide_eq_true (show n < -m ∨ m < n from .inl h1)]
    have hgen := sgen; have hgen2 := sgen2; have hgen3 := sgen3; go_enter Tryd.func25, Tryd.ntmps25
    go_wp2
    go_ret
    exact ⟨rfl, rfl⟩
  · have d1 : decide (n < -m) = false := decide_eq_false h1
    by_cases h2 : m < n
    · have d2 : decide (m < n) = true := decide_eq_true h2
      rw [decide_eq_true (show n < -m ∨ m < n from .inr h2)]
      have hgen := sgen; have hgen2 := sgen2; have hgen3 := sgen3; go_enter Tryd.func25, Tryd.ntmps25
      go_wp2
      go_ret
      exact ⟨rfl, rfl⟩
    · have d2 : decide (m < n) = false := decide_eq_false h2
      rw [decide_eq_false (show ¬ (n < -m ∨ m < n) by omega)]
      have hgen := sgen; have hgen2 := sgen2; have hgen3 := sgen3; go_enter Tryd.func25, Tryd.ntmps25
      go_wp2
      go_ret
      exact ⟨rfl, rfl⟩
theorem c_gCheck (a ah : Option Addr) (L : List (List Int)) (hs : List Int) (cap caph : Nat) (w : World) (hM : MatSlice w a L) (hH : IntSlice w ah hs) : Calls Tryd.prog 59 #[.slice a L.length cap, .slice ah hs.length caph] w fun e w' => e = .returned (.int .i64 (gErr L hs)) ∧ w = w' := by
  unfold gErr
  by_cases h8 : 8 < L.length
  · rw [if_pos h8]; exact c_gCheck_large _ _ _ _ _ _ w h8
  · rw [if_neg h8]
    by_cases h : gForm L hs
    · rw [if_pos h]; exact c_gCheck_form a ah L hs cap caph w (by omega) hM h
    · rw [if_neg h]; exact c_gCheck_rows a ah L hs cap caph w (by omega) hM hH h
end
section
open Go.RowKit
theorem c_wSize (a : Int) (w : World) (h0 : -9000000000000000000 ≤ a) (h1 : a ≤ 9000000000000000000) : Calls Tryd.prog 107 #[.int .i64 a] w fun e w' => e = .returned (.int .u64 (a.natAbs : Int)) ∧ w = w' := by
  by_cases h : a < 0
  · have d1 : decide (a < 0) = true := decide_eq_true h
    have e1 : IntKind.u64.wrap a = a + 18446744073709551616 := by rw [IntKind.wrap_u64]; omega
    have e2 : IntKind.u64.wrap (-(a + 18446744073709551616)) = (a.natAbs : Int) := by rw [IntKind.wrap_u64]; omega
    have e3 : IntKind.u64.wrap (-a) = (a.natAbs : Int) := by rw [IntKind.wrap_u64]; omega
    have e4 : -a = (a.natAbs : Int) := by omega
    have H := Lib.hid e4
    have hgen := sgen; have hgen2 := sgen2; have hgen3 := sgen3; go_enter Tryd.func107, Tryd.ntmps107
    go_wp2
    go_ret
    exact ⟨rfl, rfl⟩
  · have d1 : decide (a < 0) = false := decide_eq_false h
    have e1 : IntKind.u64.wrap a = a := by rw [IntKind.wrap_u64]; omega
    have H := Lib.hid (show a = (a.natAbs : Int) by omega)
    rw [← H.out]
    have hgen := sgen; have hgen2 := sgen2; have hgen3 := sgen3; go_enter Tryd.func107, Tryd.ntmps107
    go_wp2
    go_ret
    exact ⟨rfl, rfl⟩
theorem c_Gcd (a b : Int) (w : World) (a0 : -9000000000000000000 ≤ a) (a1 : a ≤ 9000000000000000000) (b0 : -9000000000000000000 ≤ b) (b1 : b ≤ 9000000000000000000) : Calls Tryd.prog 81 #[.int .i64 a, .int .i64 b] w fun e w' => e = .returned (.tuple #[.int .i64 (Nat.gcd a.natAbs b.natAbs : Nat), .int .i64 0]) ∧ Below w.heap.size w w' := by
  have HA := Lib.hid (fun w1 => c_wSize a w1 a0 a1)
  have HB := Lib.hid (fun w1 => c_wSize b w1 b0 b1)
  obtain ⟨x0, hx0⟩ : ∃ x, x = a.natAbs := ⟨_, rfl⟩
  obtain ⟨y0, hy0⟩ : ∃ y, y = b.natAbs := ⟨_, rfl⟩
  have xb : x0 ≤ 9000000000000000000 := by omega
  have yb : y0 ≤ 9000000000000000000 := by omega
  rw [← hx0] at HA ⊢
  rw [← hy0] at HB ⊢
  clear hx0 hy0 a0 a1 b0 b1
  have hgen := sgen; have hgen2 := sgen2; have hgen3 := sgen3; go_enter Tryd.func81, Tryd.ntmps81
  go_wp2_with (go_at_call 107; (first | (with_reducible refine (HA.out _).mono ?_) | (with_reducible refine (HB.out _).mono ?_)); rintro e w' ⟨rfl, rfl⟩)
  go_loopg [6, 7] y0 (fun gk x6 x7 wr => ∃ x y : Nat, gk = y ∧ x ≤ 9000000000000000000 ∧ y ≤ 9000000000000000000 ∧ x6 = .int .u64 (x : Int) ∧ x7 = .int .u64 (y : Int) ∧ Nat.gcd x y = Nat.gcd x0 y0 ∧ Below w.heap.size w wr)
  case atStart => exact ⟨x0, y0, rfl, xb, yb, rfl, rfl, rfl, Below.refl _ _⟩
  case round =>
    obtain ⟨x, y, rfl, hx, hy, rfl, rfl, hg, hbel⟩ := hrel
    have HG := Lib.hid hg
    clear hg
    by_cases hz : gk = 0
    · subst hz
      have d1 : decide ((9223372036854775807 : Int) < (x : Int)) = false := decide_eq_false (by omega)
      have e1 : IntKind.i64.wrap (x : Int) = (x : Int) := IntWalk.i64_in _ (by omega)
      have HX := Lib.hid (show x = Nat.gcd x0 y0 by rw [← HG.out, Nat.gcd_zero_right])
      clear HG
      go_wp2
      go_ret2
      exact ⟨by rw [← HX.out]; rfl, hbel⟩
    · have d1 : ((gk : Int) != 0) = true := by simp; omega
      have d2 : ((gk : Int) == 0) = false := by simp; omega
      have hlt := Nat.mod_lt x (show 0 < gk by omega)
      have e1 : (x : Int).tmod (gk : Int) = ((x % gk : Nat) : Int) := by rw [Int.tmod_eq_emod_of_nonneg (by omega)]; rfl
      have e2 : IntKind.u64.wrap ((x % gk : Nat) : Int) = ((x % gk : Nat) : Int) := by rw [IntKind.wrap_u64]; omega
      have HX := Lib.hid (show Nat.gcd gk (x % gk) = Nat.gcd x0 y0 by rw [← HG.out, Nat.gcd_comm x gk, Nat.gcd_rec gk x, Nat.gcd_comm])
      clear HG
      generalize x % gk = r at *
      go_wp2
      go_quiet (fail)
      go_wp2
      go_roundg r
      case measure => omega
      case rel => exact ⟨gk, r, rfl, hy, by omega, rfl, rfl, HX.out, by exact belz⟩
end
end Go.Proofs.YtcgnhnmigmdalaaDoor
