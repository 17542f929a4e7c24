/- The contract of leap.Check. -/
import Derived.Test.YtenmiilndiaopaaWalkLps
import Derived.Deep.RegionHeld3
set_option linter.unusedVariables false
set_option linter.unusedSimpArgs false
namespace Go.Proofs.Ytenmiilndiaopaa
open Go.RowKit
theorem ix_Lp1 {a : Option Addr} {b off len cap k : Nat} (ha : a = some ⟨b, off, none⟩) (h0 : k ≠ 0) (hk : k < len) : ∀ w, (Instr.indexAt 24 (.slice a len cap) (.int .i64 ((k : Int) - 1))).run Try.prog w = .ok (.pointer (some ⟨b, off + (k - 1) * 2, none⟩)) w := by
  have e : ((k : Int) - 1) = ((k - 1 : Nat) : Int) := by omega
  rw [e]
  exact ix_Lp ha (by omega)
set_option maxHeartbeats 2000000 in
theorem c_lpc_small (a : Option Addr) (cap : Nat) (l : List Lp) (w : World) (hc : l.length ≤ cap) (h60 : ¬ 60 < l.length) (hs : LpSlice w a l) :
    Calls Try.prog 22 #[.slice a l.length cap] w fun e w' => e = .returned (.int .i64 (lpsFrom (-5000000) l)) ∧ Below w.heap.size w w' := by
  have h2 : (l.length : Int) ≤ 60 := by omega
  have hgen := sgen; have hgen2 := sgen2; have hgen3 := sgen3; go_enter Try.func22, Try.ntmps22
  go_wp2_with fail
  go_loopg [10] l.length (fun gk i wr => ∃ k : Nat, gk + k = l.length ∧ i = .int .i64 k ∧ Below w.heap.size w wr ∧ -5000000 ≤ lastOf l k ∧ lastOf l k ≤ 3999998 ∧ lpsFrom (lastOf l k) (l.drop k) = lpsFrom (-5000000) l)
  case atStart => exact ⟨0, by omega, rfl, Below.refl _ _, by unfold lastOf; simp, by unfold lastOf; simp, rfl⟩
  case round =>
    obtain ⟨k, hk, rfl, hbel, l1, l2, hl⟩ := hrel
    by_cases hlt : k < l.length
    · obtain ⟨b, off, ha, hb1, c0, c1⟩ := (hs.below (Nat.le_refl _) hbel) k hlt
      have ix1 := @ix_Lp a b off l.length cap k ha hlt
      have hsz := hbel.size
      have hprev : k ≠ 0 → wr.cell? ⟨b, off + (k - 1) * 2, none⟩ = some (.int .i64 (lastOf l k)) := by
        intro h0
        obtain ⟨b', off', ha', _, p0, _⟩ := (hs.below (Nat.le_refl _) hbel) (k - 1) (by omega)
        rw [ha] at ha'; simp at ha'
        rw [lastOf_pos l k h0 hlt, ha'.1, ha'.2]; exact p0
      have hix := fun h0 => @ix_Lp1 a b off l.length cap k ha h0 hlt
      have hls := lastOf_succ l k hlt
      clear ha
      rw [drop_cons l k hlt] at hl
      generalize l[k] = x at *
      generalize hlast : lastOf l k = last at *
      have hl' : (if lpOne last x ≠ 0 then lpOne last x else lpsFrom x.day (l.drop (k + 1))) = lpsFrom (-5000000) l := hl
      have nb : ¬ b = wr.heap.size := by omega
      have nb' : ¬ wr.heap.size = b := by omega
      have HLS := Lib.hid hls
      clear hl hls
      by_cases r : x.day < -3999998 ∨ 3999998 < x.day
      · have e : lpOne last x = 3 := by unfold lpOne; rw [if_pos r]
        rw [e, if_pos (by omega)] at hl'
        have HL := Lib.hid hl'
        clear hl' e hix hprev
        rcases r with r | r
        all_goals
          (go_wp2; go_ret; refine ⟨ret_int HL.out, ?_⟩; exact belz)
      · by_cases s : x.sh ≠ 1 ∧ x.sh ≠ -1
        · have e : lpOne last x = 1 := by unfold lpOne; rw [if_neg r, if_pos s]
          rw [e, if_pos (by omega)] at hl'
          have HL := Lib.hid hl'
          have s1 : (x.sh != 1) = true := by simp [s.1]
          have s2 : (x.sh != -1) = true := by simp [s.2]
          clear hl' e s hix hprev
          (go_wp2; go_ret; refine ⟨ret_int HL.out, ?_⟩; exact belz)
        · have s' : x.sh = 1 ∨ x.sh = -1 := by omega
          by_cases h0 : k = 0
          · have hl5 : last = -5000000 := by rw [← hlast, h0]; rfl
            have e : lpOne last x = 0 := by unfold lpOne; rw [if_neg r, if_neg s, if_neg (by omega)]
            rw [e, if_neg (by omega)] at hl'
            have HL := Lib.hid hl'
            have k1 : decide ((0 : Int) < (k : Int)) = false := by simp; omega
            have k2 : decide (0 < k) = false := by simp; omega
            have HK := Lib.hid h0
            clear hl' e s hix hprev h0 hlast hl5
            rcases s' with s' | s'
            · have s1 : (x.sh != 1) = false := by simp [s']
              clear s'
              go_wp2
              go_quiet (fail)
              go_wp2
              go_roundg (l.length - (k + 1))
              case measure => omega
              case rel =>
                refine ⟨k + 1, by omega, by go_num, ?_, by rw [HLS.out]; omega, by rw [HLS.out]; omega, by rw [HLS.out]; exact HL.out⟩
                exact belz
            · have s1 : (x.sh != 1) = true := by simp [s']
              have s2 : (x.sh != -1) = false := by simp [s']
              clear s'
              go_wp2
              go_quiet (fail)
              go_wp2
              go_roundg (l.length - (k + 1))
              case measure => omega
              case rel =>
                refine ⟨k + 1, by omega, by go_num, ?_, by rw [HLS.out]; omega, by rw [HLS.out]; omega, by rw [HLS.out]; exact HL.out⟩
                exact belz
          · have k1 : decide ((0 : Int) < (k : Int)) = true := by simp; omega
            have k2 : decide (0 < k) = true := by simp; omega
            have k3 : (0 : Int) < (k : Int) := by omega
            have ix2 := hix h0
            have hp := hprev h0
            have w1 : IntKind.i64.wrap ((k : Int) - 1) = (k : Int) - 1 := IntWalk.i64_in _ (by omega)
            have w2 : IntKind.i64.wrap (last + 2) = last + 2 := IntWalk.i64_in _ (by omega)
            clear hix hprev hlast
            by_cases o : x.day - last < 2
            · have e : lpOne last x = 9 := by unfold lpOne; rw [if_neg r, if_neg s, if_pos o]
              rw [e, if_pos (by omega)] at hl'
              have HL := Lib.hid hl'
              have ho : x.day < last + 2 := by omega
              clear hl' e s
              rcases s' with s' | s'
              · have s1 : (x.sh != 1) = false := by simp [s']
                clear s'
                go_wp2
                go_quiet (fail)
                go_wp2
                go_ret
                refine ⟨ret_int HL.out, ?_⟩
                exact belz
              · have s1 : (x.sh != 1) = true := by simp [s']
                have s2 : (x.sh != -1) = false := by simp [s']
                clear s'
                go_wp2
                go_quiet (fail)
                go_wp2
                go_ret
                refine ⟨ret_int HL.out, ?_⟩
                exact belz
            · have e : lpOne last x = 0 := by unfold lpOne; rw [if_neg r, if_neg s, if_neg o]
              rw [e, if_neg (by omega)] at hl'
              have HL := Lib.hid hl'
              have ho : last + 2 ≤ x.day := by omega
              clear hl' e s
              rcases s' with s' | s'
              · have s1 : (x.sh != 1) = false := by simp [s']
                clear s'
                go_wp2
                go_quiet (fail)
                go_wp2
                go_roundg (l.length - (k + 1))
                case measure => omega
                case rel =>
                  refine ⟨k + 1, by omega, by go_num, ?_, by rw [HLS.out]; omega, by rw [HLS.out]; omega, by rw [HLS.out]; exact HL.out⟩
                  exact belz
              · have s1 : (x.sh != 1) = true := by simp [s']
                have s2 : (x.sh != -1) = false := by simp [s']
                clear s'
                go_wp2
                go_quiet (fail)
                go_wp2
                go_roundg (l.length - (k + 1))
                case measure => omega
                case rel =>
                  refine ⟨k + 1, by omega, by go_num, ?_, by rw [HLS.out]; omega, by rw [HLS.out]; omega, by rw [HLS.out]; exact HL.out⟩
                  exact belz
    · have hkl : k = l.length := by omega
      rw [hkl, List.drop_of_length_le (Nat.le_refl _)] at hl
      have HL := Lib.hid hl
      clear hl hkl
      go_wp2
      go_ret
      exact ⟨ret_int HL.out, hbel⟩
theorem c_leapCheck (a : Option Addr) (cap : Nat) (l : List Lp) (w : World) (hc : l.length ≤ cap) (hs : LpSlice w a l) :
    Calls Try.prog 22 #[.slice a l.length cap] w fun e w' => e = .returned (.int .i64 (leapsErr l)) ∧ Below w.heap.size w w' := by
  by_cases h : 60 < l.length
  · have e : leapsErr l = 2 := by unfold leapsErr; rw [if_pos h]
    rw [e]; exact c_lpc_large a _ cap w h
  · rw [leapsErr_small h]; exact c_lpc_small a cap l w hc h hs
end Go.Proofs.Ytenmiilndiaopaa
