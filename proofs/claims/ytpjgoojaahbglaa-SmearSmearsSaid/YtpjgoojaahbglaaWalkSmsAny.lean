/- The walk through the law SmearSmears, whatever the table, the half and the count. -/
import Derived.Test.YtpjgoojaahbglaaWalkSms
set_option linter.unusedVariables false
set_option linter.unusedSimpArgs false
namespace Go.Proofs.Ytpjgoojaahbglaa
open Go.RowKit
theorem iErr_zero {t : Int} (h : dayB (t / 86400000) = true) : iErr t = 0 := by
  simp [dayB] at h
  unfold iErr
  rw [if_neg (by omega)]
theorem iErr_three {t : Int} (h : dayB (t / 86400000) = false) : iErr t = 3 := by
  simp [dayB] at h
  unfold iErr
  rw [if_pos (by omega)]
theorem walk_sms_any (h c : Int) (a : Option Addr) (len cap : Nat) (l : List Lp) (w : World) (hlen : l.length = len) (hc : len ≤ cap) (hs : LpSlice w a l) :
    Calls Try.prog 7 #[.slice a len cap, .int .i64 h, .int .i64 c] w fun e w' => e = .returned (.bool true) ∧ Below w.heap.size w w' := by
  subst hlen
  by_cases he : leapsErr l = 0
  · have hv := lpOk_of he
    by_cases hh : h < 1000 ∨ 43200000 < h
    · have e1 : smErr l h = 1 := by unfold smErr halfB; rw [if_neg (by omega), if_neg (by simp; omega)]
      refine walk_sms_half a cap l h c w hc hs he hh (fun w1 hs1 => ?_)
      have := c_smear_bad a cap l h c w1 hc (by omega) hs1
      rw [e1] at this
      exact this
    · have h1000 : 1000 ≤ h := by omega
      have h432 : h ≤ 43200000 := by omega
      have e0 : smErr l h = 0 := by unfold smErr halfB; rw [if_neg (by omega), if_pos (by simp; omega)]
      by_cases hf : farB c = true
      · have hS : SmearC a cap l h c 0 3 := fun w1 hs1 => c_smear_far a cap l h c w1 hc e0 hs1 hf
        have hf' : c < -345600864000000 ∨ 345600864000000 < c := by simpa [farB] using hf
        by_cases hb : c < -400000000000000 ∨ 400000000000000 < c
        · exact walk_sms_far a cap l h c w hc hs he h1000 h432 hb hS
        · have hbd := sm_bd0 (c := c) hv h1000 h432 (by omega) (by omega)
          refine walk_sms_in a cap l h c 0 3 0 w hc hs he h1000 h432 (by omega) (by omega) hS (fun w1 hs1 => c_smOffset_bad a cap l h c w1 3 (by omega) hS hs1) (.inr ⟨?_, rfl, rfl, rfl⟩)
          unfold iErr
          rw [if_pos]
          omega
      · have hf : farB c = false := by simpa using hf
        have hcc : -345600864000000 ≤ c ∧ c ≤ 345600864000000 := by simpa [farB] using hf
        have hbd := (sm_bd0 (c := c) hv h1000 h432 (by omega) (by omega)).1
        cases hd : dayB (sm c h 0 l / 86400000) with
        | true =>
          have hS : SmearC a cap l h c (sm c h 0 l) 0 := fun w1 hs1 => c_smear_ok a cap l h c w1 hc e0 hv h1000 h432 hs1 hf _ _ (.inl ⟨hd, rfl, rfl⟩)
          exact walk_sms_in a cap l h c _ 0 _ w hc hs he h1000 h432 (by omega) (by omega) hS (fun w1 hs1 => c_smOffset_ok a cap l h c w1 _ hbd.1 hbd.2 (by omega) (by omega) hS hs1) (.inl ⟨iErr_zero hd, rfl, rfl, rfl⟩)
        | false =>
          have hS : SmearC a cap l h c 0 3 := fun w1 hs1 => c_smear_ok a cap l h c w1 hc e0 hv h1000 h432 hs1 hf _ _ (.inr ⟨hd, rfl, rfl⟩)
          exact walk_sms_in a cap l h c 0 3 0 w hc hs he h1000 h432 (by omega) (by omega) hS (fun w1 hs1 => c_smOffset_bad a cap l h c w1 3 (by omega) hS hs1) (.inr ⟨iErr_three hd, rfl, rfl, rfl⟩)
  · have e1 : smErr l h = leapsErr l := by unfold smErr; rw [if_pos he]
    refine walk_sms_leaps a cap l h c w hc hs he (fun w1 hs1 => ?_)
    have := c_smear_bad a cap l h c w1 hc (by rw [e1]; exact he) hs1
    rw [e1] at this
    exact this
end Go.Proofs.Ytpjgoojaahbglaa
