/- The walk through the law LeapCounts, whatever the table and the instant. -/
import Derived.Test.YtpjgoojaahbglaaWalkLcts
set_option linter.unusedVariables false
set_option linter.unusedSimpArgs false
namespace Go.Proofs.Ytpjgoojaahbglaa
open Go.RowKit
theorem walk_cts_any (t : Int) (a : Option Addr) (len cap : Nat) (l : List Lp) (w : World) (hlen : l.length = len) (hc : len ≤ cap) (hm : cap ≤ maxLen) (hs : LpSlice w a l) (t1 : -9223372036854775808 ≤ t) (t2 : t ≤ 9223372036854775807) :
    Calls Try.prog 9 #[.slice a len cap, .int .i64 t] w fun e w' => e = .returned (.bool true) ∧ Below w.heap.size w w' := by
  subst hlen
  unfold maxLen at hm
  by_cases h : leapsErr l = 0
  · have hv := lpOk_of h
    cases hd : dayB (t / 86400000) with
    | false => exact walk_cts_range a cap l t w hc (by omega) hs h t1 t2 hd
    | true =>
      have hdd : -4000000 ≤ t / 86400000 ∧ t / 86400000 ≤ 4000000 := by simpa [dayB] using hd
      have hr1 : -345600000000000 ≤ t := by omega
      have hr2 : t < 345600086400000 := by omega
      cases hg : gapB l (dOf t) (mOf t) with
      | true =>
        refine walk_cts_in a cap l t (dOf t) (mOf t) w hc hs h hr1 hr2 hd rfl rfl 0 15 false (.inr ⟨rfl, rfl, rfl⟩) (fun w1 hs1 => ?_) (fun w1 hs1 => ?_)
        · refine (c_leapCount a cap l t w1 hc h hs1 t1 t2 hd).mono ?_
          rintro e w' ⟨hb, ⟨_, he⟩ | ⟨h', _⟩⟩
          · exact ⟨he, hb⟩
          · rw [hg] at h'; contradiction
        · refine (c_refCount a cap l t w1 hc hv hs1 (by omega) (by omega)).mono ?_
          rintro e w' ⟨hb, ⟨_, he⟩ | ⟨h', _⟩⟩
          · exact ⟨he, hb⟩
          · rw [hg] at h'; contradiction
      | false =>
        refine walk_cts_in a cap l t (dOf t) (mOf t) w hc hs h hr1 hr2 hd rfl rfl (t + 1000 * lpSum l (dOf t)) 0 true (.inl ⟨rfl, rfl, rfl⟩) (fun w1 hs1 => ?_) (fun w1 hs1 => ?_)
        · refine (c_leapCount a cap l t w1 hc h hs1 t1 t2 hd).mono ?_
          rintro e w' ⟨hb, ⟨h', _⟩ | ⟨_, he⟩⟩
          · rw [hg] at h'; contradiction
          · exact ⟨he, hb⟩
        · refine (c_refCount a cap l t w1 hc hv hs1 (by omega) (by omega)).mono ?_
          rintro e w' ⟨hb, ⟨h', _⟩ | ⟨_, he⟩⟩
          · rw [hg] at h'; contradiction
          · exact ⟨he, hb⟩
  · exact walk_cts_bad a cap l t w hc (by omega) hs h
end Go.Proofs.Ytpjgoojaahbglaa
