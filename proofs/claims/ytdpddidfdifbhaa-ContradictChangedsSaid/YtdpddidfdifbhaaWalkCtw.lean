/- The fact contradictWorks of the laws. -/
import Derived.Test.YtdpddidfdifbhaaWalkLeast
import Derived.Test.YtdpddidfdifbhaaWalkChw
set_option linter.unusedVariables false
set_option linter.unusedSimpArgs false
namespace Go.Proofs.Ytdpddidfdifbhaa
open Go.RowKit
def th4 : List Bd := thL ++ [⟨0, 2, 30, 40⟩]
def th5 : List Bd := thL ++ [⟨0, 2, 0, 40⟩]
theorem th4_err : chErr 3 th4 = 0 := by decide +kernel
theorem th5_err : chErr 3 th5 = 0 := by decide +kernel
theorem th4_no : okB 3 th4 = false := by decide +kernel
theorem th4_len : th4.length = 3 := rfl
theorem th5_len : th5.length = 3 := rfl
theorem th4_kp : (kp 3 th4 th4.length).length = 3 := by decide +kernel
theorem th5_ok : okB 3 (wo th5 2) = true := by decide +kernel
theorem th5_is : (decide ((0 : Int) ≤ -(fw (wo th5 2) 3 2 0)) && decide (fw (wo th5 2) 3 0 2 ≤ 40)) = true := by decide +kernel
theorem c_three_own (w : World) : Calls Try.prog 52 #[] w fun e w' => e = .returned (.slice (some ⟨w.heap.size, 0, none⟩) 2 2) ∧ w'.ownsRow w.heap.size 47 4 (.slice (some ⟨w.heap.size, 0, none⟩) 2 2) 2 (bdCells thL) ∧ Below w.heap.size w w' := by
  have hgen := sgen; have hgen2 := sgen2; have hgen3 := sgen3; go_enter Try.func52, Try.ntmps52
  go_wp2
  go_ret
  refine ⟨rfl, ⟨rfl, .inr ⟨w.heap.size, 2, #[.int .i64 0, .int .i64 1, .int .i64 10, .int .i64 20, .int .i64 1, .int .i64 2, .int .i64 5, .int .i64 5], rfl, Nat.le_refl _, by show (w.heap.push _)[w.heap.size]? = some _; rw [Array.getElem?_push_size], by omega, by unfold maxLen; omega, rfl, rfl⟩⟩, ?_⟩
  (repeat' (first | (with_reducible exact Below.refl _ _) | (with_reducible assumption) | (with_reducible refine Below.call ?_ ?_ (by with_reducible assumption)) | (with_reducible refine Below.alloc ?_ ?_ _) | (with_reducible refine Below.drew ?_) | (with_reducible refine below_drewN ?_ _) | (with_reducible refine Below.setCell ?_ ?_ _) | (with_reducible exact Nat.le_refl _) | omega | (simp only [World.size_alloc, World.size_setCell, World.size_drew, World.heap_drewN] at *; omega)))
theorem c_ctw_least (g cap : Nat) (w : World) (hc : 3 ≤ cap) (h : BdOwn w g th4) : Calls Try.prog 34 #[.int .i64 3, .slice (some ⟨g, 0, none⟩) 3 cap] w fun e w' => ∃ a' c', e = .returned (.tuple #[.slice a' 3 c', .int .i64 0]) ∧ Below w.heap.size w w' := by
  have h1 := c_Least_ok 3 g 0 cap th4 w (by rw [th4_len]; exact hc) th4_err th4_no h.slice h.lt
  rw [th4_len] at h1
  refine (show Calls Try.prog 34 #[.int .i64 3, .slice (some ⟨g, 0, none⟩) 3 cap] w (LeastIs 3 th4 w) from h1).mono ?_
  rintro e w' ⟨v, rfl, ho, hb⟩
  rw [th4_kp] at ho
  rcases own_form ho with ⟨_, h2⟩ | ⟨g', cap', h1, _⟩
  · omega
  · subst h1; exact ⟨_, _, rfl, hb⟩
theorem c_ctw_imp (g cap : Nat) (w : World) (hc : 3 ≤ cap) (h : BdOwn w g th5) : Calls Try.prog 35 #[.int .i64 3, .slice (some ⟨g, 0, none⟩) 3 cap, .int .i64 2] w fun e w' => e = .returned (.tuple #[.bool true, .int .i64 0]) ∧ Below w.heap.size w w' := by
  have h := c_Imp_ok 3 g 0 cap 2 0 2 0 40 th5 w (by rw [th5_len]; exact hc) th5_err (by rw [th5_len]; omega) rfl th5_ok h.slice h.lt
  rw [th5_is, th5_len] at h
  exact h
set_option maxRecDepth 100000 in
set_option maxHeartbeats 1000000 in
theorem c_contradictWorks (w : World) : Calls Try.prog 33 #[] w fun e w' => e = .returned (.bool true) ∧ Below w.heap.size w w' := by
  obtain ⟨i0, hi0, iz0, iz1, iz2⟩ := info_parts info_Bd
  have hgen := sgen; have hgen2 := sgen2; have hgen3 := sgen3; go_enter Try.func33, Try.ntmps33
  go_wp2_with fail
  refine (c_three_own _).mono ?_
  rintro e w1 ⟨rfl, ho1, hb1⟩
  have hz1' := hb1.size
  have HO1 := Lib.hid ho1
  clear ho1
  go_wp2_with (at_builtin; refine wpList_append_own _ rfl (.tmp 6) (.tmp 8) 41 rfl w.heap.size 47 i0 (.agg #[.int .i64 0, .int .i64 0, .int .i64 0, .int .i64 0]) 4 32 Try.underlying41 hi0 iz0 iz1 iz2 rfl (by decide) _ 2 _ rfl (HO1.out.alloc _) ⟨w1.heap.size, 0, none⟩ 1 1 [.int .i64 0, .int .i64 2, .int .i64 30, .int .i64 40] rfl rfl ?_ ?_ ?_ ?_ ?_ ?_)
  any_goals first | (unfold maxLen; omega) | omega | (intro u hu; simp at hu; rcases hu with rfl | rfl | rfl | rfl <;> rfl) | (simp; omega) | (intro j u hj; match j, hj with | 0, hj => (simp at hj; subst hj; simp only [Addr.add]; go_simp) | 1, hj => (simp at hj; subst hj; simp only [Addr.add]; go_simp) | 2, hj => (simp at hj; subst hj; simp only [Addr.add]; go_simp) | 3, hj => (simp at hj; subst hj; simp only [Addr.add]; go_simp))
  intro v1 w2 hown hgrow hnil
  have hb2 : Below w.heap.size w w2 := by
    refine Below.grown (hb1.alloc hz1' _) hgrow (by simp; omega) ?_
    intro q hq
    simp [Value.ownBlock] at hq
    omega
  have hz2 := hb2.size
  obtain ⟨g, cap, rfl, q1, q2, q3, q4⟩ := own_bd (l := th4) hown (fun e => hnil e)
  have q2' : 3 ≤ cap := q2
  have Q4 := Lib.hid q4
  clear hown hgrow hnil q4 q2
  rw [th4_len]
  go_wp2_with fail
  refine (c_ctw_least g cap _ q2' Q4.out).mono ?_
  rintro e w3 ⟨a3, c3, rfl, hb3⟩
  have hbw3 : Below w.heap.size w w3 := hb2.trans (hb3.mono hz2)
  have hz3 := hbw3.size
  go_wp2_with fail
  refine (c_three_own _).mono ?_
  rintro e w4 ⟨rfl, ho4, hb4⟩
  have hbw4 : Below w.heap.size w w4 := hbw3.trans (hb4.mono hz3)
  have hz4 := hb4.size
  have HO4 := Lib.hid ho4
  clear ho4
  go_wp2_with (at_builtin; refine wpList_append_own _ rfl (.tmp 14) (.tmp 16) 41 rfl w3.heap.size 47 i0 (.agg #[.int .i64 0, .int .i64 0, .int .i64 0, .int .i64 0]) 4 32 Try.underlying41 hi0 iz0 iz1 iz2 rfl (by decide) _ 2 _ rfl (HO4.out.alloc _) ⟨w4.heap.size, 0, none⟩ 1 1 [.int .i64 0, .int .i64 2, .int .i64 0, .int .i64 40] rfl rfl ?_ ?_ ?_ ?_ ?_ ?_)
  any_goals first | (unfold maxLen; omega) | omega | (intro u hu; simp at hu; rcases hu with rfl | rfl | rfl | rfl <;> rfl) | (simp; omega) | (intro j u hj; match j, hj with | 0, hj => (simp at hj; subst hj; simp only [Addr.add]; go_simp) | 1, hj => (simp at hj; subst hj; simp only [Addr.add]; go_simp) | 2, hj => (simp at hj; subst hj; simp only [Addr.add]; go_simp) | 3, hj => (simp at hj; subst hj; simp only [Addr.add]; go_simp))
  intro v5 w5 hown hgrow hnil
  have hb5 : Below w.heap.size w w5 := by
    refine Below.grown (hbw4.alloc (by omega) _) hgrow (by simp; omega) ?_
    intro q hq
    simp [Value.ownBlock] at hq
    omega
  have hz5 := hb5.size
  obtain ⟨g5, cap5, rfl, q51, q52, q53, q54⟩ := own_bd (l := th5) hown (fun e => hnil e)
  have q52' : 3 ≤ cap5 := q52
  have Q54 := Lib.hid q54
  clear hown hgrow hnil q54 q52
  rw [th5_len]
  go_wp2_with fail
  refine (c_ctw_imp g5 cap5 _ q52' Q54.out).mono ?_
  rintro e w6 ⟨rfl, hb6⟩
  go_wp2_with fail
  go_ret
  exact ⟨rfl, hb5.trans (hb6.mono hz5)⟩
end Go.Proofs.Ytdpddidfdifbhaa
