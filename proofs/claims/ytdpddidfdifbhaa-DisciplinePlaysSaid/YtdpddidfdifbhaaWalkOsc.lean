/- Contracts of the functions of package oscill and of the reference's Elapsed, Moved and ReadingErr. -/
import Derived.Test.YtdpddidfdifbhaaWalkInt
import Derived.Test.YtdpddidfdifbhaaPlainOsc
import Derived.Deep.RegionWith
import Derived.StillTailTactics
set_option linter.unusedVariables false
set_option linter.unusedSimpArgs false
namespace Go.Proofs.Ytdpddidfdifbhaa
open Go.RowKit
theorem c_isDrift (n : Int) (w : World) : Calls Try.prog 57 #[.int .i64 n] w fun e w' => e = .returned (.bool (driftB n)) ∧ w = w' := by
  have hgen := sgen; have hgen2 := sgen2; have hgen3 := sgen3; go_enter Try.func57, Try.ntmps57
  go_wp2
  all_goals go_ret
  all_goals exact ⟨ret_bool (by simp [driftB]; first | done | omega), rfl⟩
theorem c_isTick (n : Int) (w : World) : Calls Try.prog 60 #[.int .i64 n] w fun e w' => e = .returned (.bool (tickB n)) ∧ w = w' := by
  have hgen := sgen; have hgen2 := sgen2; have hgen3 := sgen3; go_enter Try.func60, Try.ntmps60
  go_wp2
  all_goals go_ret
  all_goals exact ⟨ret_bool (by simp [tickB]; first | done | omega), rfl⟩
theorem c_elapsed_ok (d t : Int) (w : World) (h1 : 0 ≤ d) (h2 : d ≤ 100000) (h3 : 0 ≤ t) (h4 : t ≤ 1000000000000) : Calls Try.prog 66 #[.int .i64 d, .int .i64 t] w fun e w' => e = .returned (.tuple #[.agg #[.int .i64 (elLo d t), .int .i64 (elHi d t)], .int .i64 0]) ∧ Below w.heap.size w w' := by
  have b1 := driftB_true h1 h2
  have b2 := tickB_true h3 h4
  have z1 : ((1000000 : Int) + d == 0) = false := by simp; omega
  have z2 : ((1000000 : Int) + d == -1) = false := by simp; omega
  have z3 : IntKind.i64.wrap ((1000000 : Int) + d) = 1000000 + d := IntWalk.i64_in _ (by omega)
  have z4 : IntKind.i64.wrap ((1000000 : Int) - d) = 1000000 - d := IntWalk.i64_in _ (by omega)
  have z5 : (0 : Int) ≤ t * 1000000 := by omega
  have z6 : (0 : Int) ≤ 1000000 + d := by omega
  have z7 : (t * 1000000).tdiv (1000000 + d) = elLo d t := Int.tdiv_eq_ediv_of_nonneg z5
  have z12 : -(-(t * 1000000) / (1000000 - d)) = elHi d t := rfl
  obtain ⟨z8, z9, z10⟩ := el_bd h1 h2 h3 h4
  have z11 : IntKind.i64.wrap (elLo d t) = elLo d t := IntWalk.i64_in _ (by omega)
  have hgen := sgen; have hgen2 := sgen2; have hgen3 := sgen3; go_enter Try.func66, Try.ntmps66
  go_wp2_with (first | (go_at_call 57; refine (c_isDrift _ _).mono ?_; rintro e w' ⟨rfl, rfl⟩) | (go_at_call 60; refine (c_isTick _ _).mono ?_; rintro e w' ⟨rfl, rfl⟩))
  go_region_with (go_at_call 67; refine (c_up _ _ _ (by omega) (by omega) (by omega) (by omega)).mono ?_; rintro e w' ⟨rfl, n, rfl⟩)
  all_goals go_wp2
  all_goals refine bodyPost_ret (v := _) (by simp only [results, Try.results66]; go_simp) rfl ⟨rfl, ?_⟩
  all_goals (repeat' (first | (with_reducible exact Below.refl _ _) | (with_reducible assumption) | (with_reducible refine Below.call ?_ ?_ (by with_reducible assumption)) | (with_reducible refine Below.alloc ?_ ?_ _) | (with_reducible refine Below.drew ?_) | (with_reducible refine below_drewN ?_ _) | (with_reducible refine Below.setCell ?_ ?_ _) | (with_reducible exact Nat.le_refl _) | omega | (simp only [World.size_alloc, World.size_setCell, World.size_drew, World.heap_drewN] at *; omega)))
theorem c_elapsed_arg (d t : Int) (w : World) (h : driftB d = false) : Calls Try.prog 66 #[.int .i64 d, .int .i64 t] w fun e w' => e = .returned (.tuple #[.agg #[.int .i64 0, .int .i64 0], .int .i64 1]) ∧ Below w.heap.size w w' := by
  have hgen := sgen; have hgen2 := sgen2; have hgen3 := sgen3; go_enter Try.func66, Try.ntmps66
  go_wp2_with (first | (go_at_call 57; refine (c_isDrift _ _).mono ?_; rintro e w' ⟨rfl, rfl⟩) | (go_at_call 60; refine (c_isTick _ _).mono ?_; rintro e w' ⟨rfl, rfl⟩))
  refine bodyPost_ret (v := _) (by simp only [results, Try.results66]; go_simp) rfl ⟨rfl, ?_⟩
  (repeat' (first | (with_reducible exact Below.refl _ _) | (with_reducible assumption) | (with_reducible refine Below.call ?_ ?_ (by with_reducible assumption)) | (with_reducible refine Below.alloc ?_ ?_ _) | (with_reducible refine Below.drew ?_) | (with_reducible refine below_drewN ?_ _) | (with_reducible refine Below.setCell ?_ ?_ _) | (with_reducible exact Nat.le_refl _) | omega | (simp only [World.size_alloc, World.size_setCell, World.size_drew, World.heap_drewN] at *; omega)))
theorem c_elapsed_range (d t : Int) (w : World) (h : driftB d = true) (h' : tickB t = false) : Calls Try.prog 66 #[.int .i64 d, .int .i64 t] w fun e w' => e = .returned (.tuple #[.agg #[.int .i64 0, .int .i64 0], .int .i64 3]) ∧ Below w.heap.size w w' := by
  have hgen := sgen; have hgen2 := sgen2; have hgen3 := sgen3; go_enter Try.func66, Try.ntmps66
  go_wp2_with (first | (go_at_call 57; refine (c_isDrift _ _).mono ?_; rintro e w' ⟨rfl, rfl⟩) | (go_at_call 60; refine (c_isTick _ _).mono ?_; rintro e w' ⟨rfl, rfl⟩))
  refine bodyPost_ret (v := _) (by simp only [results, Try.results66]; go_simp) rfl ⟨rfl, ?_⟩
  (repeat' (first | (with_reducible exact Below.refl _ _) | (with_reducible assumption) | (with_reducible refine Below.call ?_ ?_ (by with_reducible assumption)) | (with_reducible refine Below.alloc ?_ ?_ _) | (with_reducible refine Below.drew ?_) | (with_reducible refine below_drewN ?_ _) | (with_reducible refine Below.setCell ?_ ?_ _) | (with_reducible exact Nat.le_refl _) | omega | (simp only [World.size_alloc, World.size_setCell, World.size_drew, World.heap_drewN] at *; omega)))
theorem c_refElapsed (d t : Int) (w : World) (h1 : 0 ≤ d) (h2 : d ≤ 100000) (h3 : 0 ≤ t) (h4 : t ≤ 1000000000000) : Calls Try.prog 62 #[.int .i64 d, .int .i64 t] w fun e w' => e = .returned (.agg #[.int .i64 (elLo d t), .int .i64 (elHi d t)]) ∧ Below w.heap.size w w' := by
  have z1 : ((1000000 : Int) + d == 0) = false := by simp; omega
  have z2 : ((1000000 : Int) - d == 0) = false := by simp; omega
  have z3 : IntKind.i64.wrap ((1000000 : Int) + d) = 1000000 + d := IntWalk.i64_in _ (by omega)
  have z4 : IntKind.i64.wrap ((1000000 : Int) - d) = 1000000 - d := IntWalk.i64_in _ (by omega)
  have z5 : (0 : Int) ≤ t * 1000000 := by omega
  have z6 : (0 : Int) ≤ 1000000 + d := by omega
  have z6' : (0 : Int) ≤ 1000000 - d := by omega
  have z13 : IntKind.i64.wrap (t * 1000000) = t * 1000000 := IntWalk.i64_in _ (by omega)
  have z7 : (t * 1000000).tdiv (1000000 + d) = elLo d t := Int.tdiv_eq_ediv_of_nonneg z5
  obtain ⟨z8, z9, z10⟩ := el_bd h1 h2 h3 h4
  obtain ⟨u1, u2⟩ := elHi_up h1 h2 h3
  have z14 : (t * 1000000).tdiv (1000000 - d) = t * 1000000 / (1000000 - d) := Int.tdiv_eq_ediv_of_nonneg z5
  obtain ⟨q, hq⟩ : ∃ q, q = t * 1000000 / (1000000 - d) := ⟨_, rfl⟩
  rw [← hq] at u1 u2 z14
  have hq0 : 0 ≤ q := by rw [hq]; exact Int.ediv_nonneg z5 z6'
  have hq1 : q ≤ 1111111111112 := by
    by_cases hh : q * (1000000 - d) < t * 1000000
    · have := u1 hh; omega
    · have := u2 hh; omega
  have z11 : IntKind.i64.wrap (elLo d t) = elLo d t := IntWalk.i64_in _ (by omega)
  have z15 : IntKind.i64.wrap q = q := IntWalk.i64_in _ (by omega)
  have hqd : 0 ≤ q * d := Int.mul_nonneg hq0 h1
  have hqe : q * (1000000 - d) = q * 1000000 - q * d := Int.mul_sub _ _ _
  have z16 : 0 ≤ q * (1000000 - d) := Int.mul_nonneg hq0 z6'
  have z17 : q * (1000000 - d) ≤ 1111111111112000000 := by omega
  have HU1 := Lib.hid u1
  have HU2 := Lib.hid u2
  clear u1 u2 hq hqe hqd
  have hgen := sgen; have hgen2 := sgen2; have hgen3 := sgen3; go_enter Try.func62, Try.ntmps62
  go_wp2
  go_quiet (fail)
  go_wp2
  · have e1 : q + 1 = elHi d t := HU1.out (by assumption)
    refine bodyPost_ret (v := _) (by simp only [results, Try.results62]; go_simp) rfl ⟨rfl, ?_⟩
    (repeat' (first | (with_reducible exact Below.refl _ _) | (with_reducible assumption) | (with_reducible refine Below.call ?_ ?_ (by with_reducible assumption)) | (with_reducible refine Below.alloc ?_ ?_ _) | (with_reducible refine Below.drew ?_) | (with_reducible refine below_drewN ?_ _) | (with_reducible refine Below.setCell ?_ ?_ _) | (with_reducible exact Nat.le_refl _) | omega | (simp only [World.size_alloc, World.size_setCell, World.size_drew, World.heap_drewN] at *; omega)))
  · have e1 : q = elHi d t := HU2.out (by omega)
    subst e1
    refine bodyPost_ret (v := _) (by simp only [results, Try.results62]; go_simp) rfl ⟨rfl, ?_⟩
    (repeat' (first | (with_reducible exact Below.refl _ _) | (with_reducible assumption) | (with_reducible refine Below.call ?_ ?_ (by with_reducible assumption)) | (with_reducible refine Below.alloc ?_ ?_ _) | (with_reducible refine Below.drew ?_) | (with_reducible refine below_drewN ?_ _) | (with_reducible refine Below.setCell ?_ ?_ _) | (with_reducible exact Nat.le_refl _) | omega | (simp only [World.size_alloc, World.size_setCell, World.size_drew, World.heap_drewN] at *; omega)))
end Go.Proofs.Ytdpddidfdifbhaa
