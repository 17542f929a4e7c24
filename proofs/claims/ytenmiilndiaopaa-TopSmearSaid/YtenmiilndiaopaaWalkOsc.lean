/- Contracts of the functions of package oscill and of the reference's Elapsed, Moved and ReadingErr. -/
import Derived.Test.YtenmiilndiaopaaWalkInt
import Derived.Test.YtenmiilndiaopaaPlainOsc
import Derived.Deep.RegionWith
import Derived.StillTailTactics
set_option linter.unusedVariables false
set_option linter.unusedSimpArgs false
namespace Go.Proofs.Ytenmiilndiaopaa
open Go.RowKit
theorem c_isDrift (n : Int) (w : World) : Calls Try.prog 33 #[.int .i64 n] w fun e w' => e = .returned (.bool (driftB n)) ∧ w = w' := by
  have hgen := sgen; have hgen2 := sgen2; have hgen3 := sgen3; go_enter Try.func33, Try.ntmps33
  go_wp2
  all_goals go_ret
  all_goals exact ⟨ret_bool (by simp [driftB]; first | done | omega), rfl⟩
theorem c_isTick (n : Int) (w : World) : Calls Try.prog 34 #[.int .i64 n] w fun e w' => e = .returned (.bool (tickB n)) ∧ w = w' := by
  have hgen := sgen; have hgen2 := sgen2; have hgen3 := sgen3; go_enter Try.func34, Try.ntmps34
  go_wp2
  all_goals go_ret
  all_goals exact ⟨ret_bool (by simp [tickB]; first | done | omega), rfl⟩
theorem c_elapsed_ok (d t : Int) (w : World) (h1 : 0 ≤ d) (h2 : d ≤ 100000) (h3 : 0 ≤ t) (h4 : t ≤ 1000000000000) : Calls Try.prog 18 #[.int .i64 d, .int .i64 t] w fun e w' => e = .returned (.tuple #[.agg #[.int .i64 (elLo d t), .int .i64 (elHi d t)], .int .i64 0]) ∧ Below w.heap.size w w' := by
  have b1 := driftB_true h1 h2
  have b2 := tickB_true h3 h4
  have z1 : ((1000000 : Int) + d == 0) = false := by simp; omega
  have z2 : ((1000000 : Int) + d == -1) = false := by simp; omega
  have z3 : IntKind.i64.wrap ((1000000 : Int) + d) = 1000000 + d := IntWalk.i64_in _ (by omega)
  have z4 : IntKind.i64.wrap ((1000000 : Int) - d) = 1000000 - d := IntWalk.i64_in _ (by omega)
  have z5 : (0 : Int) ≤ t * 1000000 := by omega
  have z6 : (0 : Int) ≤ 1000000 + d := by omega
  have z7 : (t * 1000000).tdiv (1000000 + d) = elLo d t := Int.tdiv_eq_ediv_of_nonneg z5
  have z12 : -(-(t * 1000000) / (1000000 - d)) = elHi d t := rfl
  obtain ⟨z8, z9, z10⟩ := el_bd h1 h2 h3 h4
  have z11 : IntKind.i64.wrap (elLo d t) = elLo d t := IntWalk.i64_in _ (by omega)
  have hgen := sgen; have hgen2 := sgen2; have hgen3 := sgen3; go_enter Try.func18, Try.ntmps18
  go_wp2_with (first | (go_at_call 33; refine (c_isDrift _ _).mono ?_; rintro e w' ⟨rfl, rfl⟩) | (go_at_call 34; refine (c_isTick _ _).mono ?_; rintro e w' ⟨rfl, rfl⟩))
  go_region_with (go_at_call 35; refine (c_up _ _ _ (by omega) (by omega) (by omega) (by omega)).mono ?_; rintro e w' ⟨rfl, n, rfl⟩)
  all_goals go_wp2
  all_goals refine bodyPost_ret (v := _) (by simp only [results, Try.results18]; go_simp) rfl ⟨rfl, ?_⟩
  all_goals exact belz
theorem c_elapsed_arg (d t : Int) (w : World) (h : driftB d = false) : Calls Try.prog 18 #[.int .i64 d, .int .i64 t] w fun e w' => e = .returned (.tuple #[.agg #[.int .i64 0, .int .i64 0], .int .i64 1]) ∧ Below w.heap.size w w' := by
  have hgen := sgen; have hgen2 := sgen2; have hgen3 := sgen3; go_enter Try.func18, Try.ntmps18
  go_wp2_with (first | (go_at_call 33; refine (c_isDrift _ _).mono ?_; rintro e w' ⟨rfl, rfl⟩) | (go_at_call 34; refine (c_isTick _ _).mono ?_; rintro e w' ⟨rfl, rfl⟩))
  refine bodyPost_ret (v := _) (by simp only [results, Try.results18]; go_simp) rfl ⟨rfl, ?_⟩
  exact belz
theorem c_elapsed_range (d t : Int) (w : World) (h : driftB d = true) (h' : tickB t = false) : Calls Try.prog 18 #[.int .i64 d, .int .i64 t] w fun e w' => e = .returned (.tuple #[.agg #[.int .i64 0, .int .i64 0], .int .i64 3]) ∧ Below w.heap.size w w' := by
  have hgen := sgen; have hgen2 := sgen2; have hgen3 := sgen3; go_enter Try.func18, Try.ntmps18
  go_wp2_with (first | (go_at_call 33; refine (c_isDrift _ _).mono ?_; rintro e w' ⟨rfl, rfl⟩) | (go_at_call 34; refine (c_isTick _ _).mono ?_; rintro e w' ⟨rfl, rfl⟩))
  refine bodyPost_ret (v := _) (by simp only [results, Try.results18]; go_simp) rfl ⟨rfl, ?_⟩
  exact belz
end Go.Proofs.Ytenmiilndiaopaa
