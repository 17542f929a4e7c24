/- The contract of discipline.New where it refuses. -/
import Derived.Test.YtdpddidfdifbhaaWalkMov
set_option linter.unusedVariables false
set_option linter.unusedSimpArgs false
namespace Go.Proofs.Ytdpddidfdifbhaa
open Go.RowKit
/-- What New accepts. -/
def newOk (d s f : Int) : Prop := driftB d = true ∧ 1 ≤ s ∧ s ≤ 40 ∧ 0 ≤ f ∧ 2 * f < s
theorem c_new_bad (d s f : Int) (w : World) (h : ¬ newOk d s f) :
    Calls Try.prog 39 #[.int .i64 d, .int .i64 s, .int .i64 f] w fun e w' => e = .returned (.tuple #[.pointer none, .int .i64 1]) ∧ w = w' := by
  obtain ⟨q, hq⟩ : ∃ q, driftB d = q := ⟨_, rfl⟩
  cases q
  · clear h
    have hgen := sgen; have hgen2 := sgen2; have hgen3 := sgen3; go_enter Try.func39, Try.ntmps39; go_wp2_with (go_at_call 57; refine (c_isDrift _ _).mono ?_; rintro e w' ⟨rfl, rfl⟩); go_ret2; exact ⟨rfl, rfl⟩
  · by_cases a2 : s < 1
    · clear h
      have hgen := sgen; have hgen2 := sgen2; have hgen3 := sgen3; go_enter Try.func39, Try.ntmps39; go_wp2_with (go_at_call 57; refine (c_isDrift _ _).mono ?_; rintro e w' ⟨rfl, rfl⟩); go_ret2; exact ⟨rfl, rfl⟩
    · by_cases a3 : 40 < s
      · clear h
        have hgen := sgen; have hgen2 := sgen2; have hgen3 := sgen3; go_enter Try.func39, Try.ntmps39; go_wp2_with (go_at_call 57; refine (c_isDrift _ _).mono ?_; rintro e w' ⟨rfl, rfl⟩); go_ret2; exact ⟨rfl, rfl⟩
      · by_cases a4 : f < 0
        · clear h
          have hgen := sgen; have hgen2 := sgen2; have hgen3 := sgen3; go_enter Try.func39, Try.ntmps39; go_wp2_with (go_at_call 57; refine (c_isDrift _ _).mono ?_; rintro e w' ⟨rfl, rfl⟩); go_ret2; exact ⟨rfl, rfl⟩
        · by_cases a5 : s ≤ f
          · clear h
            have hgen := sgen; have hgen2 := sgen2; have hgen3 := sgen3; go_enter Try.func39, Try.ntmps39; go_wp2_with (go_at_call 57; refine (c_isDrift _ _).mono ?_; rintro e w' ⟨rfl, rfl⟩); go_ret2; exact ⟨rfl, rfl⟩
          · have a6 : s ≤ 2 * f := by
              unfold newOk at h
              rw [hq] at h
              simp at h
              omega
            have a7 : IntKind.i64.wrap (2 * f) = 2 * f := IntWalk.i64_in _ (by omega)
            clear h
            have hgen := sgen; have hgen2 := sgen2; have hgen3 := sgen3; go_enter Try.func39, Try.ntmps39; go_wp2_with (go_at_call 57; refine (c_isDrift _ _).mono ?_; rintro e w' ⟨rfl, rfl⟩); go_ret2; exact ⟨rfl, rfl⟩
end Go.Proofs.Ytdpddidfdifbhaa
