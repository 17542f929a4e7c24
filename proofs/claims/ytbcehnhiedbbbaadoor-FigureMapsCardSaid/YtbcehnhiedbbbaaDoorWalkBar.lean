/- The contract of the law's bar: a figure of two points. -/
import Derived.Test.YtbcehnhiedbbbaaDoorWalkFg
import Derived.Test.YtbcehnhiedbbbaaDoorPlainFbx
set_option linter.unusedVariables false
set_option linter.unusedSimpArgs false
namespace Go.Proofs.YtbcehnhiedbbbaaDoor
open Go.RowKit
def barP : List Fp := [⟨0, 1, 0, 1⟩, ⟨1, 2, 1, 1⟩]
def barL : List (List Int) := [[0, 1]]
theorem bar_ok : fgE barP barL = 0 := by decide
theorem bar_high : highs barP = ⟨1, 2, 1, 1⟩ := rfl
theorem bar_text : fgT barP barL = [112, 32, 48, 32, 48, 10, 112, 32, 49, 47, 50, 32, 49, 10, 108, 32, 48, 32, 49, 10] := by decide +kernel
def BarIs (e : Ending) (w : World) : Prop := ∃ a b, e = .returned (.agg #[.slice a 2 2, .slice b 1 1]) ∧ FpSlice w a barP ∧ MatSlice w b barL
theorem c_bar (w : World) : Calls Tryd.prog 52 #[] w fun e w' => BarIs e w' ∧ Below w.heap.size w w' := by
  have hgen := sgen; have hgen2 := sgen2; have hgen3 := sgen3; go_enter Tryd.func52, Tryd.ntmps52
  go_wp2
  refine bodyPost_ret (v := .agg #[.slice (some ⟨w.heap.size + 1, 0, none⟩) 2 2, .slice (some ⟨w.heap.size + 1 + 1 + 1, 0, none⟩) 1 1]) (by simp only [results, Tryd.results52]; go_simp) rfl ⟨⟨_, _, rfl, ?_, ?_⟩, ?_⟩
  · intro k hk
    refine ⟨w.heap.size + 1, 0, rfl, ?_, ?_⟩
    · go_simp
    · have : k = 0 ∨ k = 1 := by simp only [barP, List.length_cons, List.length_nil] at hk; omega
      rcases this with rfl | rfl
      · refine ⟨?_, ?_, ?_, ?_⟩ <;> (simp only [barP]; go_simp)
      · refine ⟨?_, ?_, ?_, ?_⟩ <;> (simp only [barP]; go_simp)
  · intro k hk
    have : k = 0 := by simp only [barL, List.length_cons, List.length_nil] at hk; omega
    subst this
    refine ⟨w.heap.size + 1 + 1 + 1, 0, .slice (some ⟨w.heap.size + 1 + 1, 0, none⟩) 2 2, rfl, ?_, ?_, ⟨some ⟨w.heap.size + 1 + 1, 0, none⟩, 2, rfl, Nat.le_refl 2, ?_⟩⟩
    · go_simp
    · go_simp
    · intro j hj
      refine ⟨w.heap.size + 1 + 1, 0, rfl, ?_, ?_⟩
      · go_simp
      · have : j = 0 ∨ j = 1 := by simp only [barL, List.getElem_cons_zero, List.length_cons, List.length_nil] at hj; omega
        rcases this with rfl | rfl
        · simp only [barL]; go_simp
        · simp only [barL]; go_simp
  · exact belz
end Go.Proofs.YtbcehnhiedbbbaaDoor
