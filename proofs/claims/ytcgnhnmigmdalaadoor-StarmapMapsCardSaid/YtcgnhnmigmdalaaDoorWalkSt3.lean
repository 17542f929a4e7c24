/- The contract of star.Names; starWorks; the walk through the law StarAts. -/
import Derived.Test.YtcgnhnmigmdalaaDoorWalkSt2
import Derived.Test.YtcgnhnmigmdalaaDoorWalkOwn
import Derived.Test.YtcgnhnmigmdalaaDoorAsA
import Derived.Test.YtcgnhnmigmdalaaDoorPlainStar
import Derived.Deep.AppendLies
import Derived.Deep.LoopGhost
import Derived.Laws.AppendOwnNone
set_option linter.unusedVariables false
set_option linter.unusedSimpArgs false
set_option maxRecDepth 100000
namespace Go.Proofs.YtcgnhnmigmdalaaDoor
open Go.RowKit
theorem info_str : (Tryd.prog.info? 9).map (fun i => (i.zero, i.size, i.bytes)) = some (some (.string ⟨#[]⟩), 1, 16) := by kernel_rfl
set_option maxHeartbeats 2000000 in
theorem c_stNames (w : World) (hP : STab w) :
    Calls Tryd.prog 19 #[] w fun e w' => ∃ a cap, e = .returned (.slice a 8 cap) ∧ Below w.heap.size w w' := by
  obtain ⟨i0, hi0, hz0, hz1, hz2⟩ := info_parts info_str
  have hl := hP.lt
  obtain ⟨tt, fr, hg⟩ := hP.cells
  clear hP
  have hgen := sgen; have hgen2 := sgen2; have hgen3 := sgen3; go_enter Tryd.func19, Tryd.ntmps19
  iterate 12 (first | go_step | go_skip | go_back | go_upon | go_guarded)
  (first | (refine wp_load_row 93 (.global 0) rfl 0 ?_ tt stCells fr _ hg Tryd.underlying93 ?_ ?_ ?_) | ((first | go_step | go_skip | go_back | go_upon | go_guarded); first | (refine wp_load_row 93 (.global 0) rfl 0 ?_ tt stCells fr _ hg Tryd.underlying93 ?_ ?_ ?_) | ((first | go_step | go_skip | go_back | go_upon | go_guarded); first | (refine wp_load_row 93 (.global 0) rfl 0 ?_ tt stCells fr _ hg Tryd.underlying93 ?_ ?_ ?_) | ((first | go_step | go_skip | go_back | go_upon | go_guarded); first | (refine wp_load_row 93 (.global 0) rfl 0 ?_ tt stCells fr _ hg Tryd.underlying93 ?_ ?_ ?_) | ((first | go_step | go_skip | go_back | go_upon | go_guarded); first | (refine wp_load_row 93 (.global 0) rfl 0 ?_ tt stCells fr _ hg Tryd.underlying93 ?_ ?_ ?_) | ((first | go_step | go_skip | go_back | go_upon | go_guarded); first | (refine wp_load_row 93 (.global 0) rfl 0 ?_ tt stCells fr _ hg Tryd.underlying93 ?_ ?_ ?_) | ((first | go_step | go_skip | go_back | go_upon | go_guarded); first | (refine wp_load_row 93 (.global 0) rfl 0 ?_ tt stCells fr _ hg Tryd.underlying93 ?_ ?_ ?_) | ((first | go_step | go_skip | go_back | go_upon | go_guarded); first | (refine wp_load_row 93 (.global 0) rfl 0 ?_ tt stCells fr _ hg Tryd.underlying93 ?_ ?_ ?_) | ((first | go_step | go_skip | go_back | go_upon | go_guarded); first | (refine wp_load_row 93 (.global 0) rfl 0 ?_ tt stCells fr _ hg Tryd.underlying93 ?_ ?_ ?_) | ((first | go_step | go_skip | go_back | go_upon | go_guarded); first | (refine wp_load_row 93 (.global 0) rfl 0 ?_ tt stCells fr _ hg Tryd.underlying93 ?_ ?_ ?_) | ((first | go_step | go_skip | go_back | go_upon | go_guarded); first | (refine wp_load_row 93 (.global 0) rfl 0 ?_ tt stCells fr _ hg Tryd.underlying93 ?_ ?_ ?_) | ((first | go_step | go_skip | go_back | go_upon | go_guarded); first | (refine wp_load_row 93 (.global 0) rfl 0 ?_ tt stCells fr _ hg Tryd.underlying93 ?_ ?_ ?_) | ((first | go_step | go_skip | go_back | go_upon | go_guarded); first | (refine wp_load_row 93 (.global 0) rfl 0 ?_ tt stCells fr _ hg Tryd.underlying93 ?_ ?_ ?_) | ((first | go_step | go_skip | go_back | go_upon | go_guarded); first | (refine wp_load_row 93 (.global 0) rfl 0 ?_ tt stCells fr _ hg Tryd.underlying93 ?_ ?_ ?_) | ((first | go_step | go_skip | go_back | go_upon | go_guarded); (refine wp_load_row 93 (.global 0) rfl 0 ?_ tt stCells fr _ hg Tryd.underlying93 ?_ ?_ ?_))))))))))))))))
  focus rfl
  focus rfl
  focus kernel_rfl
  go_wp2_with fail
  go_loopg [1, 5] 8 (fun gk x1 i wr => ∃ (k : Nat) (xs : List Value), k ≤ 8 ∧ gk + k = 8 ∧ i = .int .i64 k ∧ Below w.heap.size w wr ∧ wr.ownsRow w.heap.size 9 1 x1 k xs)
  case atStart => exact ⟨0, [], by omega, by omega, rfl, Below.refl _ _, World.ownsRow_nil _ _ _ _⟩
  case round =>
    obtain ⟨k, xs, hkK, hk, rfl, hbel, hown⟩ := hrel
    have hsz := hbel.size
    by_cases hlt : k < 8
    · have hix := fun w => stIx w k hlt
      have hk8 : decide ((k : Int) < 8) = true := decide_eq_true (by omega)
      generalize stNm k = nm at *
      generalize stRa k = ra at *
      generalize stDec k = dec at *
      have HO := Lib.hid hown
      clear hown
      go_wp2_with (at_builtin; refine wpList_append_own _ rfl (.tmp 8) (.tmp 11) 46 rfl w.heap.size 9 i0 (.string ⟨#[]⟩) 1 16 Tryd.underlying46 hi0 hz0 hz1 hz2 rfl (by decide) _ k _ rfl ((HO.out.alloc _).alloc _) ⟨wr.heap.size + 1, 0, none⟩ 1 1 [.string ⟨nm.toArray⟩] rfl rfl ?c1 ?c2 ?c3 ?c4 ?c5 ?_)
      case c1 =>
        intro j u hj
        match j, hj with
        | 0, hj => simp at hj; subst hj; go_simp
      case c2 => intro u hu; simp at hu; rcases hu with rfl; rfl
      case c3 => unfold maxLen; omega
      case c4 => omega
      case c5 => have := hbel.size; simp; omega
      intro v' w2 hown' hgrow hnil
      have hb2 : Below w.heap.size w w2 := by
        refine Below.grown ?_ hgrow ?_ ?_
        · have := hbel.size
          exact belz
        · have := hbel.size; simp; omega
        · intro g hg
          exact (HO.out.lt g hg).1
      have hown2 : ∃ ys, w2.ownsRow w.heap.size 9 1 v' (k + 1) ys := ⟨_, hown'⟩
      clear hown' hgrow hnil
      obtain ⟨ys, hown2⟩ := hown2
      go_wp2
      go_roundg (gk - 1)
      case measure => omega
      case rel => exact ⟨k + 1, ys, by omega, by omega, by go_num, hb2, hown2⟩
    · obtain rfl : k = 8 := by omega
      rcases own_form hown with ⟨-, h0⟩ | ⟨g, cap, rfl, -⟩
      · exact absurd h0 (by decide)
      clear hown
      go_wp2
      go_ret
      exact ⟨_, _, rfl, hbel⟩
theorem vega_st : IsSt 7 ⟨#[118, 101, 103, 97]⟩ := by
  refine ⟨?_, fun _ => by decide +kernel⟩
  intro j hj
  rcases (show j = 0 ∨ j = 1 ∨ j = 2 ∨ j = 3 ∨ j = 4 ∨ j = 5 ∨ j = 6 by omega) with rfl | rfl | rfl | rfl | rfl | rfl | rfl <;> decide +kernel
theorem vega_at (w : World) (hT : Tab w) (hP : STab w) : Calls Tryd.prog 43 #[.string ⟨#[118, 101, 103, 97]⟩, .int .i64 0] w fun e w' => e = .returned (.tuple #[.agg #[.int .i64 (angLo 775650000 97300000 [] 100 0), .int .i64 (angHi 775650000 97300000 [] 100 0)], .agg #[.int .i64 107732400, .int .i64 107732600], .int .i64 0]) ∧ Below w.heap.size w w' := by
  have e1 : stRa 7 = 775650000 := by decide
  have e2 : stDec 7 - 100 = 107732400 := by decide
  have e3 : stDec 7 + 100 = 107732600 := by decide
  have h := c_starAt ⟨#[118, 101, 103, 97]⟩ 0 7 w hP hT vega_st (by decide) (by decide)
  rw [e1, e2, e3] at h
  exact h
end Go.Proofs.YtcgnhnmigmdalaaDoor
