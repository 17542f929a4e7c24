/- The contract of planet.Names: five names. -/
import Derived.Test.YtjkhoepohiafeaaDoorWalkPl
import Derived.Test.YtjkhoepohiafeaaDoorWalkOwn
import Derived.Deep.AppendLies
import Derived.Deep.LoopGhost
import Derived.Laws.AppendOwnNone
set_option linter.unusedVariables false
set_option linter.unusedSimpArgs false
set_option maxRecDepth 100000
namespace Go.Proofs.YtjkhoepohiafeaaDoor
open Go.RowKit
theorem info_str : (Tryd.prog.info? 9).map (fun i => (i.zero, i.size, i.bytes)) = some (some (.string ⟨#[]⟩), 1, 16) := by kernel_rfl
set_option maxHeartbeats 2000000 in
theorem c_Names (w : World) (hP : PTab w) :
    Calls Tryd.prog 47 #[] w fun e w' => ∃ a cap, e = .returned (.slice a 5 cap) ∧ Below w.heap.size w w' := by
  obtain ⟨i0, hi0, hz0, hz1, hz2⟩ := info_parts info_str
  have hl := hP.lt
  obtain ⟨tt, fr, hg⟩ := hP.cells
  clear hP
  have hgen := sgen; have hgen2 := sgen2; have hgen3 := sgen3; go_enter Tryd.func47, Tryd.ntmps47
  iterate 21 (first | go_step | go_skip | go_back | go_upon | go_guarded)
  refine wp_load_row 93 (.global 0) rfl 0 ?_ tt plCells fr _ hg Tryd.underlying93 ?_ ?_ ?_
  focus rfl
  focus rfl
  focus kernel_rfl
  go_wp2_with fail
  go_loopg [1, 5] 5 (fun gk x1 i wr => ∃ (k : Nat) (xs : List Value), k ≤ 5 ∧ gk + k = 5 ∧ i = .int .i64 k ∧ Below w.heap.size w wr ∧ wr.ownsRow w.heap.size 9 1 x1 k xs)
  case atStart => exact ⟨0, [], by omega, by omega, rfl, Below.refl _ _, World.ownsRow_nil _ _ _ _⟩
  case round =>
    obtain ⟨k, xs, hkK, hk, rfl, hbel, hown⟩ := hrel
    have hsz := hbel.size
    rcases (show k = 0 ∨ k = 1 ∨ k = 2 ∨ k = 3 ∨ k = 4 ∨ k = 5 by omega) with rfl | rfl | rfl | rfl | rfl | rfl
    · have hix := plIx0
      have HO := Lib.hid hown
      clear hown
      go_wp2_with (at_builtin; refine wpList_append_own _ rfl (.tmp 8) (.tmp 11) 60 rfl w.heap.size 9 i0 (.string ⟨#[]⟩) 1 16 Tryd.underlying60 hi0 hz0 hz1 hz2 rfl (by decide) _ 0 _ rfl ((HO.out.alloc _).alloc _) ⟨wr.heap.size + 1, 0, none⟩ 1 1 [.string ⟨#[109, 101, 114, 99, 117, 114, 121]⟩] rfl rfl ?c1 ?c2 ?c3 ?c4 ?c5 ?_)
      case c1 =>
        intro j u hj
        match j, hj with
        | 0, hj => simp at hj; subst hj; go_simp
      case c2 => intro u hu; simp at hu; rcases hu with rfl; rfl
      case c3 => unfold maxLen; omega
      case c4 => omega
      case c5 => have := hbel.size; simp; omega
      intro v' w2 hown' hgrow hnil
      have hb2 : Below w.heap.size w w2 := by
        refine Below.grown ?_ hgrow ?_ ?_
        · have := hbel.size
          exact belz
        · have := hbel.size; simp; omega
        · intro g hg
          exact (HO.out.lt g hg).1
      have hown2 : ∃ ys, w2.ownsRow w.heap.size 9 1 v' 1 ys := ⟨_, hown'⟩
      clear hown' hgrow hnil
      obtain ⟨ys, hown2⟩ := hown2
      go_wp2
      go_roundg (5 - 1)
      case measure => omega
      case rel => exact ⟨1, ys, by omega, by omega, by go_num, hb2, hown2⟩
    · have hix := plIx1
      have HO := Lib.hid hown
      clear hown
      go_wp2_with (at_builtin; refine wpList_append_own _ rfl (.tmp 8) (.tmp 11) 60 rfl w.heap.size 9 i0 (.string ⟨#[]⟩) 1 16 Tryd.underlying60 hi0 hz0 hz1 hz2 rfl (by decide) _ 1 _ rfl ((HO.out.alloc _).alloc _) ⟨wr.heap.size + 1, 0, none⟩ 1 1 [.string ⟨#[118, 101, 110, 117, 115]⟩] rfl rfl ?c1 ?c2 ?c3 ?c4 ?c5 ?_)
      case c1 =>
        intro j u hj
        match j, hj with
        | 0, hj => simp at hj; subst hj; go_simp
      case c2 => intro u hu; simp at hu; rcases hu with rfl; rfl
      case c3 => unfold maxLen; omega
      case c4 => omega
      case c5 => have := hbel.size; simp; omega
      intro v' w2 hown' hgrow hnil
      have hb2 : Below w.heap.size w w2 := by
        refine Below.grown ?_ hgrow ?_ ?_
        · have := hbel.size
          exact belz
        · have := hbel.size; simp; omega
        · intro g hg
          exact (HO.out.lt g hg).1
      have hown2 : ∃ ys, w2.ownsRow w.heap.size 9 1 v' 2 ys := ⟨_, hown'⟩
      clear hown' hgrow hnil
      obtain ⟨ys, hown2⟩ := hown2
      go_wp2
      go_roundg (5 - 2)
      case measure => omega
      case rel => exact ⟨2, ys, by omega, by omega, by go_num, hb2, hown2⟩
    · have hix := plIx2
      have HO := Lib.hid hown
      clear hown
      go_wp2_with (at_builtin; refine wpList_append_own _ rfl (.tmp 8) (.tmp 11) 60 rfl w.heap.size 9 i0 (.string ⟨#[]⟩) 1 16 Tryd.underlying60 hi0 hz0 hz1 hz2 rfl (by decide) _ 2 _ rfl ((HO.out.alloc _).alloc _) ⟨wr.heap.size + 1, 0, none⟩ 1 1 [.string ⟨#[109, 97, 114, 115]⟩] rfl rfl ?c1 ?c2 ?c3 ?c4 ?c5 ?_)
      case c1 =>
        intro j u hj
        match j, hj with
        | 0, hj => simp at hj; subst hj; go_simp
      case c2 => intro u hu; simp at hu; rcases hu with rfl; rfl
      case c3 => unfold maxLen; omega
      case c4 => omega
      case c5 => have := hbel.size; simp; omega
      intro v' w2 hown' hgrow hnil
      have hb2 : Below w.heap.size w w2 := by
        refine Below.grown ?_ hgrow ?_ ?_
        · have := hbel.size
          exact belz
        · have := hbel.size; simp; omega
        · intro g hg
          exact (HO.out.lt g hg).1
      have hown2 : ∃ ys, w2.ownsRow w.heap.size 9 1 v' 3 ys := ⟨_, hown'⟩
      clear hown' hgrow hnil
      obtain ⟨ys, hown2⟩ := hown2
      go_wp2
      go_roundg (5 - 3)
      case measure => omega
      case rel => exact ⟨3, ys, by omega, by omega, by go_num, hb2, hown2⟩
    · have hix := plIx3
      have HO := Lib.hid hown
      clear hown
      go_wp2_with (at_builtin; refine wpList_append_own _ rfl (.tmp 8) (.tmp 11) 60 rfl w.heap.size 9 i0 (.string ⟨#[]⟩) 1 16 Tryd.underlying60 hi0 hz0 hz1 hz2 rfl (by decide) _ 3 _ rfl ((HO.out.alloc _).alloc _) ⟨wr.heap.size + 1, 0, none⟩ 1 1 [.string ⟨#[106, 117, 112, 105, 116, 101, 114]⟩] rfl rfl ?c1 ?c2 ?c3 ?c4 ?c5 ?_)
      case c1 =>
        intro j u hj
        match j, hj with
        | 0, hj => simp at hj; subst hj; go_simp
      case c2 => intro u hu; simp at hu; rcases hu with rfl; rfl
      case c3 => unfold maxLen; omega
      case c4 => omega
      case c5 => have := hbel.size; simp; omega
      intro v' w2 hown' hgrow hnil
      have hb2 : Below w.heap.size w w2 := by
        refine Below.grown ?_ hgrow ?_ ?_
        · have := hbel.size
          exact belz
        · have := hbel.size; simp; omega
        · intro g hg
          exact (HO.out.lt g hg).1
      have hown2 : ∃ ys, w2.ownsRow w.heap.size 9 1 v' 4 ys := ⟨_, hown'⟩
      clear hown' hgrow hnil
      obtain ⟨ys, hown2⟩ := hown2
      go_wp2
      go_roundg (5 - 4)
      case measure => omega
      case rel => exact ⟨4, ys, by omega, by omega, by go_num, hb2, hown2⟩
    · have hix := plIx4
      have HO := Lib.hid hown
      clear hown
      go_wp2_with (at_builtin; refine wpList_append_own _ rfl (.tmp 8) (.tmp 11) 60 rfl w.heap.size 9 i0 (.string ⟨#[]⟩) 1 16 Tryd.underlying60 hi0 hz0 hz1 hz2 rfl (by decide) _ 4 _ rfl ((HO.out.alloc _).alloc _) ⟨wr.heap.size + 1, 0, none⟩ 1 1 [.string ⟨#[115, 97, 116, 117, 114, 110]⟩] rfl rfl ?c1 ?c2 ?c3 ?c4 ?c5 ?_)
      case c1 =>
        intro j u hj
        match j, hj with
        | 0, hj => simp at hj; subst hj; go_simp
      case c2 => intro u hu; simp at hu; rcases hu with rfl; rfl
      case c3 => unfold maxLen; omega
      case c4 => omega
      case c5 => have := hbel.size; simp; omega
      intro v' w2 hown' hgrow hnil
      have hb2 : Below w.heap.size w w2 := by
        refine Below.grown ?_ hgrow ?_ ?_
        · have := hbel.size
          exact belz
        · have := hbel.size; simp; omega
        · intro g hg
          exact (HO.out.lt g hg).1
      have hown2 : ∃ ys, w2.ownsRow w.heap.size 9 1 v' 5 ys := ⟨_, hown'⟩
      clear hown' hgrow hnil
      obtain ⟨ys, hown2⟩ := hown2
      go_wp2
      go_roundg (5 - 5)
      case measure => omega
      case rel => exact ⟨5, ys, by omega, by omega, by go_num, hb2, hown2⟩
    · rcases own_form hown with ⟨-, h0⟩ | ⟨g, cap, rfl, -⟩
      · exact absurd h0 (by decide)
      clear hown
      go_wp2
      go_ret
      exact ⟨_, _, rfl, hbel⟩
end Go.Proofs.YtjkhoepohiafeaaDoor
