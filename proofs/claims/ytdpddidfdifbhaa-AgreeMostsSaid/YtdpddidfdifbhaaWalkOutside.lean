/- The contract of agree.Outside. -/
import Derived.Test.YtdpddidfdifbhaaWalkWithin
import Derived.Test.YtdpddidfdifbhaaWalkOwn
import Derived.Test.YtdpddidfdifbhaaIxInt1
import Derived.WalkSmall
set_option linter.unusedVariables false
set_option linter.unusedSimpArgs false
namespace Go.Proofs.Ytdpddidfdifbhaa
open Go.RowKit
theorem info_int : (Try.prog.info? 3).map (fun i => (i.zero, i.size, i.bytes)) = some (some (.int .i64 0), 1, 8) := by kernel_rfl
theorem c_Outside_bad (a : Option Addr) (cap : Nat) (l : List Sp) (w : World) (hc : l.length ≤ cap) (hs : SpSlice w a l) (he : spsErr l ≠ 0) :
    Calls Try.prog 23 #[.slice a l.length cap] w fun e w' => e = .returned (.tuple #[.slice none 0 0, .int .i64 (spsErr l)]) ∧ Below w.heap.size w w' := by
  have h1 : (spsErr l != 0) = true := by simp [he]
  have hgen := sgen; have hgen2 := sgen2; have hgen3 := sgen3; go_enter Try.func23, Try.ntmps23
  go_wp2_with (go_at_call 17; refine (c_agCheck _ _ l _ hc (hs.below (Nat.le_refl _) (by (repeat' (first | (with_reducible exact Below.refl _ _) | (with_reducible assumption) | (with_reducible refine Below.call ?_ ?_ (by with_reducible assumption)) | (with_reducible refine Below.alloc ?_ ?_ _) | (with_reducible refine Below.drew ?_) | (with_reducible refine below_drewN ?_ _) | (with_reducible refine Below.setCell ?_ ?_ _) | (with_reducible exact Nat.le_refl _) | omega | (simp only [World.size_alloc, World.size_setCell, World.size_drew, World.heap_drewN] at *; omega)))))).mono ?_; rintro e w1 ⟨rfl, hb⟩; have hz := hb.size; (try simp only [World.size_alloc, World.size_setCell, World.size_drew, World.heap_drewN] at hz); (try have h_w_0 : w.heap.size < w1.heap.size := by omega); (try have e_w_0 : ¬ w.heap.size = w1.heap.size := by omega); (try have d_w_0 : ¬ w1.heap.size = w.heap.size := by omega); (try (refine bcUse (n := w.heap.size) hb ?_ ?_; (focus ((try simp only [World.size_alloc, World.size_setCell, World.size_drew, World.heap_drewN]); omega)); intro _ _)))
  go_ret2
  refine ⟨rfl, ?_⟩
  (repeat' (first | (with_reducible exact Below.refl _ _) | (with_reducible assumption) | (with_reducible refine Below.call ?_ ?_ (by with_reducible assumption)) | (with_reducible refine Below.alloc ?_ ?_ _) | (with_reducible refine Below.drew ?_) | (with_reducible refine below_drewN ?_ _) | (with_reducible refine Below.setCell ?_ ?_ _) | (with_reducible exact Nat.le_refl _) | omega | (simp only [World.size_alloc, World.size_setCell, World.size_drew, World.heap_drewN] at *; omega)))
set_option maxRecDepth 100000 in
set_option maxHeartbeats 2000000 in
theorem c_Outside_ok (a : Option Addr) (cap : Nat) (l : List Sp) (w : World) (hc : l.length ≤ cap) (hs : SpSlice w a l) (he : spsErr l = 0) :
    Calls Try.prog 23 #[.slice a l.length cap] w fun e w' => Below w.heap.size w w' ∧ ∃ a' cap', e = .returned (.tuple #[.slice a' (outs (mLo l) (mHi l) l).length cap', .int .i64 0]) ∧ (outs (mLo l) (mHi l) l).length ≤ cap' ∧ IntSlice w' a' (outs (mLo l) (mHi l) l) := by
  have h40 := (spsOk_of he).len
  have h2 : (l.length : Int) ≤ 40 := by omega
  have hK := fun w1 hs1 => c_agCheck a cap l w1 hc hs1
  rw [he] at hK
  obtain ⟨i0, hi0, hz0, hz1, hz2⟩ := info_parts info_int
  have hM := fun w1 hs1 => c_most a cap l w1 hc h40 hs1
  obtain ⟨lo, hlo⟩ : ∃ lo, mLo l = lo := ⟨_, rfl⟩
  obtain ⟨hi, hhi⟩ : ∃ hi, mHi l = hi := ⟨_, rfl⟩
  obtain ⟨mk, hmk⟩ : ∃ mk, mK l = mk := ⟨_, rfl⟩
  rw [hlo, hhi, hmk] at hM
  rw [hlo, hhi]
  clear hlo hhi hmk
  have hgen := sgen; have hgen2 := sgen2; have hgen3 := sgen3; go_enter Try.func23, Try.ntmps23
  go_wp2_with (first | (go_at_call 17; refine (hK _ (hs.below (Nat.le_refl _) (by (repeat' (first | (with_reducible exact Below.refl _ _) | (with_reducible assumption) | (with_reducible refine Below.call ?_ ?_ (by with_reducible assumption)) | (with_reducible refine Below.alloc ?_ ?_ _) | (with_reducible refine Below.drew ?_) | (with_reducible refine below_drewN ?_ _) | (with_reducible refine Below.setCell ?_ ?_ _) | (with_reducible exact Nat.le_refl _) | omega | (simp only [World.size_alloc, World.size_setCell, World.size_drew, World.heap_drewN] at *; omega)))))).mono ?_; rintro e w1 ⟨rfl, hb⟩; have hz := hb.size; (try simp only [World.size_alloc, World.size_setCell, World.size_drew, World.heap_drewN] at hz); (try have h_w_0 : w.heap.size < w1.heap.size := by omega); (try have e_w_0 : ¬ w.heap.size = w1.heap.size := by omega); (try have d_w_0 : ¬ w1.heap.size = w.heap.size := by omega); (try (refine bcUse (n := w.heap.size) hb ?_ ?_; (focus ((try simp only [World.size_alloc, World.size_setCell, World.size_drew, World.heap_drewN]); omega)); intro _ _))) | (go_at_call 48; refine (hM _ (hs.below (Nat.le_refl _) (by (repeat' (first | (with_reducible exact Below.refl _ _) | (with_reducible assumption) | (with_reducible refine Below.call ?_ ?_ (by with_reducible assumption)) | (with_reducible refine Below.alloc ?_ ?_ _) | (with_reducible refine Below.drew ?_) | (with_reducible refine below_drewN ?_ _) | (with_reducible refine Below.setCell ?_ ?_ _) | (with_reducible exact Nat.le_refl _) | omega | (simp only [World.size_alloc, World.size_setCell, World.size_drew, World.heap_drewN] at *; omega)))))).mono ?_; rintro e w2 ⟨rfl, hb⟩; have hz := hb.size; (try simp only [World.size_alloc, World.size_setCell, World.size_drew, World.heap_drewN] at hz); (try have h_w_0 : w.heap.size < w2.heap.size := by omega); (try have e_w_0 : ¬ w.heap.size = w2.heap.size := by omega); (try have d_w_0 : ¬ w2.heap.size = w.heap.size := by omega); (try (refine bcUse (n := w.heap.size) hb ?_ ?_; (focus ((try simp only [World.size_alloc, World.size_setCell, World.size_drew, World.heap_drewN]); omega)); intro _ _)); (try have h_w1_0 : w1.heap.size < w2.heap.size := by omega); (try have e_w1_0 : ¬ w1.heap.size = w2.heap.size := by omega); (try have d_w1_0 : ¬ w2.heap.size = w1.heap.size := by omega); (try (refine bcUse (n := w1.heap.size) hb ?_ ?_; (focus ((try simp only [World.size_alloc, World.size_setCell, World.size_drew, World.heap_drewN]); omega)); intro _ _))))
  have hbw2 : Below w.heap.size w w2 := by (repeat' (first | (with_reducible exact Below.refl _ _) | (with_reducible assumption) | (with_reducible refine Below.call ?_ ?_ (by with_reducible assumption)) | (with_reducible refine Below.alloc ?_ ?_ _) | (with_reducible refine Below.drew ?_) | (with_reducible refine below_drewN ?_ _) | (with_reducible refine Below.setCell ?_ ?_ _) | (with_reducible exact Nat.le_refl _) | omega | (simp only [World.size_alloc, World.size_setCell, World.size_drew, World.heap_drewN] at *; omega)))
  have hz2' := hbw2.size
  go_loopg [7, 22] l.length (fun gk x7 i wr => ∃ k : Nat, gk + k = l.length ∧ i = .int .i64 k ∧ Below w.heap.size w wr ∧ SpAt wr w2.heap.size lo hi ∧ wr.ownsRow (w2.heap.size + 1) 3 1 x7 (outs lo hi (l.take k)).length ((outs lo hi (l.take k)).map (Value.int .i64)))
  case atStart =>
    refine ⟨0, by omega, rfl, ?_, ?_, World.ownsRow_nil _ _ _ _⟩
    · (repeat' (first | (with_reducible exact Below.refl _ _) | (with_reducible assumption) | (with_reducible refine Below.call ?_ ?_ (by with_reducible assumption)) | (with_reducible refine Below.alloc ?_ ?_ _) | (with_reducible refine Below.drew ?_) | (with_reducible refine below_drewN ?_ _) | (with_reducible refine Below.setCell ?_ ?_ _) | (with_reducible exact Nat.le_refl _) | omega | (simp only [World.size_alloc, World.size_setCell, World.size_drew, World.heap_drewN] at *; omega)))
    · constructor <;> go_simp
  case round =>
    obtain ⟨k, hk, rfl, hbel, hB, hown⟩ := hrel
    by_cases hlt : k < l.length
    · obtain ⟨b, off, ha, hb1, c0, c1⟩ := (hs.below (Nat.le_refl _) hbel) k hlt
      have ix1 := @ix_Sp a b off l.length cap k ha hlt
      have hsz := hbel.size
      have hsn := outs_snoc lo hi l k hlt
      have hle := outs_lek lo hi l k
      clear ha
      generalize l[k] = y at *
      generalize outs lo hi (l.take k) = os at *
      have HN := Lib.hid hsn
      have HB := Lib.hid hB
      have HO := Lib.hid hown
      obtain ⟨e0, e1, e2, e3, e4⟩ := hB
      clear hsn hown
      by_cases ho : outB lo hi y = true
      · have HD := Lib.hid (show outs lo hi (l.take (k + 1)) = os ++ [(k : Int)] by rw [HN.out, if_pos ho])
        have ho' : y.hi < lo ∨ (¬ y.hi < lo ∧ hi < y.lo) := by simp [outB] at ho; omega
        clear ho
        rcases ho' with ho' | ⟨ho', ho''⟩
        all_goals
          go_wp2_with (at_builtin; refine wpList_append_own _ rfl (.tmp 39) (.tmp 41) 38 rfl (w2.heap.size + 1) 3 i0 (.int .i64 0) 1 8 Try.underlying38 hi0 hz0 hz1 hz2 rfl (by decide) _ os.length _ rfl ((HO.out.alloc _).alloc _) ⟨wr.heap.size + 1, 0, none⟩ 1 1 [.int .i64 k] rfl rfl ?_ ?_ ?_ ?_ ?_ ?_)
          any_goals first | (unfold maxLen; omega) | omega | (show Value.oneCell' _ = true; rfl) | (intro u hu; simp at hu; subst hu; rfl) | (simp; omega) | (intro j u hj; match j, hj with | 0, hj => simp at hj; subst hj; simp only [Addr.add]; go_simp)
          intro v' w3 hown' hgrow hnil
          have hb3 : Below w.heap.size w w3 := by
            refine Below.grown ?_ hgrow ?_ ?_
            · (repeat' (first | (with_reducible exact Below.refl _ _) | (with_reducible assumption) | (with_reducible refine Below.call ?_ ?_ (by with_reducible assumption)) | (with_reducible refine Below.alloc ?_ ?_ _) | (with_reducible refine Below.drew ?_) | (with_reducible refine below_drewN ?_ _) | (with_reducible refine Below.setCell ?_ ?_ _) | (with_reducible exact Nat.le_refl _) | omega | (simp only [World.size_alloc, World.size_setCell, World.size_drew, World.heap_drewN] at *; omega)))
            · simp; omega
            · intro g hg
              have := (HO.out.lt g hg).1
              omega
          have hB3 : SpAt w3 w2.heap.size lo hi := by
            have hg3 : Below (w2.heap.size + 1) ((wr.alloc (Obj.cells #[Value.int IntKind.i64 y.lo, Value.int IntKind.i64 y.hi] 25)).alloc (Obj.cells #[Value.int IntKind.i64 ↑k] 3)) w3 := by
              refine Below.grown (Below.refl _ _) hgrow ?_ ?_
              · simp; omega
              · intro g hg
                exact (HO.out.lt g hg).1
            obtain ⟨q0, q1, q2, q3, q4⟩ := HB.out.below (((Below.refl _ _).alloc (Nat.le_refl _) (Obj.cells #[Value.int IntKind.i64 y.lo, Value.int IntKind.i64 y.hi] 25)).alloc (by simp) (Obj.cells #[Value.int IntKind.i64 ↑k] 3))
            exact ⟨Nat.lt_of_lt_of_le q0 hg3.size, (hg3.cell (Nat.lt_succ_self _)).trans q1, (hg3.cell (Nat.lt_succ_self _)).trans q2, (hg3.frozen (Nat.lt_succ_self _)).trans q3, (hg3.frozen (Nat.lt_succ_self _)).trans q4⟩
          clear hgrow hnil
          have HO3 := Lib.hid hown'
          clear hown'
          go_wp2
          go_roundg (l.length - (k + 1))
          case measure => omega
          case rel =>
            refine ⟨k + 1, by omega, by go_num, hb3, hB3, ?_⟩
            rw [HD.out, List.map_append, List.length_append]
            exact HO3.out
      · have HD := Lib.hid (show outs lo hi (l.take (k + 1)) = os by rw [HN.out, if_neg ho])
        have ho1 : ¬ y.hi < lo := fun q => ho (by simp [outB, q])
        have ho2 : ¬ hi < y.lo := fun q => ho (by simp [outB, q])
        clear ho
        go_wp2
        go_roundg (l.length - (k + 1))
        case measure => omega
        case rel =>
          refine ⟨k + 1, by omega, by go_num, ?_, HB.out.below ((Below.refl _ _).alloc (Nat.le_refl _) _), ?_⟩
          · (repeat' (first | (with_reducible exact Below.refl _ _) | (with_reducible assumption) | (with_reducible refine Below.call ?_ ?_ (by with_reducible assumption)) | (with_reducible refine Below.alloc ?_ ?_ _) | (with_reducible refine Below.drew ?_) | (with_reducible refine below_drewN ?_ _) | (with_reducible refine Below.setCell ?_ ?_ _) | (with_reducible exact Nat.le_refl _) | omega | (simp only [World.size_alloc, World.size_setCell, World.size_drew, World.heap_drewN] at *; omega)))
          · rw [HD.out]; exact HO.out.alloc _
    · have hkl : k = l.length := by omega
      rw [hkl, List.take_of_length_le (Nat.le_refl _)] at hown
      have HO := Lib.hid hown
      clear hkl hown
      go_wp2
      go_ret2
      refine ⟨hbel, ?_⟩
      rcases own_form HO.out with ⟨h1, h2⟩ | ⟨g, cap', h1, h2, h3, h4, h5, h6, h7⟩
      · refine ⟨none, 0, ?_, by omega, ?_⟩
        · show Ending.returned (.tuple #[u7, .int .i64 0]) = _
          rw [h1, h2]
        · intro k hk; omega
      · refine ⟨some ⟨g, 0, none⟩, cap', ?_, h2, ?_⟩
        · show Ending.returned (.tuple #[u7, .int .i64 0]) = _
          rw [h1]
        · intro k hk
          refine ⟨g, 0, rfl, h5, ?_⟩
          rw [Nat.zero_add, h6 k (by omega), List.getElem?_map, List.getElem?_eq_getElem hk]
          rfl
end Go.Proofs.Ytdpddidfdifbhaa
