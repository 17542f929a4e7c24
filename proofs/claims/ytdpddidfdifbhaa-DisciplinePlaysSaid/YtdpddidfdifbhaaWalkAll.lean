/- The contract of source.All. -/
import Derived.Test.YtdpddidfdifbhaaWalkMov
import Derived.Test.YtdpddidfdifbhaaWalkOwn
import Derived.Test.YtdpddidfdifbhaaWalkCells
import Derived.Test.YtdpddidfdifbhaaPlainKept
import Derived.Test.YtdpddidfdifbhaaIxReading
import Derived.Test.YtdpddidfdifbhaaIxSpan2
import Derived.Deep.LoopGhost
set_option linter.unusedVariables false
set_option linter.unusedSimpArgs false
namespace Go.Proofs.Ytdpddidfdifbhaa
open Go.RowKit


def allErr (d k : Int) (l : List Rd) : Int := if 40 < l.length then 2 else fe (rdErr d k) l
theorem c_all_large (d k : Int) (a : Option Addr) (len cap : Nat) (w : World) (h : 40 < len) :
    Calls Try.prog 61 #[.int .i64 d, .slice a len cap, .int .i64 k] w fun e w' => e = .returned (.tuple #[.slice none 0 0, .int .i64 2]) ∧ Below w.heap.size w w' := by
  have hgen := sgen; have hgen2 := sgen2; have hgen3 := sgen3; go_enter Try.func61, Try.ntmps61
  go_wp2
  go_ret2
  exact ⟨rfl, Below.refl _ _⟩
set_option maxRecDepth 100000 in
set_option maxHeartbeats 1000000 in
theorem c_all_some (d q : Int) (a : Option Addr) (cap : Nat) (l : List Rd) (w : World) (hc : l.length ≤ cap) (h40 : l.length ≤ 40) (hs : RdSlice w a l) :
    Calls Try.prog 61 #[.int .i64 d, .slice a l.length cap, .int .i64 q] w fun e w' => Below w.heap.size w w' ∧ ((fe (rdErr d q) l ≠ 0 ∧ e = .returned (.tuple #[.slice none 0 0, .int .i64 (fe (rdErr d q) l)])) ∨
      (fe (rdErr d q) l = 0 ∧ ∃ a' cap', e = .returned (.tuple #[.slice a' l.length cap', .int .i64 0]) ∧ l.length ≤ cap' ∧ SpSlice w' a' (l.map (rdMv d q)))) := by
  obtain ⟨i0, hi0, hz0, hz1, hz2⟩ := info_parts info_span
  have h2 : (l.length : Int) ≤ 40 := by omega
  have hgen := sgen; have hgen2 := sgen2; have hgen3 := sgen3; go_enter Try.func61, Try.ntmps61
  go_wp2_with fail
  go_loopg [8, 18] l.length (fun gk x8 i wr => ∃ k : Nat, gk + k = l.length ∧ i = .int .i64 k ∧ Below w.heap.size w wr ∧ wr.ownsRow w.heap.size 25 2 x8 k (spCells ((l.map (rdMv d q)).take k)) ∧ fe (rdErr d q) (l.take k) = 0)
  case atStart => exact ⟨0, by omega, rfl, Below.refl _ _, World.ownsRow_nil _ _ _ _, rfl⟩
  case round =>
    obtain ⟨k, hk, rfl, hbel, hown, hfe⟩ := hrel
    by_cases hlt : k < l.length
    · obtain ⟨b, off, ha, hb1, c0, c1, c2⟩ := (hs.below (Nat.le_refl _) hbel) k hlt
      have ix1 := @ix_Rd a b off l.length cap k ha hlt
      clear ha
      have hat := fe_at (rdErr d q) l k hlt hfe
      have hsn := fe_snoc (rdErr d q) l k hlt
      have htk : (l.map (rdMv d q)).take (k + 1) = (l.map (rdMv d q)).take k ++ [rdMv d q l[k]] := by rw [fe_take (l.map (rdMv d q)) k (by simpa using hlt)]; simp
      rw [if_pos hfe] at hsn
      generalize l[k] = x at *
      by_cases hx : rdErr d q x = 0
      · have x1 : (mvErr d x.tk x.lo x.hi q != 0) = false := by have : mvErr d x.tk x.lo x.hi q = 0 := hx; simp [this]
        have HS := Lib.hid hsn
        have HT := Lib.hid htk
        have HX := Lib.hid hx
        have HO := Lib.hid hown
        clear hsn htk hx hat hfe hown
        go_wp2_with (first | (go_at_call 65; (refine (c_srcMoved _ _ _ _ _ _).mono ?_); rintro e w1 ⟨rfl, hb⟩; have hz := hb.size; (try simp only [World.size_alloc, World.size_setCell, World.size_drew, World.heap_drewN] at hz); (try have h_wr_0 : wr.heap.size < w1.heap.size := by omega); (try have e_wr_0 : ¬ wr.heap.size = w1.heap.size := by omega); (try have d_wr_0 : ¬ w1.heap.size = wr.heap.size := by omega); (try (refine bcUse (n := wr.heap.size) hb ?_ ?_; (focus ((try simp only [World.size_alloc, World.size_setCell, World.size_drew, World.heap_drewN]); omega)); intro _ _))) | (at_builtin; refine wpList_append_own _ rfl (.tmp 32) (.tmp 34) 22 rfl w.heap.size 25 i0 (.agg #[.int .i64 0, .int .i64 0]) 2 16 Try.underlying22 hi0 hz0 hz1 hz2 rfl (by decide) _ k _ rfl (((own_below (HO.out.alloc _) (by assumption)).alloc _).alloc _) ⟨w1.heap.size + 1, 0, none⟩ 1 1 [.int .i64 (mvLo d x.tk x.lo x.hi q), .int .i64 (mvHi d x.tk x.lo x.hi q)] rfl rfl ?c1 ?c2 ?c3 ?c4 ?c5 ?_))
        case c1 =>
          intro j u hj
          match j, hj with
          | 0, hj => simp at hj; subst hj; go_simp
          | 1, hj => simp at hj; subst hj; simp only [Addr.add]; go_simp
        case c2 => intro u hu; simp at hu; rcases hu with rfl | rfl <;> rfl
        case c3 => unfold maxLen; omega
        case c4 => omega
        case c5 => have := hbel.size; simp; omega
        intro v' w2 hown' hgrow hnil
        have hb2 : Below w.heap.size w w2 := by
          refine Below.grown ?_ hgrow ?_ ?_
          · have := hbel.size
            (repeat' (first | (with_reducible exact Below.refl _ _) | (with_reducible assumption) | (with_reducible refine Below.call ?_ ?_ (by with_reducible assumption)) | (with_reducible refine Below.alloc ?_ ?_ _) | (with_reducible refine Below.drew ?_) | (with_reducible refine below_drewN ?_ _) | (with_reducible refine Below.setCell ?_ ?_ _) | (with_reducible exact Nat.le_refl _) | omega | (simp only [World.size_alloc, World.size_setCell, World.size_drew, World.heap_drewN] at *; omega)))
          · have := hbel.size; simp; omega
          · intro g hg
            exact (HO.out.lt g hg).1
        have hown2 : w2.ownsRow w.heap.size 25 2 v' (k + 1) (spCells ((l.map (rdMv d q)).take (k + 1))) := by
          rw [HT.out, spCells_append]; exact hown'
        clear hown' hgrow hnil
        go_wp2
        go_roundg (l.length - (k + 1))
        case measure => omega
        case rel => exact ⟨k + 1, by omega, by go_num, hb2, hown2, by rw [HS.out]; exact HX.out⟩
      · have x1 : (mvErr d x.tk x.lo x.hi q != 0) = true := by have : ¬ mvErr d x.tk x.lo x.hi q = 0 := hx; simp [this]
        have he : fe (rdErr d q) l = mvErr d x.tk x.lo x.hi q := hat hx
        have HE := Lib.hid he
        have HX := Lib.hid hx
        clear hsn htk hx hat hfe hown he
        go_wp2_with (go_at_call 65; (refine (c_srcMoved _ _ _ _ _ _).mono ?_); rintro e w1 ⟨rfl, hb⟩; have hz := hb.size; (try simp only [World.size_alloc, World.size_setCell, World.size_drew, World.heap_drewN] at hz); (try have h_wr_0 : wr.heap.size < w1.heap.size := by omega); (try have e_wr_0 : ¬ wr.heap.size = w1.heap.size := by omega); (try have d_wr_0 : ¬ w1.heap.size = wr.heap.size := by omega); (try (refine bcUse (n := wr.heap.size) hb ?_ ?_; (focus ((try simp only [World.size_alloc, World.size_setCell, World.size_drew, World.heap_drewN]); omega)); intro _ _)))
        go_ret2
        refine ⟨?_, .inl ⟨by rw [HE.out]; exact HX.out, by rw [HE.out]; rfl⟩⟩
        have := hbel.size
        (repeat' (first | (with_reducible exact Below.refl _ _) | (with_reducible assumption) | (with_reducible refine Below.call ?_ ?_ (by with_reducible assumption)) | (with_reducible refine Below.alloc ?_ ?_ _) | (with_reducible refine Below.drew ?_) | (with_reducible refine below_drewN ?_ _) | (with_reducible refine Below.setCell ?_ ?_ _) | (with_reducible exact Nat.le_refl _) | omega | (simp only [World.size_alloc, World.size_setCell, World.size_drew, World.heap_drewN] at *; omega)))
    · have hkl : k = l.length := by omega
      subst hkl
      rw [List.take_of_length_le (Nat.le_refl _)] at hfe
      rw [List.take_of_length_le (by simp)] at hown
      have HF := Lib.hid hfe
      have HO := Lib.hid hown
      clear hfe hown
      go_wp2
      go_ret2
      refine ⟨hbel, .inr ⟨HF.out, ?_⟩⟩
      rcases own_form HO.out with ⟨h1, h2⟩ | ⟨g, cap', h1, h2, h3, h4, h5, h6, h7⟩
      · refine ⟨none, 0, ?_, by omega, ?_⟩
        · show Ending.returned (.tuple #[u8, .int .i64 0]) = _
          rw [h1, h2]
        · intro k hk; simp at hk; omega
      · refine ⟨some ⟨g, 0, none⟩, cap', ?_, h2, ?_⟩
        · show Ending.returned (.tuple #[u8, .int .i64 0]) = _
          rw [h1]
        · intro k hk
          have hk' : k < l.length := by simpa using hk
          obtain ⟨e1, e2⟩ := spCells_get (l.map (rdMv d q)) k hk
          refine ⟨g, 0, rfl, h5, ?_, ?_⟩
          · rw [Nat.zero_add, h6 _ (by omega), e1]
          · rw [Nat.zero_add, h6 _ (by omega), e2]
end Go.Proofs.Ytdpddidfdifbhaa
