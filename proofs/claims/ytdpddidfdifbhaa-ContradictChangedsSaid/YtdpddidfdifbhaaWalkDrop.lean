/- The contract of drop and the walk through the law ContradictImplieds. -/
import Derived.Test.YtdpddidfdifbhaaWalkCtw
import Derived.Test.YtdpddidfdifbhaaWalkSolv
import Derived.BigGuard
set_option linter.unusedVariables false
set_option linter.unusedSimpArgs false
namespace Go.Proofs.Ytdpddidfdifbhaa
open Go.RowKit
theorem wo_snoc (m : List Bd) (x : Bd) (k : Nat) : wo (m ++ [x]) k = if m.length = k then wo m k else wo m k ++ [x] := by
  unfold wo
  by_cases h : m.length = k
  · rw [if_pos h, List.take_append_of_le_length (by omega), List.drop_eq_nil_of_le (by simp; omega), List.drop_eq_nil_of_le (by omega)]
  · rw [if_neg h]
    by_cases q : m.length < k
    · rw [List.take_of_length_le (by simp; omega), List.drop_eq_nil_of_le (by simp; omega), List.take_of_length_le (by omega), List.drop_eq_nil_of_le (by omega)]; simp
    · rw [List.take_append_of_le_length (by omega), List.drop_append_of_le_length (by omega), List.append_assoc]
theorem own_bd' {w : World} {base : Nat} {v : Value} {l : List Bd} (h : w.ownsRow base 47 4 v l.length (bdCells l)) : ∃ a cap, v = .slice a l.length cap ∧ l.length ≤ cap ∧ BdSlice w a l := by
  by_cases hv : v = .slice none 0 0
  · have h0 : l.length = 0 := by
      rcases h.2 with ⟨_, h2⟩ | ⟨g, cap, cur, h8, _⟩
      · exact h2
      · rw [hv] at h8; simp at h8
    refine ⟨none, 0, by rw [hv, h0], by omega, fun k hk => by omega⟩
  · obtain ⟨g, cap, h1, _, h3, _, h5⟩ := own_bd h hv
    exact ⟨_, cap, h1, h3, h5.slice⟩
def DropIs (l : List Bd) (k : Nat) (w : World) (e : Ending) (w' : World) : Prop := ∃ a cap, e = .returned (.slice a (wo l k).length cap) ∧ (wo l k).length ≤ cap ∧ BdSlice w' a (wo l k) ∧ Below w.heap.size w w'
set_option maxRecDepth 100000 in
set_option maxHeartbeats 2000000 in
theorem c_drop (a : Option Addr) (cap k : Nat) (l : List Bd) (w : World) (hc : l.length ≤ cap) (hk : k < l.length) (h40 : l.length ≤ 40) (hs : BdSlice w a l) :
    Calls Try.prog 36 #[.slice a l.length cap, .int .i64 k] w (DropIs l k w) := by
  obtain ⟨i0, hi0, iz0, iz1, iz2⟩ := info_parts info_Bd
  have h40z : (l.length : Int) ≤ 40 := by omega
  have hgen := sgen; have hgen2 := sgen2; have hgen3 := sgen3; go_enter Try.func36, Try.ntmps36
  go_wp2
  go_loopg [5, 10] l.length (fun gk x5 j wr => ∃ i : Nat, gk + i = l.length ∧ j = .int .i64 i ∧ wr.ownsRow w.heap.size 47 4 x5 (wo (l.take i) k).length (bdCells (wo (l.take i) k)) ∧ Below w.heap.size w wr)
  case atStart => exact ⟨0, by omega, rfl, by simp [wo, bdCells]; exact World.ownsRow_nil _ _ _ _, Below.refl _ _⟩
  case round =>
    obtain ⟨i, hi, rfl, hown, hbel⟩ := hrel
    have hsz := hbel.size
    have HO := Lib.hid hown
    clear hown
    by_cases hlt : i < l.length
    · have hiz : (i : Int) < (l.length : Int) := by omega
      obtain ⟨b, off, ha, hb1, c0, c1, c2, c3⟩ := (hs.below (Nat.le_refl _) hbel) i hlt
      have ix1 := @ix_Bd a b off l.length cap i ha hlt
      have hsn := wo_snoc (l.take i) l[i] k
      rw [← List.take_succ_eq_append_getElem hlt, List.length_take, Nat.min_eq_left (by omega)] at hsn
      have hwl : (wo (l.take i) k).length ≤ 40 := by unfold wo; simp; omega
      have HS := Lib.hid hsn
      clear ha hsn
      generalize l[i] = x at *
      by_cases hik : i = k
      · have t1 : ((i : Int) != (k : Int)) = false := by simp [hik]
        have HI := Lib.hid hik
        clear hik
        go_wp2_with fail
        go_roundg (l.length - (i + 1))
        case measure => go_light; omega
        case rel =>
          refine ⟨i + 1, by omega, by go_num, ?_, by (repeat' (first | (with_reducible exact Below.refl _ _) | (with_reducible assumption) | (with_reducible refine Below.call ?_ ?_ (by with_reducible assumption)) | (with_reducible refine Below.alloc ?_ ?_ _) | (with_reducible refine Below.drew ?_) | (with_reducible refine below_drewN ?_ _) | (with_reducible refine Below.setCell ?_ ?_ _) | (with_reducible exact Nat.le_refl _) | omega | (simp only [World.size_alloc, World.size_setCell, World.size_drew, World.heap_drewN] at *; omega)))⟩
          rw [HS.out, if_pos HI.out]
          exact own_below HO.out (by (repeat' (first | (with_reducible exact Below.refl _ _) | (with_reducible assumption) | (with_reducible refine Below.call ?_ ?_ (by with_reducible assumption)) | (with_reducible refine Below.alloc ?_ ?_ _) | (with_reducible refine Below.drew ?_) | (with_reducible refine below_drewN ?_ _) | (with_reducible refine Below.setCell ?_ ?_ _) | (with_reducible exact Nat.le_refl _) | omega | (simp only [World.size_alloc, World.size_setCell, World.size_drew, World.heap_drewN] at *; omega))))
      · have t1 : ((i : Int) != (k : Int)) = true := by simp; omega
        have HI := Lib.hid hik
        clear hik
        go_wp2_with (at_builtin; refine wpList_append_own _ rfl (.tmp 18) (.tmp 20) 41 rfl w.heap.size 47 i0 (.agg #[.int .i64 0, .int .i64 0, .int .i64 0, .int .i64 0]) 4 32 Try.underlying41 hi0 iz0 iz1 iz2 rfl (by decide) _ (wo (l.take i) k).length _ rfl ((HO.out.alloc _).alloc _) ⟨wr.heap.size + 1, 0, none⟩ 1 1 [.int .i64 x.a, .int .i64 x.b, .int .i64 x.lo, .int .i64 x.hi] rfl rfl ?_ ?_ ?_ ?_ ?_ ?_)
        any_goals first | (unfold maxLen; omega) | omega | (intro u hu; simp at hu; rcases hu with rfl | rfl | rfl | rfl <;> rfl) | (simp; omega) | (intro j u hj; match j, hj with | 0, hj => (simp at hj; subst hj; simp only [Addr.add]; go_simp) | 1, hj => (simp at hj; subst hj; simp only [Addr.add]; go_simp) | 2, hj => (simp at hj; subst hj; simp only [Addr.add]; go_simp) | 3, hj => (simp at hj; subst hj; simp only [Addr.add]; go_simp))
        intro v' w3 hown' hgrow _
        have hb3 : Below w.heap.size w w3 := by
          refine Below.grown ((hbel.alloc hsz _).alloc (by simp; omega) _) hgrow (by simp; omega) ?_
          intro q hq
          exact (HO.out.lt q hq).1
        have HO3 : Hid (w3.ownsRow w.heap.size 47 4 v' (wo (l.take (i + 1)) k).length (bdCells (wo (l.take (i + 1)) k))) := Lib.hid (by
          rw [HS.out, if_neg HI.out, List.length_append, bdCells_append]
          exact hown')
        clear hgrow hown'
        go_wp2_with fail
        go_roundg (l.length - (i + 1))
        case measure => go_light; omega
        case rel => exact ⟨i + 1, by omega, by go_num, HO3.out, hb3⟩
    · obtain rfl : i = l.length := by omega
      go_wp2_with fail
      go_ret
      have ho := HO.out
      rw [List.take_of_length_le (Nat.le_refl _)] at ho
      obtain ⟨a', cap', rfl, q1, q2⟩ := own_bd' ho
      exact ⟨a', cap', rfl, q1, q2, hbel⟩
end Go.Proofs.Ytdpddidfdifbhaa
