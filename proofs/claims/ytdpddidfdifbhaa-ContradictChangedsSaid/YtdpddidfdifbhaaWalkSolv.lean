/- What Longest and Solvable of the reference answer. -/
import Derived.Test.YtdpddidfdifbhaaWalkLg
set_option linter.unusedVariables false
set_option linter.unusedSimpArgs false
namespace Go.Proofs.Ytdpddidfdifbhaa
open Go.RowKit
theorem c_lg_ok (n i : Nat) (a : Option Addr) (cap : Nat) (l : List Bd) (w : World) (hc : l.length ≤ cap) (hv : BdOk n l) (hok : FwOk n l) (hi : i < n) (hs : BdSlice w a l) :
    Calls Try.prog 31 #[.int .i64 n, .slice a l.length cap, .int .i64 i] w fun e w' => e = .returned (.tuple #[.slice (some ⟨w.heap.size, 0, none⟩) n n, .bool true]) ∧ Vec w' w.heap.size n (fw l n i) ∧ Below w.heap.size w w' := by
  refine (c_longest n i a cap l w hc hv hi hs).mono ?_
  rintro e w' ⟨hb, ⟨r, _, hr, he, hm⟩ | ⟨hno, _⟩⟩
  · exact ⟨he, hm.congr (fun x hx => it_eq hv hok hi hr x hx), hb⟩
  · obtain ⟨r, hr, hd⟩ := it_ends hv hok hi
    rw [hno r (by omega)] at hd
    contradiction
theorem c_lg_never (n i : Nat) (a : Option Addr) (cap : Nat) (l : List Bd) (w : World) (hc : l.length ≤ cap) (hv : BdOk n l) (hno : ∀ r, dch l i r = true) (hi : i < n) (hs : BdSlice w a l) :
    Calls Try.prog 31 #[.int .i64 n, .slice a l.length cap, .int .i64 i] w fun e w' => e = .returned (.tuple #[.slice none 0 0, .bool false]) ∧ Below w.heap.size w w' := by
  refine (c_longest n i a cap l w hc hv hi hs).mono ?_
  rintro e w' ⟨hb, ⟨r, _, hr, he, hm⟩ | ⟨_, he⟩⟩
  · rw [hno r] at hr; contradiction
  · exact ⟨he, hb⟩
theorem c_lg_any (n i : Nat) (a : Option Addr) (cap : Nat) (l : List Bd) (w : World) (hc : l.length ≤ cap) (hv : BdOk n l) (hi : i < n) (hs : BdSlice w a l) :
    Calls Try.prog 31 #[.int .i64 n, .slice a l.length cap, .int .i64 i] w fun e w' => ∃ v : Value, ∃ b : Bool, e = .returned (.tuple #[v, .bool b]) ∧ Below w.heap.size w w' := by
  refine (c_longest n i a cap l w hc hv hi hs).mono ?_
  rintro e w' ⟨hb, ⟨r, _, hr, he, hm⟩ | ⟨_, he⟩⟩
  · exact ⟨_, _, he, hb⟩
  · exact ⟨_, _, he, hb⟩
theorem c_solv_yes (n : Nat) (a : Option Addr) (cap : Nat) (l : List Bd) (w : World) (hc : l.length ≤ cap) (hv : BdOk n l) (hok : FwOk n l) (hs : BdSlice w a l) :
    Calls Try.prog 30 #[.int .i64 n, .slice a l.length cap] w fun e w' => e = .returned (.bool true) ∧ Below w.heap.size w w' := by
  have n12 := hv.n12
  have HL := Lib.hid (fun w1 i hi hs1 => c_lg_ok n i a cap l w1 hc hv hok hi hs1)
  clear hv hok
  have hgen := sgen; have hgen2 := sgen2; have hgen3 := sgen3; go_enter Try.func30, Try.ntmps30
  go_wp2_with fail
  go_loopg [9] n (fun gk j wr => ∃ i : Nat, i ≤ n ∧ gk = n - i ∧ j = .int .i64 i ∧ Below w.heap.size w wr)
  case atStart => exact ⟨0, Nat.zero_le _, rfl, rfl, Below.refl _ _⟩
  case round =>
    obtain ⟨i, hin, rfl, rfl, hbel⟩ := hrel
    by_cases hi : i < n
    · have hiz : (i : Int) < (n : Int) := by omega
      have hsz := hbel.size
      go_wp2_with (go_at_call 31; (refine (HL.out _ i hi (hs.below (Nat.le_refl _) hbel)).mono ?_); rintro e w1 ⟨rfl, _, hb⟩; have hz := hb.size; (try simp only [World.size_alloc, World.size_setCell, World.size_drew, World.heap_drewN] at hz); (try have h_w_0 : w.heap.size < w1.heap.size := by omega); (try have e_w_0 : ¬ w.heap.size = w1.heap.size := by omega); (try have d_w_0 : ¬ w1.heap.size = w.heap.size := by omega); (try (refine bcUse (n := w.heap.size) hb ?_ ?_; (focus ((try simp only [World.size_alloc, World.size_setCell, World.size_drew, World.heap_drewN]); omega)); intro _ _)); (try have h_wr_0 : wr.heap.size < w1.heap.size := by omega); (try have e_wr_0 : ¬ wr.heap.size = w1.heap.size := by omega); (try have d_wr_0 : ¬ w1.heap.size = wr.heap.size := by omega); (try (refine bcUse (n := wr.heap.size) hb ?_ ?_; (focus ((try simp only [World.size_alloc, World.size_setCell, World.size_drew, World.heap_drewN]); omega)); intro _ _)))
      go_roundg (n - (i + 1))
      case measure => omega
      case rel =>
        refine ⟨i + 1, by omega, rfl, by go_num, ?_⟩
        (repeat' (first | (with_reducible exact Below.refl _ _) | (with_reducible assumption) | (with_reducible refine Below.call ?_ ?_ (by with_reducible assumption)) | (with_reducible refine Below.alloc ?_ ?_ _) | (with_reducible refine Below.drew ?_) | (with_reducible refine below_drewN ?_ _) | (with_reducible refine Below.setCell ?_ ?_ _) | (with_reducible exact Nat.le_refl _) | omega | (simp only [World.size_alloc, World.size_setCell, World.size_drew, World.heap_drewN] at *; omega)))
    · go_wp2
      go_ret
      exact ⟨rfl, hbel⟩
theorem c_solv_no (n : Nat) (a : Option Addr) (cap : Nat) (l : List Bd) (w : World) (hc : l.length ≤ cap) (hv : BdOk n l) (hno : ¬ FwOk n l) (hs : BdSlice w a l) :
    Calls Try.prog 30 #[.int .i64 n, .slice a l.length cap] w fun e w' => e = .returned (.bool false) ∧ Below w.heap.size w w' := by
  have n12 := hv.n12
  obtain ⟨i0, hi0, hnev⟩ := it_never hv hno
  have HL := Lib.hid (fun w1 hs1 => c_lg_never n i0 a cap l w1 hc hv hnev hi0 hs1)
  have HA := Lib.hid (fun w1 i hi hs1 => c_lg_any n i a cap l w1 hc hv hi hs1)
  clear hv hno hnev
  have hgen := sgen; have hgen2 := sgen2; have hgen3 := sgen3; go_enter Try.func30, Try.ntmps30
  go_wp2_with fail
  go_loopg [9] n (fun gk j wr => ∃ i : Nat, i ≤ i0 ∧ gk = n - i ∧ j = .int .i64 i ∧ Below w.heap.size w wr)
  case atStart => exact ⟨0, Nat.zero_le _, rfl, rfl, Below.refl _ _⟩
  case round =>
    obtain ⟨i, hin, rfl, rfl, hbel⟩ := hrel
    have hiz : (i : Int) < (n : Int) := by omega
    have hsz := hbel.size
    by_cases e : i = i0
    · subst e
      go_wp2_with (go_at_call 31; (refine (HL.out _ (hs.below (Nat.le_refl _) hbel)).mono ?_); rintro e w1 ⟨rfl, hb⟩; have hz := hb.size; (try simp only [World.size_alloc, World.size_setCell, World.size_drew, World.heap_drewN] at hz); (try have h_w_0 : w.heap.size < w1.heap.size := by omega); (try have e_w_0 : ¬ w.heap.size = w1.heap.size := by omega); (try have d_w_0 : ¬ w1.heap.size = w.heap.size := by omega); (try (refine bcUse (n := w.heap.size) hb ?_ ?_; (focus ((try simp only [World.size_alloc, World.size_setCell, World.size_drew, World.heap_drewN]); omega)); intro _ _)); (try have h_wr_0 : wr.heap.size < w1.heap.size := by omega); (try have e_wr_0 : ¬ wr.heap.size = w1.heap.size := by omega); (try have d_wr_0 : ¬ w1.heap.size = wr.heap.size := by omega); (try (refine bcUse (n := wr.heap.size) hb ?_ ?_; (focus ((try simp only [World.size_alloc, World.size_setCell, World.size_drew, World.heap_drewN]); omega)); intro _ _)))
      go_ret
      refine ⟨rfl, ?_⟩
      (repeat' (first | (with_reducible exact Below.refl _ _) | (with_reducible assumption) | (with_reducible refine Below.call ?_ ?_ (by with_reducible assumption)) | (with_reducible refine Below.alloc ?_ ?_ _) | (with_reducible refine Below.drew ?_) | (with_reducible refine below_drewN ?_ _) | (with_reducible refine Below.setCell ?_ ?_ _) | (with_reducible exact Nat.le_refl _) | omega | (simp only [World.size_alloc, World.size_setCell, World.size_drew, World.heap_drewN] at *; omega)))
    · go_wp2_with (go_at_call 31; (refine (HA.out _ i (by omega) (hs.below (Nat.le_refl _) hbel)).mono ?_); rintro e w1 ⟨v, b, rfl, hb⟩; have hz := hb.size; (try simp only [World.size_alloc, World.size_setCell, World.size_drew, World.heap_drewN] at hz); (try have h_w_0 : w.heap.size < w1.heap.size := by omega); (try have e_w_0 : ¬ w.heap.size = w1.heap.size := by omega); (try have d_w_0 : ¬ w1.heap.size = w.heap.size := by omega); (try (refine bcUse (n := w.heap.size) hb ?_ ?_; (focus ((try simp only [World.size_alloc, World.size_setCell, World.size_drew, World.heap_drewN]); omega)); intro _ _)); (try have h_wr_0 : wr.heap.size < w1.heap.size := by omega); (try have e_wr_0 : ¬ wr.heap.size = w1.heap.size := by omega); (try have d_wr_0 : ¬ w1.heap.size = wr.heap.size := by omega); (try (refine bcUse (n := wr.heap.size) hb ?_ ?_; (focus ((try simp only [World.size_alloc, World.size_setCell, World.size_drew, World.heap_drewN]); omega)); intro _ _)))
      all_goals first
        | (go_ret; refine ⟨rfl, ?_⟩; (repeat' (first | (with_reducible exact Below.refl _ _) | (with_reducible assumption) | (with_reducible refine Below.call ?_ ?_ (by with_reducible assumption)) | (with_reducible refine Below.alloc ?_ ?_ _) | (with_reducible refine Below.drew ?_) | (with_reducible refine below_drewN ?_ _) | (with_reducible refine Below.setCell ?_ ?_ _) | (with_reducible exact Nat.le_refl _) | omega | (simp only [World.size_alloc, World.size_setCell, World.size_drew, World.heap_drewN] at *; omega))))
        | (go_roundg (n - (i + 1)); (focus (refine ⟨i + 1, by omega, rfl, by go_num, ?_⟩; (repeat' (first | (with_reducible exact Below.refl _ _) | (with_reducible assumption) | (with_reducible refine Below.call ?_ ?_ (by with_reducible assumption)) | (with_reducible refine Below.alloc ?_ ?_ _) | (with_reducible refine Below.drew ?_) | (with_reducible refine below_drewN ?_ _) | (with_reducible refine Below.setCell ?_ ?_ _) | (with_reducible exact Nat.le_refl _) | omega | (simp only [World.size_alloc, World.size_setCell, World.size_drew, World.heap_drewN] at *; omega))))); omega)
end Go.Proofs.Ytdpddidfdifbhaa
