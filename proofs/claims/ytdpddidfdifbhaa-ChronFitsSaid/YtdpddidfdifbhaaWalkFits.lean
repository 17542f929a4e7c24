/- The contract of chron.Fits. -/
import Derived.Test.YtdpddidfdifbhaaWalkChr
import Derived.Test.YtdpddidfdifbhaaPlainFits
import Derived.Test.YtdpddidfdifbhaaIxInt1
import Derived.Deep.Light
set_option linter.unusedVariables false
set_option linter.unusedSimpArgs false
namespace Go.Proofs.Ytdpddidfdifbhaa
open Go.RowKit
theorem ret_bi {a b : Bool} {x : Int} (h : a = b) : Ending.returned (.tuple #[.bool a, .int .i64 x]) = .returned (.tuple #[.bool b, .int .i64 x]) := by rw [h]
theorem c_fits_bad (n : Int) (a a2 : Option Addr) (cap len2 cap2 : Nat) (l : List Bd) (w : World) (hc : l.length ≤ cap) (he : chErr n l ≠ 0) (hs : BdSlice w a l) :
    Calls Try.prog 25 #[.int .i64 n, .slice a l.length cap, .slice a2 len2 cap2] w fun e w' => e = .returned (.tuple #[.bool false, .int .i64 (chErr n l)]) ∧ Below w.heap.size w w' := by
  have h1 : (chErr n l != 0) = true := by simp [he]
  have hgen := sgen; have hgen2 := sgen2; have hgen3 := sgen3; go_enter Try.func25, Try.ntmps25
  go_wp2_with (go_at_call 29; refine (c_chCheck _ _ _ l _ hc hs).mono ?_; rintro e w1 ⟨rfl, hb⟩; have hz := hb.size; (try simp only [World.size_alloc, World.size_setCell, World.size_drew, World.heap_drewN] at hz); (try have h_w_0 : w.heap.size < w1.heap.size := by omega); (try have e_w_0 : ¬ w.heap.size = w1.heap.size := by omega); (try have d_w_0 : ¬ w1.heap.size = w.heap.size := by omega); (try (refine bcUse (n := w.heap.size) hb ?_ ?_; (focus ((try simp only [World.size_alloc, World.size_setCell, World.size_drew, World.heap_drewN]); omega)); intro _ _)))
  go_ret2
  refine ⟨rfl, ?_⟩
  (repeat' (first | (with_reducible exact Below.refl _ _) | (with_reducible assumption) | (with_reducible refine Below.call ?_ ?_ (by with_reducible assumption)) | (with_reducible refine Below.alloc ?_ ?_ _) | (with_reducible refine Below.drew ?_) | (with_reducible refine below_drewN ?_ _) | (with_reducible refine Below.setCell ?_ ?_ _) | (with_reducible exact Nat.le_refl _) | omega | (simp only [World.size_alloc, World.size_setCell, World.size_drew, World.heap_drewN] at *; omega)))
theorem c_fits_form (n : Int) (a a2 : Option Addr) (cap len2 cap2 : Nat) (l : List Bd) (w : World) (hc : l.length ≤ cap) (he : chErr n l = 0) (hs : BdSlice w a l) (hl : (len2 : Int) ≠ n) :
    Calls Try.prog 25 #[.int .i64 n, .slice a l.length cap, .slice a2 len2 cap2] w fun e w' => e = .returned (.tuple #[.bool false, .int .i64 8]) ∧ Below w.heap.size w w' := by
  have hK := fun w1 hs1 => c_chCheck n a cap l w1 hc hs1
  rw [he] at hK
  have HK := Lib.hid hK
  have h1 : ((len2 : Int) != n) = true := by simp [hl]
  clear hK he hl
  have hgen := sgen; have hgen2 := sgen2; have hgen3 := sgen3; go_enter Try.func25, Try.ntmps25
  go_wp2_with (go_at_call 29; refine (HK.out _ hs).mono ?_; rintro e w1 ⟨rfl, hb⟩; have hz := hb.size; (try simp only [World.size_alloc, World.size_setCell, World.size_drew, World.heap_drewN] at hz); (try have h_w_0 : w.heap.size < w1.heap.size := by omega); (try have e_w_0 : ¬ w.heap.size = w1.heap.size := by omega); (try have d_w_0 : ¬ w1.heap.size = w.heap.size := by omega); (try (refine bcUse (n := w.heap.size) hb ?_ ?_; (focus ((try simp only [World.size_alloc, World.size_setCell, World.size_drew, World.heap_drewN]); omega)); intro _ _)))
  go_ret2
  refine ⟨rfl, ?_⟩
  (repeat' (first | (with_reducible exact Below.refl _ _) | (with_reducible assumption) | (with_reducible refine Below.call ?_ ?_ (by with_reducible assumption)) | (with_reducible refine Below.alloc ?_ ?_ _) | (with_reducible refine Below.drew ?_) | (with_reducible refine below_drewN ?_ _) | (with_reducible refine Below.setCell ?_ ?_ _) | (with_reducible exact Nat.le_refl _) | omega | (simp only [World.size_alloc, World.size_setCell, World.size_drew, World.heap_drewN] at *; omega)))
theorem c_fits_range (n : Nat) (a a2 : Option Addr) (cap cap2 : Nat) (l : List Bd) (ds : List Int) (w : World) (hc : l.length ≤ cap) (he : chErr n l = 0) (hs : BdSlice w a l) (hl : ds.length = n) (n12 : n ≤ 12) (hs2 : IntSlice w a2 ds) (hb : anyBey ds = true) :
    Calls Try.prog 25 #[.int .i64 n, .slice a l.length cap, .slice a2 n cap2] w fun e w' => e = .returned (.tuple #[.bool false, .int .i64 3]) ∧ Below w.heap.size w w' := by
  subst hl
  have hK := fun w1 hs1 => c_chCheck ds.length a cap l w1 hc hs1
  rw [he] at hK
  have HK := Lib.hid hK
  have HB := Lib.hid hb
  have h1 : ((ds.length : Int) != (ds.length : Int)) = false := by simp
  have h2 : (ds.length : Int) ≤ 12 := by omega
  clear hK he hb
  have hgen := sgen; have hgen2 := sgen2; have hgen3 := sgen3; go_enter Try.func25, Try.ntmps25
  go_wp2_with (go_at_call 29; refine (HK.out _ hs).mono ?_; rintro e w1 ⟨rfl, hb⟩; have hz := hb.size; (try simp only [World.size_alloc, World.size_setCell, World.size_drew, World.heap_drewN] at hz); (try have h_w_0 : w.heap.size < w1.heap.size := by omega); (try have e_w_0 : ¬ w.heap.size = w1.heap.size := by omega); (try have d_w_0 : ¬ w1.heap.size = w.heap.size := by omega); (try (refine bcUse (n := w.heap.size) hb ?_ ?_; (focus ((try simp only [World.size_alloc, World.size_setCell, World.size_drew, World.heap_drewN]); omega)); intro _ _)))
  have hbw1 : Below w.heap.size w w1 := by (repeat' (first | (with_reducible exact Below.refl _ _) | (with_reducible assumption) | (with_reducible refine Below.call ?_ ?_ (by with_reducible assumption)) | (with_reducible refine Below.alloc ?_ ?_ _) | (with_reducible refine Below.drew ?_) | (with_reducible refine below_drewN ?_ _) | (with_reducible refine Below.setCell ?_ ?_ _) | (with_reducible exact Nat.le_refl _) | omega | (simp only [World.size_alloc, World.size_setCell, World.size_drew, World.heap_drewN] at *; omega)))
  go_loopg [26] ds.length (fun gk i wr => ∃ k : Nat, gk + k = ds.length ∧ i = .int .i64 k ∧ Below w.heap.size w wr ∧ anyBey (ds.take k) = false)
  case atStart => exact ⟨0, by omega, rfl, hbw1, rfl⟩
  case round =>
    obtain ⟨k, hk, rfl, hbel, hbe⟩ := hrel
    by_cases hlt : k < ds.length
    · obtain ⟨b, off, ha, hb1, c0⟩ := (hs2.below (Nat.le_refl _) hbel) k hlt
      have ix1 := @ix_Int a2 b off ds.length cap2 k ha hlt
      have hsn := bey_snoc ds k hlt
      rw [hbe, Bool.false_or] at hsn
      clear ha hbe
      generalize ds[k] = x at *
      have HS := Lib.hid hsn
      clear hsn
      go_wp2
      all_goals first
        | (go_ret2; refine ⟨rfl, ?_⟩; (repeat' (first | (with_reducible exact Below.refl _ _) | (with_reducible assumption) | (with_reducible refine Below.call ?_ ?_ (by with_reducible assumption)) | (with_reducible refine Below.alloc ?_ ?_ _) | (with_reducible refine Below.drew ?_) | (with_reducible refine below_drewN ?_ _) | (with_reducible refine Below.setCell ?_ ?_ _) | (with_reducible exact Nat.le_refl _) | omega | (simp only [World.size_alloc, World.size_setCell, World.size_drew, World.heap_drewN] at *; omega))))
        | (go_roundg (ds.length - (k + 1)); (focus (exact ⟨k + 1, by omega, by go_num, hbel, by rw [HS.out]; simp [bey]; omega⟩)); omega)
    · have hkl : k = ds.length := by omega
      rw [hkl, List.take_of_length_le (Nat.le_refl _), HB.out] at hbe
      contradiction
set_option maxHeartbeats 2000000 in
theorem c_fits_ok (n : Nat) (a a2 : Option Addr) (cap cap2 : Nat) (l : List Bd) (ds : List Int) (w : World) (hc : l.length ≤ cap) (he : chErr n l = 0) (hv : BdOk n l) (hs : BdSlice w a l) (hl : ds.length = n) (hs2 : IntSlice w a2 ds) (hb : anyBey ds = false) (ans : Bool) (hans : fitsB ds l = ans) :
    Calls Try.prog 25 #[.int .i64 n, .slice a l.length cap, .slice a2 n cap2] w fun e w' => e = .returned (.tuple #[.bool ans, .int .i64 0]) ∧ Below w.heap.size w w' := by
  subst hl
  have n12 := hv.n12
  have h40 := hv.len
  have hK := fun w1 hs1 => c_chCheck ds.length a cap l w1 hc hs1
  rw [he] at hK
  have HK := Lib.hid hK
  have HBD := Lib.hid (bey_none hb)
  have HV := Lib.hid hv
  have HANS := Lib.hid hans
  have h1 : ((ds.length : Int) != (ds.length : Int)) = false := by simp
  have h2 : (ds.length : Int) ≤ 12 := by omega
  have h3 : (l.length : Int) ≤ 40 := by omega
  clear hK he hb hv hans
  have hgen := sgen; have hgen2 := sgen2; have hgen3 := sgen3; go_enter Try.func25, Try.ntmps25
  go_wp2_with (go_at_call 29; refine (HK.out _ hs).mono ?_; rintro e w1 ⟨rfl, hb⟩; have hz := hb.size; (try simp only [World.size_alloc, World.size_setCell, World.size_drew, World.heap_drewN] at hz); (try have h_w_0 : w.heap.size < w1.heap.size := by omega); (try have e_w_0 : ¬ w.heap.size = w1.heap.size := by omega); (try have d_w_0 : ¬ w1.heap.size = w.heap.size := by omega); (try (refine bcUse (n := w.heap.size) hb ?_ ?_; (focus ((try simp only [World.size_alloc, World.size_setCell, World.size_drew, World.heap_drewN]); omega)); intro _ _)))
  have hbw1 : Below w.heap.size w w1 := by (repeat' (first | (with_reducible exact Below.refl _ _) | (with_reducible assumption) | (with_reducible refine Below.call ?_ ?_ (by with_reducible assumption)) | (with_reducible refine Below.alloc ?_ ?_ _) | (with_reducible refine Below.drew ?_) | (with_reducible refine below_drewN ?_ _) | (with_reducible refine Below.setCell ?_ ?_ _) | (with_reducible exact Nat.le_refl _) | omega | (simp only [World.size_alloc, World.size_setCell, World.size_drew, World.heap_drewN] at *; omega)))
  go_loopg [26] ds.length (fun gk i wr => ∃ k : Nat, gk + k = ds.length ∧ i = .int .i64 k ∧ Below w.heap.size w wr)
  case atStart => exact ⟨0, by omega, rfl, hbw1⟩
  case round =>
    obtain ⟨k, hk, rfl, hbel⟩ := hrel
    by_cases hlt : k < ds.length
    · obtain ⟨b, off, ha, hb1, c0⟩ := (hs2.below (Nat.le_refl _) hbel) k hlt
      have ix1 := @ix_Int a2 b off ds.length cap2 k ha hlt
      obtain ⟨x1, x2⟩ := HBD.out k hlt
      clear ha
      generalize ds[k] = x at *
      go_wp2
      go_roundg (ds.length - (k + 1))
      case measure => omega
      case rel => exact ⟨k + 1, by omega, by go_num, hbel⟩
    · obtain ⟨wo, rfl⟩ : ∃ wo : World, wo = wr := ⟨_, rfl⟩
      go_wp2
      go_loopg [39] l.length (fun gk i wr => ∃ k : Nat, gk + k = l.length ∧ i = .int .i64 k ∧ Below w.heap.size w wr ∧ fitsB ds (l.take k) = true)
      case atStart => exact ⟨0, by omega, rfl, hbel, rfl⟩
      case round =>
        clear hbel
        obtain ⟨k, hk, rfl, hbel, hfit⟩ := hrel
        have hsz := hbel.size
        by_cases hlt : k < l.length
        · obtain ⟨b, off, ha, hb1, c0, c1, c2, c3⟩ := (hs.below (Nat.le_refl _) hbel) k hlt
          have ix1 := @ix_Bd a b off l.length cap k ha hlt
          have hsn := fits_snoc ds l k hlt
          rw [hfit, Bool.true_and] at hsn
          have hnot := fits_not ds l k hlt
          have hmem : l[k] ∈ l := List.getElem_mem hlt
          have v1 := HV.out.a0 _ hmem
          have v2 := HV.out.an _ hmem
          have v3 := HV.out.b0 _ hmem
          have v4 := HV.out.bn _ hmem
          clear ha hmem hfit
          generalize l[k] = x at *
          obtain ⟨xa, xb, xlo, xhi⟩ := x
          simp only at c0 c1 c2 c3 v1 v2 v3 v4
          obtain ⟨p, rfl⟩ : ∃ p : Nat, xa = p := ⟨xa.toNat, by omega⟩
          obtain ⟨q, rfl⟩ : ∃ q : Nat, xb = q := ⟨xb.toNat, by omega⟩
          have hp : p < ds.length := by omega
          have hq : q < ds.length := by omega
          obtain ⟨b2, off2, ha2, hb2, e0⟩ := (hs2.below (Nat.le_refl _) hbel) p hp
          obtain ⟨b3, off3, ha3, hb3, f0⟩ := (hs2.below (Nat.le_refl _) hbel) q hq
          have ix2 := @ix_Int a2 b2 off2 ds.length cap2 p ha2 hp
          have ix3 := @ix_Int a2 b3 off3 ds.length cap2 q ha3 hq
          obtain ⟨y1, y2⟩ := HBD.out p hp
          obtain ⟨y3, y4⟩ := HBD.out q hq
          have hone : fitOne ds ⟨p, q, xlo, xhi⟩ = (decide (xlo ≤ ds[q] - ds[p]) && decide (ds[q] - ds[p] ≤ xhi)) := by
            unfold fitOne; rw [dayAt_nat ds p hp, dayAt_nat ds q hq]
          have HS := Lib.hid hsn
          have HNOT := Lib.hid hnot
          have HONE := Lib.hid hone
          clear hsn hnot hone ha2 ha3
          generalize ds[p] = dp at *
          generalize ds[q] = dq at *
          have ew : IntKind.i64.wrap (dq - dp) = dq - dp := IntWalk.i64_in _ (by omega)
          go_wp2_with fail
          go_quiet (fail)
          clear ew
          go_wp2_with fail
          all_goals first
            | (go_ret2; refine ⟨ret_bi (show false = ans by rw [← HANS.out, HNOT.out (by rw [HONE.out]; simp; omega)]), ?_⟩; (repeat' (first | (with_reducible exact Below.refl _ _) | (with_reducible assumption) | (with_reducible refine Below.call ?_ ?_ (by with_reducible assumption)) | (with_reducible refine Below.alloc ?_ ?_ _) | (with_reducible refine Below.drew ?_) | (with_reducible refine below_drewN ?_ _) | (with_reducible refine Below.setCell ?_ ?_ _) | (with_reducible exact Nat.le_refl _) | omega | (simp only [World.size_alloc, World.size_setCell, World.size_drew, World.heap_drewN] at *; omega))))
            | (go_roundg (l.length - (k + 1)); (focus (refine ⟨k + 1, by omega, by go_num, ?_, by rw [HS.out, HONE.out]; simp; omega⟩; (repeat' (first | (with_reducible exact Below.refl _ _) | (with_reducible assumption) | (with_reducible refine Below.call ?_ ?_ (by with_reducible assumption)) | (with_reducible refine Below.alloc ?_ ?_ _) | (with_reducible refine Below.drew ?_) | (with_reducible refine below_drewN ?_ _) | (with_reducible refine Below.setCell ?_ ?_ _) | (with_reducible exact Nat.le_refl _) | omega | (simp only [World.size_alloc, World.size_setCell, World.size_drew, World.heap_drewN] at *; omega))))); omega)
        · have hkl : k = l.length := by omega
          rw [hkl, List.take_of_length_le (Nat.le_refl _)] at hfit
          have hat : ans = true := by rw [← HANS.out]; exact hfit
          have HAT := Lib.hid hat
          clear hkl hfit hat
          go_wp2
          go_ret2
          refine ⟨ret_bi (show true = ans by rw [HAT.out]), ?_⟩
          (repeat' (first | (with_reducible exact Below.refl _ _) | (with_reducible assumption) | (with_reducible refine Below.call ?_ ?_ (by with_reducible assumption)) | (with_reducible refine Below.alloc ?_ ?_ _) | (with_reducible refine Below.drew ?_) | (with_reducible refine below_drewN ?_ _) | (with_reducible refine Below.setCell ?_ ?_ _) | (with_reducible exact Nat.le_refl _) | omega | (simp only [World.size_alloc, World.size_setCell, World.size_drew, World.heap_drewN] at *; omega)))
end Go.Proofs.Ytdpddidfdifbhaa
