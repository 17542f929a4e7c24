/- The walk through the law SourceMoves. -/
import Derived.Test.YtpjgoojaahbglaaWalkAll
import Derived.Test.YtpjgoojaahbglaaWalkOscLaw
import Derived.Deep.DeepCutAuto
set_option linter.unusedVariables false
set_option linter.unusedSimpArgs false
namespace Go.Proofs.Ytpjgoojaahbglaa
open Go.RowKit
theorem c_sourceWorks (w : World) : Calls Try.prog 28 #[] w fun e w' => e = .returned (.bool true) ∧ Below w.heap.size w w' := by
  have q0 : mvErr 0 5 1 2 7 = 0 := by decide
  have q1 : mvLo 0 5 1 2 7 = 3 := by decide
  have q2 : mvHi 0 5 1 2 7 = 4 := by decide
  have hgen := sgen; have hgen2 := sgen2; have hgen3 := sgen3; go_enter Try.func28, Try.ntmps28
  go_wp2_with (go_at_call 30; refine (c_srcMoved _ _ _ _ _ _).mono ?_; rintro e w1 ⟨rfl, hb⟩; have hz := hb.size; (try simp only [World.size_alloc, World.size_setCell, World.size_drew, World.heap_drewN] at hz); (try have h_w_0 : w.heap.size < w1.heap.size := by omega); (try have e_w_0 : ¬ w.heap.size = w1.heap.size := by omega); (try have d_w_0 : ¬ w1.heap.size = w.heap.size := by omega); (try (refine bcUse (n := w.heap.size) hb ?_ ?_; (focus ((try simp only [World.size_alloc, World.size_setCell, World.size_drew, World.heap_drewN]); omega)); intro _ _)))
  go_ret
  refine ⟨rfl, ?_⟩
  (repeat' (first | (with_reducible exact Below.refl _ _) | (with_reducible assumption) | (with_reducible refine Below.call ?_ ?_ (by with_reducible assumption)) | (with_reducible refine Below.alloc ?_ ?_ _) | (with_reducible refine Below.drew ?_) | (with_reducible refine below_drewN ?_ _) | (with_reducible refine Below.setCell ?_ ?_ _) | (with_reducible exact Nat.le_refl _) | omega | (simp only [World.size_alloc, World.size_setCell, World.size_drew, World.heap_drewN] at *; omega)))
def nextE (xk z : Int) : Int := if xk = 0 then z else xk
theorem nextE_yes {xk z : Int} (h : (xk == 0) = true) : nextE xk z = z := by unfold nextE; rw [if_pos (by simpa using h)]
theorem nextE_no {xk z : Int} (h : (xk == 0) = false) : nextE xk z = xk := by unfold nextE; rw [if_neg (by simpa using h)]
/-- The law's own error after k rounds. -/
def lawE (d q : Int) (l : List Rd) (k : Nat) : Int := if 40 < l.length then 2 else fe (rdErr d q) (l.take k)
theorem lawZ {d q : Int} {l : List Rd} (h : fe (rdErr d q) l = 0) (h40 : l.length ≤ 40) (k : Nat) : lawE d q l k = 0 := by
  unfold lawE; rw [if_neg (by omega)]; exact fe_mem h k
theorem lawE_next (d q : Int) (l : List Rd) (k : Nat) (h : k < l.length) : lawE d q l (k + 1) = nextE (lawE d q l k) (rdErr d q l[k]) := by
  unfold lawE nextE
  by_cases h40 : 40 < l.length
  · simp [h40]
  · simp only [h40, if_false]; exact fe_snoc _ l k h

set_option maxRecDepth 100000 in
set_option maxHeartbeats 4000000 in
theorem walk_moves_bad (d q : Int) (a : Option Addr) (cap : Nat) (l : List Rd) (w : World) (hc : l.length ≤ cap) (hm : cap ≤ 9223372036854775807) (hs : RdSlice w a l) (E : Int) (hE : E ≠ 0) (hEl : lawE d q l l.length = E) (hall : ∀ w1, Below w.heap.size w w1 → Calls Try.prog 29 #[.int .i64 d, .slice a l.length cap, .int .i64 q] w1 fun e w' => e = .returned (.tuple #[.slice none 0 0, .int .i64 E]) ∧ Below w1.heap.size w1 w') :
    Calls Try.prog 6 #[.int .i64 d, .slice a l.length cap, .int .i64 q] w fun e w' => e = .returned (.bool true) ∧ Below w.heap.size w w' := by
  have E1 : (E == 0) = false := by simp [hE]
  have HEL := Lib.hid hEl
  clear hEl
  have hgen := sgen; have hgen2 := sgen2; have hgen3 := sgen3; go_enter Try.func6, Try.ntmps6
  go_wp2_with (go_at_call 28; refine (c_sourceWorks _).mono ?_; rintro e w1 ⟨rfl, hb⟩; have hz := hb.size; (try simp only [World.size_alloc, World.size_setCell, World.size_drew, World.heap_drewN] at hz); (try have h_w_0 : w.heap.size < w1.heap.size := by omega); (try have e_w_0 : ¬ w.heap.size = w1.heap.size := by omega); (try have d_w_0 : ¬ w1.heap.size = w.heap.size := by omega); (try (refine bcUse (n := w.heap.size) hb ?_ ?_; (focus ((try simp only [World.size_alloc, World.size_setCell, World.size_drew, World.heap_drewN]); omega)); intro _ _)))
  have hbw1 : Below w.heap.size w w1 := by assumption
  refine (hall _ hbw1).mono ?_
  rintro e w2 ⟨rfl, hb2⟩
  have hbw2 : Below w.heap.size w w2 := Below.call hbw1 hbw1.size hb2
  clear hb2
  go_upto_if 27 with fail
  go_cut [9] (fun x9 wc => x9 = .int .i64 (lawE d q l 0) ∧ w2 = wc)
  case first =>
    go_wp2
    all_goals go_meet
    all_goals
      have h40' : (40 < l.length) ∨ ¬ (40 < l.length) := by omega
      refine ⟨?_, rfl⟩
      congr 1; unfold lawE
      first | (rw [if_pos (by omega)]; done) | (rw [if_neg (by omega)]; rfl)
  case rest =>
    obtain ⟨rfl, rfl⟩ := hcut
    go_wp2
    go_loopg [9, 30] l.length (fun gk x9 i wr => ∃ k : Nat, ∃ xk : Int, gk + k = l.length ∧ i = .int .i64 k ∧ x9 = .int .i64 xk ∧ Below w2.heap.size w2 wr ∧ xk = lawE d q l k)
    case atStart => exact ⟨0, _, by omega, rfl, rfl, Below.refl _ _, rfl⟩
    case round =>
      obtain ⟨k, xk, hk, rfl, rfl, hbel, hx⟩ := hrel
      have hbw := Below.call hbw2 hbw2.size hbel
      by_cases hlt : k < l.length
      · obtain ⟨b, off, ha, hblk, c0, c1, c2⟩ := (hs.below (Nat.le_refl _) hbw) k hlt
        have ix1 := @ix_Rd a b off l.length cap k ha hlt
        clear ha
        have hfs := lawE_next d q l k hlt
        rw [← hx] at hfs
        generalize l[k] = x at *
        have HFS : Hid (lawE d q l (k + 1) = nextE xk (mvErr d x.tk x.lo x.hi q)) := hfs
        clear hfs
        clear hx
        go_wp2_with (first | (go_at_call 30; refine (c_srcMoved _ _ _ _ _ _).mono ?_; rintro e w3 ⟨rfl, hb⟩; have hz := hb.size; (try simp only [World.size_alloc, World.size_setCell, World.size_drew, World.heap_drewN] at hz); (try have h_wr_0 : wr.heap.size < w3.heap.size := by omega); (try have e_wr_0 : ¬ wr.heap.size = w3.heap.size := by omega); (try have d_wr_0 : ¬ w3.heap.size = wr.heap.size := by omega); (try (refine bcUse (n := wr.heap.size) hb ?_ ?_; (focus ((try simp only [World.size_alloc, World.size_setCell, World.size_drew, World.heap_drewN]); omega)); intro _ _))) | (go_at_call 27; refine (c_refMoved _ _ _ _ _ _).mono ?_; rintro e w4 ⟨rfl, hb⟩; have hz := hb.size; (try simp only [World.size_alloc, World.size_setCell, World.size_drew, World.heap_drewN] at hz); (try have h_wr_0 : wr.heap.size < w4.heap.size := by omega); (try have e_wr_0 : ¬ wr.heap.size = w4.heap.size := by omega); (try have d_wr_0 : ¬ w4.heap.size = wr.heap.size := by omega); (try (refine bcUse (n := wr.heap.size) hb ?_ ?_; (focus ((try simp only [World.size_alloc, World.size_setCell, World.size_drew, World.heap_drewN]); omega)); intro _ _)); (try have h_w3_0 : w3.heap.size < w4.heap.size := by omega); (try have e_w3_0 : ¬ w3.heap.size = w4.heap.size := by omega); (try have d_w3_0 : ¬ w4.heap.size = w3.heap.size := by omega); (try (refine bcUse (n := w3.heap.size) hb ?_ ?_; (focus ((try simp only [World.size_alloc, World.size_setCell, World.size_drew, World.heap_drewN]); omega)); intro _ _))))
        go_region_held3 (fun w' => w'.cell? ⟨w3.heap.size, 0, none⟩ = some (.int .i64 (mvLo d x.tk x.lo x.hi q)) ∧ w'.cell? ⟨w3.heap.size, 1, none⟩ = some (.int .i64 (mvHi d x.tk x.lo x.hi q)) ∧ w'.cell? ⟨w4.heap.size, 0, none⟩ = some (.int .i64 (mvLo d x.tk x.lo x.hi q)) ∧ w'.cell? ⟨w4.heap.size, 1, none⟩ = some (.int .i64 (mvHi d x.tk x.lo x.hi q)) ∧ w'.cell? ⟨wr.heap.size, 0, none⟩ = some (.int .i64 x.tk) ∧ w'.cell? ⟨wr.heap.size, 1, none⟩ = some (.int .i64 x.lo) ∧ w'.cell? ⟨wr.heap.size, 2, none⟩ = some (.int .i64 x.hi))
          (refine ⟨?_, ?_, ?_, ?_, ?_, ?_, ?_⟩ <;> (first | (go_simp; done) | go_keep))
          (first | (go_at_call 31; refine (c_srcCheck _ _ _ _).mono ?_; rintro e w5 ⟨rfl, hb⟩; have hz := hb.size; (try simp only [World.size_alloc, World.size_setCell, World.size_drew, World.heap_drewN] at hz); (try have h_wr_0 : wr.heap.size < w5.heap.size := by omega); (try have e_wr_0 : ¬ wr.heap.size = w5.heap.size := by omega); (try have d_wr_0 : ¬ w5.heap.size = wr.heap.size := by omega); (try (refine bcUse (n := wr.heap.size) hb ?_ ?_; (focus ((try simp only [World.size_alloc, World.size_setCell, World.size_drew, World.heap_drewN]); omega)); intro _ _)); (try have h_w3_0 : w3.heap.size < w5.heap.size := by omega); (try have e_w3_0 : ¬ w3.heap.size = w5.heap.size := by omega); (try have d_w3_0 : ¬ w5.heap.size = w3.heap.size := by omega); (try (refine bcUse (n := w3.heap.size) hb ?_ ?_; (focus ((try simp only [World.size_alloc, World.size_setCell, World.size_drew, World.heap_drewN]); omega)); intro _ _)); (try have h_w4_0 : w4.heap.size < w5.heap.size := by omega); (try have e_w4_0 : ¬ w4.heap.size = w5.heap.size := by omega); (try have d_w4_0 : ¬ w5.heap.size = w4.heap.size := by omega); (try (refine bcUse (n := w4.heap.size) hb ?_ ?_; (focus ((try simp only [World.size_alloc, World.size_setCell, World.size_drew, World.heap_drewN]); omega)); intro _ _))) | (go_at_call 24; refine (c_refReadingErr _ _ _ _).mono ?_; rintro e w6 ⟨rfl, hb⟩; have hz := hb.size; (try simp only [World.size_alloc, World.size_setCell, World.size_drew, World.heap_drewN] at hz); (try have h_wr_0 : wr.heap.size < w6.heap.size := by omega); (try have e_wr_0 : ¬ wr.heap.size = w6.heap.size := by omega); (try have d_wr_0 : ¬ w6.heap.size = wr.heap.size := by omega); (try (refine bcUse (n := wr.heap.size) hb ?_ ?_; (focus ((try simp only [World.size_alloc, World.size_setCell, World.size_drew, World.heap_drewN]); omega)); intro _ _)); (try have h_w3_0 : w3.heap.size < w6.heap.size := by omega); (try have e_w3_0 : ¬ w3.heap.size = w6.heap.size := by omega); (try have d_w3_0 : ¬ w6.heap.size = w3.heap.size := by omega); (try (refine bcUse (n := w3.heap.size) hb ?_ ?_; (focus ((try simp only [World.size_alloc, World.size_setCell, World.size_drew, World.heap_drewN]); omega)); intro _ _)); (try have h_w4_0 : w4.heap.size < w6.heap.size := by omega); (try have e_w4_0 : ¬ w4.heap.size = w6.heap.size := by omega); (try have d_w4_0 : ¬ w6.heap.size = w4.heap.size := by omega); (try (refine bcUse (n := w4.heap.size) hb ?_ ?_; (focus ((try simp only [World.size_alloc, World.size_setCell, World.size_drew, World.heap_drewN]); omega)); intro _ _)); (try have h_w5_0 : w5.heap.size < w6.heap.size := by omega); (try have e_w5_0 : ¬ w5.heap.size = w6.heap.size := by omega); (try have d_w5_0 : ¬ w6.heap.size = w5.heap.size := by omega); (try (refine bcUse (n := w5.heap.size) hb ?_ ?_; (focus ((try simp only [World.size_alloc, World.size_setCell, World.size_drew, World.heap_drewN]); omega)); intro _ _))))
        go_upto_if 65 with fail
        go_cut [9] (fun x9 wc => x9 = .int .i64 (nextE xk (mvErr d x.tk x.lo x.hi q)) ∧ Below wr.heap.size wr wc ∧ wc.cell? ⟨w4.heap.size, 0, none⟩ = some (.int .i64 (mvLo d x.tk x.lo x.hi q)) ∧ wc.cell? ⟨w4.heap.size, 1, none⟩ = some (.int .i64 (mvHi d x.tk x.lo x.hi q)))
        case first =>
          go_wp2
          all_goals go_meet
          · refine ⟨congrArg (Value.int .i64) (nextE_yes (by assumption)).symm, ?_, ?_, ?_⟩
            all_goals first | (go_simp; done) | (repeat' (first | (with_reducible exact Below.refl _ _) | (with_reducible assumption) | (with_reducible refine Below.call ?_ ?_ (by with_reducible assumption)) | (with_reducible refine Below.alloc ?_ ?_ _) | (with_reducible refine Below.drew ?_) | (with_reducible refine below_drewN ?_ _) | (with_reducible refine Below.setCell ?_ ?_ _) | (with_reducible exact Nat.le_refl _) | omega | (simp only [World.size_alloc, World.size_setCell, World.size_drew, World.heap_drewN] at *; omega)))
          · refine ⟨congrArg (Value.int .i64) (nextE_no (by assumption)).symm, ?_, ?_, ?_⟩
            all_goals first | (go_simp; done) | (repeat' (first | (with_reducible exact Below.refl _ _) | (with_reducible assumption) | (with_reducible refine Below.call ?_ ?_ (by with_reducible assumption)) | (with_reducible refine Below.alloc ?_ ?_ _) | (with_reducible refine Below.drew ?_) | (with_reducible refine below_drewN ?_ _) | (with_reducible refine Below.setCell ?_ ?_ _) | (with_reducible exact Nat.le_refl _) | omega | (simp only [World.size_alloc, World.size_setCell, World.size_drew, World.heap_drewN] at *; omega)))
        case rest =>
          obtain ⟨rfl, hb6, s0, s1⟩ := hcut
          go_wp2_with fail
          go_quiet (fail)
          go_wp2
          go_roundg (l.length - (k + 1))
          case measure => omega
          case rel =>
            refine ⟨k + 1, _, by omega, by go_num, rfl, ?_, HFS.out.symm⟩
            have := hbel.size
            (repeat' (first | (with_reducible exact Below.refl _ _) | (with_reducible assumption) | (with_reducible refine Below.call ?_ ?_ (by with_reducible assumption)) | (with_reducible refine Below.alloc ?_ ?_ _) | (with_reducible refine Below.drew ?_) | (with_reducible refine below_drewN ?_ _) | (with_reducible refine Below.setCell ?_ ?_ _) | (with_reducible exact Nat.le_refl _) | omega | (simp only [World.size_alloc, World.size_setCell, World.size_drew, World.heap_drewN] at *; omega)))
      · have hkl : k = l.length := by omega
        rw [hkl, HEL.out] at hx
        have E2 : (E != 0) = true := by simp [hE]
        have HXX := Lib.hid hx
        subst hx
        clear hkl
        go_wp2
        go_ret
        refine ⟨rfl, ?_⟩
        (repeat' (first | (with_reducible exact Below.refl _ _) | (with_reducible assumption) | (with_reducible refine Below.call ?_ ?_ (by with_reducible assumption)) | (with_reducible refine Below.alloc ?_ ?_ _) | (with_reducible refine Below.drew ?_) | (with_reducible refine below_drewN ?_ _) | (with_reducible refine Below.setCell ?_ ?_ _) | (with_reducible exact Nat.le_refl _) | omega | (simp only [World.size_alloc, World.size_setCell, World.size_drew, World.heap_drewN] at *; omega)))

set_option maxRecDepth 100000 in
set_option maxHeartbeats 4000000 in
theorem walk_moves_ok (d q : Int) (a : Option Addr) (cap : Nat) (l : List Rd) (w : World) (hc : l.length ≤ cap) (hm : cap ≤ 9223372036854775807) (hs : RdSlice w a l) (hE : lawE d q l l.length = 0) (h40 : l.length ≤ 40) :
    Calls Try.prog 6 #[.int .i64 d, .slice a l.length cap, .int .i64 q] w fun e w' => e = .returned (.bool true) ∧ Below w.heap.size w w' := by
  have hfz : fe (rdErr d q) l = 0 := by
    have := hE; unfold lawE at this; rw [if_neg (by omega), List.take_of_length_le (Nat.le_refl _)] at this; exact this
  have HZ := Lib.hid hfz
  have HE := Lib.hid hE
  clear hE hfz
  have hgen := sgen; have hgen2 := sgen2; have hgen3 := sgen3; go_enter Try.func6, Try.ntmps6
  go_wp2_with (go_at_call 28; refine (c_sourceWorks _).mono ?_; rintro e w1 ⟨rfl, hb⟩; have hz := hb.size; (try simp only [World.size_alloc, World.size_setCell, World.size_drew, World.heap_drewN] at hz); (try have h_w_0 : w.heap.size < w1.heap.size := by omega); (try have e_w_0 : ¬ w.heap.size = w1.heap.size := by omega); (try have d_w_0 : ¬ w1.heap.size = w.heap.size := by omega); (try (refine bcUse (n := w.heap.size) hb ?_ ?_; (focus ((try simp only [World.size_alloc, World.size_setCell, World.size_drew, World.heap_drewN]); omega)); intro _ _)))
  have hbw1 : Below w.heap.size w w1 := by assumption
  refine (c_all_some d q a cap l _ hc h40 (hs.below (Nat.le_refl _) hbw1)).mono ?_
  rintro e w2 ⟨hb2, hcase⟩
  rcases hcase with ⟨hbad, _⟩ | ⟨_, a', cap', rfl, hcap', hout⟩
  · exact absurd HZ.out hbad
  have hbw2 : Below w.heap.size w w2 := Below.call hbw1 hbw1.size hb2
  clear hb2
  go_upto_if 27 with fail
  go_cut [9] (fun x9 wc => x9 = .int .i64 (lawE d q l 0) ∧ w2 = wc)
  case first =>
    go_wp2
    all_goals go_meet
    all_goals
      have h40' : (40 < l.length) ∨ ¬ (40 < l.length) := by omega
      refine ⟨?_, rfl⟩
      congr 1; unfold lawE
      first | (rw [if_pos (by omega)]; done) | (rw [if_neg (by omega)]; rfl)
  case rest =>
    obtain ⟨rfl, rfl⟩ := hcut
    go_wp2
    go_loopg [9, 30] l.length (fun gk x9 i wr => ∃ k : Nat, ∃ xk : Int, gk + k = l.length ∧ i = .int .i64 k ∧ x9 = .int .i64 xk ∧ Below w2.heap.size w2 wr ∧ xk = lawE d q l k)
    case atStart => exact ⟨0, _, by omega, rfl, rfl, Below.refl _ _, rfl⟩
    case round =>
      obtain ⟨k, xk, hk, rfl, rfl, hbel, hx⟩ := hrel
      have hbw := Below.call hbw2 hbw2.size hbel
      by_cases hlt : k < l.length
      · obtain ⟨b, off, ha, hblk, c0, c1, c2⟩ := (hs.below (Nat.le_refl _) hbw) k hlt
        have ix1 := @ix_Rd a b off l.length cap k ha hlt
        clear ha
        have hfs := lawE_next d q l k hlt
        rw [← hx] at hfs
        have hxz : rdErr d q l[k] = 0 := fe_zero HZ.out k hlt
        obtain ⟨b', off', ha', hblk', o0, o1⟩ := (hout.below (Nat.le_refl _) hbel) k (by simpa using hlt)
        have ix2 := @ix_Sp a' b' off' l.length cap' k ha' hlt
        clear ha'
        rw [List.getElem_map] at o0 o1
        generalize l[k] = x at *
        have HFS : Hid (lawE d q l (k + 1) = nextE xk (mvErr d x.tk x.lo x.hi q)) := hfs
        clear hfs
        have hz0 : mvErr d x.tk x.lo x.hi q = 0 := hxz
        rw [hz0] at HFS
        have hz1 := lawZ HZ.out h40 k
        rw [← hx] at hz1
        subst hz1
        have o2 : wr.cell? ⟨b', off' + k * 2, none⟩ = some (.int .i64 (mvLo d x.tk x.lo x.hi q)) := o0
        have o3 : wr.cell? ⟨b', off' + k * 2 + 1, none⟩ = some (.int .i64 (mvHi d x.tk x.lo x.hi q)) := o1
        have hk0 : (0 : Int) ≤ (k : Int) := by omega
        have hk1 : (k : Int) < (l.length : Int) := by omega
        have hk2 : decide (l.length ≤ k) = false := by simp; omega
        clear hxz o0 o1 hx
        go_wp2_with (first | (go_at_call 30; refine (c_srcMoved _ _ _ _ _ _).mono ?_; rintro e w3 ⟨rfl, hb⟩; have hz := hb.size; (try simp only [World.size_alloc, World.size_setCell, World.size_drew, World.heap_drewN] at hz); (try have h_wr_0 : wr.heap.size < w3.heap.size := by omega); (try have e_wr_0 : ¬ wr.heap.size = w3.heap.size := by omega); (try have d_wr_0 : ¬ w3.heap.size = wr.heap.size := by omega); (try (refine bcUse (n := wr.heap.size) hb ?_ ?_; (focus ((try simp only [World.size_alloc, World.size_setCell, World.size_drew, World.heap_drewN]); omega)); intro _ _)); (try have h_bb'_0 : b' < w3.heap.size := by omega); (try have e_bb'_0 : ¬ b' = w3.heap.size := by omega); (try have d_bb'_0 : ¬ w3.heap.size = b' := by omega); (try (refine bcUse (n := b') hb ?_ ?_; (focus ((try simp only [World.size_alloc, World.size_setCell, World.size_drew, World.heap_drewN]); omega)); intro _ _))) | (go_at_call 27; refine (c_refMoved _ _ _ _ _ _).mono ?_; rintro e w4 ⟨rfl, hb⟩; have hz := hb.size; (try simp only [World.size_alloc, World.size_setCell, World.size_drew, World.heap_drewN] at hz); (try have h_wr_0 : wr.heap.size < w4.heap.size := by omega); (try have e_wr_0 : ¬ wr.heap.size = w4.heap.size := by omega); (try have d_wr_0 : ¬ w4.heap.size = wr.heap.size := by omega); (try (refine bcUse (n := wr.heap.size) hb ?_ ?_; (focus ((try simp only [World.size_alloc, World.size_setCell, World.size_drew, World.heap_drewN]); omega)); intro _ _)); (try have h_w3_0 : w3.heap.size < w4.heap.size := by omega); (try have e_w3_0 : ¬ w3.heap.size = w4.heap.size := by omega); (try have d_w3_0 : ¬ w4.heap.size = w3.heap.size := by omega); (try (refine bcUse (n := w3.heap.size) hb ?_ ?_; (focus ((try simp only [World.size_alloc, World.size_setCell, World.size_drew, World.heap_drewN]); omega)); intro _ _)); (try have h_bb'_0 : b' < w4.heap.size := by omega); (try have e_bb'_0 : ¬ b' = w4.heap.size := by omega); (try have d_bb'_0 : ¬ w4.heap.size = b' := by omega); (try (refine bcUse (n := b') hb ?_ ?_; (focus ((try simp only [World.size_alloc, World.size_setCell, World.size_drew, World.heap_drewN]); omega)); intro _ _))))
        go_region_held3 (fun w' => w'.cell? ⟨w3.heap.size, 0, none⟩ = some (.int .i64 (mvLo d x.tk x.lo x.hi q)) ∧ w'.cell? ⟨w3.heap.size, 1, none⟩ = some (.int .i64 (mvHi d x.tk x.lo x.hi q)) ∧ w'.cell? ⟨w4.heap.size, 0, none⟩ = some (.int .i64 (mvLo d x.tk x.lo x.hi q)) ∧ w'.cell? ⟨w4.heap.size, 1, none⟩ = some (.int .i64 (mvHi d x.tk x.lo x.hi q)) ∧ w'.cell? ⟨wr.heap.size, 0, none⟩ = some (.int .i64 x.tk) ∧ w'.cell? ⟨wr.heap.size, 1, none⟩ = some (.int .i64 x.lo) ∧ w'.cell? ⟨wr.heap.size, 2, none⟩ = some (.int .i64 x.hi))
          (refine ⟨?_, ?_, ?_, ?_, ?_, ?_, ?_⟩ <;> (first | (go_simp; done) | go_keep))
          (first | (go_at_call 31; refine (c_srcCheck _ _ _ _).mono ?_; rintro e w5 ⟨rfl, hb⟩; have hz := hb.size; (try simp only [World.size_alloc, World.size_setCell, World.size_drew, World.heap_drewN] at hz); (try have h_wr_0 : wr.heap.size < w5.heap.size := by omega); (try have e_wr_0 : ¬ wr.heap.size = w5.heap.size := by omega); (try have d_wr_0 : ¬ w5.heap.size = wr.heap.size := by omega); (try (refine bcUse (n := wr.heap.size) hb ?_ ?_; (focus ((try simp only [World.size_alloc, World.size_setCell, World.size_drew, World.heap_drewN]); omega)); intro _ _)); (try have h_w3_0 : w3.heap.size < w5.heap.size := by omega); (try have e_w3_0 : ¬ w3.heap.size = w5.heap.size := by omega); (try have d_w3_0 : ¬ w5.heap.size = w3.heap.size := by omega); (try (refine bcUse (n := w3.heap.size) hb ?_ ?_; (focus ((try simp only [World.size_alloc, World.size_setCell, World.size_drew, World.heap_drewN]); omega)); intro _ _)); (try have h_w4_0 : w4.heap.size < w5.heap.size := by omega); (try have e_w4_0 : ¬ w4.heap.size = w5.heap.size := by omega); (try have d_w4_0 : ¬ w5.heap.size = w4.heap.size := by omega); (try (refine bcUse (n := w4.heap.size) hb ?_ ?_; (focus ((try simp only [World.size_alloc, World.size_setCell, World.size_drew, World.heap_drewN]); omega)); intro _ _)); (try have h_bb'_0 : b' < w5.heap.size := by omega); (try have e_bb'_0 : ¬ b' = w5.heap.size := by omega); (try have d_bb'_0 : ¬ w5.heap.size = b' := by omega); (try (refine bcUse (n := b') hb ?_ ?_; (focus ((try simp only [World.size_alloc, World.size_setCell, World.size_drew, World.heap_drewN]); omega)); intro _ _))) | (go_at_call 24; refine (c_refReadingErr _ _ _ _).mono ?_; rintro e w6 ⟨rfl, hb⟩; have hz := hb.size; (try simp only [World.size_alloc, World.size_setCell, World.size_drew, World.heap_drewN] at hz); (try have h_wr_0 : wr.heap.size < w6.heap.size := by omega); (try have e_wr_0 : ¬ wr.heap.size = w6.heap.size := by omega); (try have d_wr_0 : ¬ w6.heap.size = wr.heap.size := by omega); (try (refine bcUse (n := wr.heap.size) hb ?_ ?_; (focus ((try simp only [World.size_alloc, World.size_setCell, World.size_drew, World.heap_drewN]); omega)); intro _ _)); (try have h_w3_0 : w3.heap.size < w6.heap.size := by omega); (try have e_w3_0 : ¬ w3.heap.size = w6.heap.size := by omega); (try have d_w3_0 : ¬ w6.heap.size = w3.heap.size := by omega); (try (refine bcUse (n := w3.heap.size) hb ?_ ?_; (focus ((try simp only [World.size_alloc, World.size_setCell, World.size_drew, World.heap_drewN]); omega)); intro _ _)); (try have h_w4_0 : w4.heap.size < w6.heap.size := by omega); (try have e_w4_0 : ¬ w4.heap.size = w6.heap.size := by omega); (try have d_w4_0 : ¬ w6.heap.size = w4.heap.size := by omega); (try (refine bcUse (n := w4.heap.size) hb ?_ ?_; (focus ((try simp only [World.size_alloc, World.size_setCell, World.size_drew, World.heap_drewN]); omega)); intro _ _)); (try have h_w5_0 : w5.heap.size < w6.heap.size := by omega); (try have e_w5_0 : ¬ w5.heap.size = w6.heap.size := by omega); (try have d_w5_0 : ¬ w6.heap.size = w5.heap.size := by omega); (try (refine bcUse (n := w5.heap.size) hb ?_ ?_; (focus ((try simp only [World.size_alloc, World.size_setCell, World.size_drew, World.heap_drewN]); omega)); intro _ _)); (try have h_bb'_0 : b' < w6.heap.size := by omega); (try have e_bb'_0 : ¬ b' = w6.heap.size := by omega); (try have d_bb'_0 : ¬ w6.heap.size = b' := by omega); (try (refine bcUse (n := b') hb ?_ ?_; (focus ((try simp only [World.size_alloc, World.size_setCell, World.size_drew, World.heap_drewN]); omega)); intro _ _))))
        go_upto_if 65 with fail
        go_cut [9] (fun x9 wc => x9 = .int .i64 0 ∧ Below wr.heap.size wr wc ∧ wc.cell? ⟨w4.heap.size, 0, none⟩ = some (.int .i64 (mvLo d x.tk x.lo x.hi q)) ∧ wc.cell? ⟨w4.heap.size, 1, none⟩ = some (.int .i64 (mvHi d x.tk x.lo x.hi q)) ∧ wc.cell? ⟨b', off' + k * 2, none⟩ = some (.int .i64 (mvLo d x.tk x.lo x.hi q)) ∧ wc.cell? ⟨b', off' + k * 2 + 1, none⟩ = some (.int .i64 (mvHi d x.tk x.lo x.hi q)))
        case first =>
          go_wp2
          all_goals go_meet
          all_goals refine ⟨rfl, ?_, ?_, ?_, ?_, ?_⟩
          all_goals first | (go_simp; done) | (repeat' (first | (with_reducible exact Below.refl _ _) | (with_reducible assumption) | (with_reducible refine Below.call ?_ ?_ (by with_reducible assumption)) | (with_reducible refine Below.alloc ?_ ?_ _) | (with_reducible refine Below.drew ?_) | (with_reducible refine below_drewN ?_ _) | (with_reducible refine Below.setCell ?_ ?_ _) | (with_reducible exact Nat.le_refl _) | omega | (simp only [World.size_alloc, World.size_setCell, World.size_drew, World.heap_drewN] at *; omega)))
        case rest =>
          obtain ⟨rfl, hb6, s0, s1, s2, s3⟩ := hcut
          go_wp2_with fail
          go_region_held3 (fun w' => w'.cell? ⟨w4.heap.size, 0, none⟩ = some (.int .i64 (mvLo d x.tk x.lo x.hi q)) ∧ w'.cell? ⟨w4.heap.size, 1, none⟩ = some (.int .i64 (mvHi d x.tk x.lo x.hi q)) ∧ w'.cell? ⟨b', off' + k * 2, none⟩ = some (.int .i64 (mvLo d x.tk x.lo x.hi q)) ∧ w'.cell? ⟨b', off' + k * 2 + 1, none⟩ = some (.int .i64 (mvHi d x.tk x.lo x.hi q))) (refine ⟨?_, ?_, ?_, ?_⟩ <;> (first | (go_simp; done) | go_keep)) (fail)
          go_wp2
          go_roundg (l.length - (k + 1))
          case measure => omega
          case rel =>
            refine ⟨k + 1, _, by omega, by go_num, rfl, ?_, by rw [HFS.out]; rfl⟩
            have := hbel.size
            (repeat' (first | (with_reducible exact Below.refl _ _) | (with_reducible assumption) | (with_reducible refine Below.call ?_ ?_ (by with_reducible assumption)) | (with_reducible refine Below.alloc ?_ ?_ _) | (with_reducible refine Below.drew ?_) | (with_reducible refine below_drewN ?_ _) | (with_reducible refine Below.setCell ?_ ?_ _) | (with_reducible exact Nat.le_refl _) | omega | (simp only [World.size_alloc, World.size_setCell, World.size_drew, World.heap_drewN] at *; omega)))
      · have hkl : k = l.length := by omega
        rw [hkl, HE.out] at hx
        subst hx
        have l1 : ((l.length : Int) == (l.length : Int)) = true := by simp
        clear hkl
        go_wp2
        go_ret
        refine ⟨rfl, ?_⟩
        (repeat' (first | (with_reducible exact Below.refl _ _) | (with_reducible assumption) | (with_reducible refine Below.call ?_ ?_ (by with_reducible assumption)) | (with_reducible refine Below.alloc ?_ ?_ _) | (with_reducible refine Below.drew ?_) | (with_reducible refine below_drewN ?_ _) | (with_reducible refine Below.setCell ?_ ?_ _) | (with_reducible exact Nat.le_refl _) | omega | (simp only [World.size_alloc, World.size_setCell, World.size_drew, World.heap_drewN] at *; omega)))
end Go.Proofs.Ytpjgoojaahbglaa
