/- The walk through the law LinkOffsets over a slice that is not empty. No condition. -/
import Derived.Test.YtpjgoojaahbglaaWalk3
import Derived.Deep.DeepCutAuto
import Derived.Deep.LoopGhost
namespace Go.Proofs.Ytpjgoojaahbglaa
open Go.RowKit
theorem c_offset_e (x : Ex) (w : World) (z : Int) (hz : x.err = z) (h : z ≠ 0) : Calls Try.prog 13 #[.agg #[.int .i64 x.se, .int .i64 x.re, .int .i64 x.ol, .int .i64 x.oh]] w fun e w' => e = .returned (.tuple #[.agg #[.int .i64 0, .int .i64 0], .int .i64 z]) ∧ Below w.heap.size w w' := by
  subst hz; exact c_offset_bad _ _ _ _ _ h
theorem c_delay_e (x : Ex) (w : World) (z : Int) (hz : x.err = z) (h : z ≠ 0) : Calls Try.prog 14 #[.agg #[.int .i64 x.se, .int .i64 x.re, .int .i64 x.ol, .int .i64 x.oh]] w fun e w' => e = .returned (.tuple #[.int .i64 0, .int .i64 z]) ∧ Below w.heap.size w w' := by
  refine (c_delay _ _ _ _ w).mono fun e w' ⟨h1, h2⟩ => ⟨?_, h2⟩
  subst hz
  have h' : offErr x.se x.re x.ol x.oh ≠ 0 := h
  rw [h1]; simp [offLo, offHi, h', Ex.err]
theorem c_offset_c (x : Ex) (w : World) (h : x.err = 0) : Calls Try.prog 13 #[.agg #[.int .i64 x.se, .int .i64 x.re, .int .i64 x.ol, .int .i64 x.oh]] w fun e w' => e = .returned (.tuple #[.agg #[.int .i64 (x.oh - x.re), .int .i64 (x.ol - x.se)], .int .i64 0]) ∧ Below w.heap.size w w' :=
  c_offset_ok _ _ _ _ _ h
theorem c_delay_c (x : Ex) (w : World) (h : x.err = 0) : Calls Try.prog 14 #[.agg #[.int .i64 x.se, .int .i64 x.re, .int .i64 x.ol, .int .i64 x.oh]] w fun e w' => e = .returned (.tuple #[.int .i64 (x.ol - x.se - (x.oh - x.re)), .int .i64 0]) ∧ Below w.heap.size w w' := by
  refine (c_delay _ _ _ _ w).mono fun e w' ⟨h1, h2⟩ => ⟨?_, h2⟩
  have h' : offErr x.se x.re x.ol x.oh = 0 := h
  rw [h1]; simp [offLo, offHi, h']
theorem c_exErr_z (x : Ex) (w : World) (z : Int) (hz : exErr x.se x.re x.ol x.oh = z) : Calls Try.prog 15 #[.agg #[.int .i64 x.se, .int .i64 x.re, .int .i64 x.ol, .int .i64 x.oh]] w fun e w' => e = .returned (.int .i64 z) ∧ Below w.heap.size w w' := by
  subst hz; exact c_exchangeErr _ _ _ _ _
theorem c_chk_z (x : Ex) (w : World) (z : Int) (hz : exErr x.se x.re x.ol x.oh = z) : Calls Try.prog 16 #[.agg #[.int .i64 x.se, .int .i64 x.re, .int .i64 x.ol, .int .i64 x.oh]] w fun e w' => e = .returned (.int .i64 z) ∧ Below w.heap.size w w' := by
  subst hz; exact c_linkCheck _ _ _ _ _

/-- The law's own error after k rounds. -/
def lawErr (l : List Ex) (k : Nat) : Int := if 40 < l.length then 2 else ferr (l.take k)
theorem lawErr_snoc (l : List Ex) (k : Nat) (h : k < l.length) : lawErr l (k + 1) = if lawErr l k = 0 then l[k].err else lawErr l k := by
  unfold lawErr
  by_cases h40 : 40 < l.length
  · simp [h40]
  · simp only [h40, if_false]; exact ferr_snoc l k h

/-- The error so far, one more. -/
def nextErr (xk z : Int) : Int := if xk = 0 then z else xk
theorem nextErr_yes {xk z : Int} (h : (xk == 0) = true) : nextErr xk z = z := by unfold nextErr; rw [if_pos (by simpa using h)]
theorem nextErr_no {xk z : Int} (h : (xk == 0) = false) : nextErr xk z = xk := by unfold nextErr; rw [if_neg (by simpa using h)]
def nextLo (k : Nat) (lo v : Int) : Int := if k = 0 then v else if lo < v then v else lo
def nextHi (k : Nat) (hi v : Int) : Int := if k = 0 then v else if v < hi then v else hi
theorem bst_next (l : List Ex) (k : Nat) (h : k < l.length) : (bst (l.take (k + 1))).2.1 = nextLo k (bst (l.take k)).2.1 (l[k].oh - l[k].re) ∧ (bst (l.take (k + 1))).2.2 = nextHi k (bst (l.take k)).2.2 (l[k].ol - l[k].se) := by
  rw [bst_snoc l k h]
  have hf := bst_first l k (by omega)
  by_cases hk : k = 0
  · rw [bstep_first _ _ (by rw [hf]; simp [hk])]; simp [nextLo, nextHi, hk]
  · rw [bstep_next _ _ (by rw [hf]; simp [hk])]; simp [nextLo, nextHi, hk]
theorem nextLo_yes {k : Nat} {lo v : Int} {c kz : Bool} (hc : c = (kz || decide (lo < v))) (hk : kz = decide (k = 0)) (h : c = true) : nextLo k lo v = v := by
  subst hk; rw [hc] at h; simp at h; unfold nextLo
  split
  · rfl
  · rw [if_pos (by omega)]
theorem nextLo_no {k : Nat} {lo v : Int} {c kz : Bool} (hc : c = (kz || decide (lo < v))) (hk : kz = decide (k = 0)) (h : c = false) : nextLo k lo v = lo := by
  subst hk; rw [hc] at h; simp at h; unfold nextLo
  rw [if_neg (by omega), if_neg (by omega)]
theorem nextHi_yes {k : Nat} {hi v : Int} {c kz : Bool} (hc : c = (kz || decide (v < hi))) (hk : kz = decide (k = 0)) (h : c = true) : nextHi k hi v = v := by
  subst hk; rw [hc] at h; simp at h; unfold nextHi
  split
  · rfl
  · rw [if_pos (by omega)]
theorem nextHi_no {k : Nat} {hi v : Int} {c kz : Bool} (hc : c = (kz || decide (v < hi))) (hk : kz = decide (k = 0)) (h : c = false) : nextHi k hi v = hi := by
  subst hk; rw [hc] at h; simp at h; unfold nextHi
  rw [if_neg (by omega), if_neg (by omega)]
theorem nextErr_zero {xk : Int} (h : nextErr xk 0 = 0) : xk = 0 := by
  unfold nextErr at h; split at h <;> omega
theorem nextErr_bad {xk z : Int} (hz : z ≠ 0) : nextErr xk z ≠ 0 := by
  unfold nextErr; split <;> omega
theorem lawErr_next (l : List Ex) (k : Nat) (h : k < l.length) : lawErr l (k + 1) = nextErr (lawErr l k) l[k].err := lawErr_snoc l k h

set_option maxRecDepth 100000 in
set_option maxHeartbeats 8000000 in
theorem walk_link (b off cap : Nat) (l : List Ex) (w : World) (hlc : l.length ≤ cap) (hm : l.length ≤ 9223372036854775807) (hl0 : 0 < l.length) (hblk : b < w.heap.size) (hrow : ExRow w b off l) :
    Calls Try.prog 3 #[.slice (some ⟨b, off, none⟩) l.length cap] w fun e w' => e = .returned (.bool true) ∧ Below w.heap.size w w' := by
  have h1 : ((l.length : Int) == 0) = false := by simp; intro h; simp [h] at hl0
  have hgen := sgen; have hgen2 := sgen2; have hgen3 := sgen3; go_enter Try.func3, Try.ntmps3
  go_upto_if 28 with (first | (go_at_call 11; refine (c_linkWorks _).mono ?_; rintro e w1 ⟨rfl, hb⟩; have hz := hb.size; (try simp only [World.size_alloc, World.size_setCell, World.size_drew] at hz); obtain ⟨hc, hf⟩ := bcell hb; (try have h_w_0 : w.heap.size < w1.heap.size := by omega); (try (refine bcUse (n := w.heap.size) hb ?_ ?_; (focus ((try simp only [World.size_alloc, World.size_setCell, World.size_drew]); omega)); intro _ _)); (try have h_w_1 : w.heap.size + 1 < w1.heap.size := by omega); (try (refine bcUse (n := w.heap.size + 1) hb ?_ ?_; (focus ((try simp only [World.size_alloc, World.size_setCell, World.size_drew]); omega)); intro _ _)); (try have h_w_2 : w.heap.size + 2 < w1.heap.size := by omega); (try (refine bcUse (n := w.heap.size + 2) hb ?_ ?_; (focus ((try simp only [World.size_alloc, World.size_setCell, World.size_drew]); omega)); intro _ _)); (try have h_wr_0 : wr.heap.size < w1.heap.size := by omega); (try (refine bcUse (n := wr.heap.size) hb ?_ ?_; (focus ((try simp only [World.size_alloc, World.size_setCell, World.size_drew]); omega)); intro _ _)); (try have h_wr_1 : wr.heap.size + 1 < w1.heap.size := by omega); (try (refine bcUse (n := wr.heap.size + 1) hb ?_ ?_; (focus ((try simp only [World.size_alloc, World.size_setCell, World.size_drew]); omega)); intro _ _)); (try have h_wr_2 : wr.heap.size + 2 < w1.heap.size := by omega); (try (refine bcUse (n := wr.heap.size + 2) hb ?_ ?_; (focus ((try simp only [World.size_alloc, World.size_setCell, World.size_drew]); omega)); intro _ _)); (try have h_w2_0 : w2.heap.size < w1.heap.size := by omega); (try (refine bcUse (n := w2.heap.size) hb ?_ ?_; (focus ((try simp only [World.size_alloc, World.size_setCell, World.size_drew]); omega)); intro _ _)); (try have h_w2_1 : w2.heap.size + 1 < w1.heap.size := by omega); (try (refine bcUse (n := w2.heap.size + 1) hb ?_ ?_; (focus ((try simp only [World.size_alloc, World.size_setCell, World.size_drew]); omega)); intro _ _)); (try have h_w2_2 : w2.heap.size + 2 < w1.heap.size := by omega); (try (refine bcUse (n := w2.heap.size + 2) hb ?_ ?_; (focus ((try simp only [World.size_alloc, World.size_setCell, World.size_drew]); omega)); intro _ _)); (try have h_w3_0 : w3.heap.size < w1.heap.size := by omega); (try (refine bcUse (n := w3.heap.size) hb ?_ ?_; (focus ((try simp only [World.size_alloc, World.size_setCell, World.size_drew]); omega)); intro _ _)); (try have h_w3_1 : w3.heap.size + 1 < w1.heap.size := by omega); (try (refine bcUse (n := w3.heap.size + 1) hb ?_ ?_; (focus ((try simp only [World.size_alloc, World.size_setCell, World.size_drew]); omega)); intro _ _)); (try have h_w3_2 : w3.heap.size + 2 < w1.heap.size := by omega); (try (refine bcUse (n := w3.heap.size + 2) hb ?_ ?_; (focus ((try simp only [World.size_alloc, World.size_setCell, World.size_drew]); omega)); intro _ _)); (try have h_w4_0 : w4.heap.size < w1.heap.size := by omega); (try (refine bcUse (n := w4.heap.size) hb ?_ ?_; (focus ((try simp only [World.size_alloc, World.size_setCell, World.size_drew]); omega)); intro _ _)); (try have h_w4_1 : w4.heap.size + 1 < w1.heap.size := by omega); (try (refine bcUse (n := w4.heap.size + 1) hb ?_ ?_; (focus ((try simp only [World.size_alloc, World.size_setCell, World.size_drew]); omega)); intro _ _)); (try have h_w4_2 : w4.heap.size + 2 < w1.heap.size := by omega); (try (refine bcUse (n := w4.heap.size + 2) hb ?_ ?_; (focus ((try simp only [World.size_alloc, World.size_setCell, World.size_drew]); omega)); intro _ _)); (try have h_w5_0 : w5.heap.size < w1.heap.size := by omega); (try (refine bcUse (n := w5.heap.size) hb ?_ ?_; (focus ((try simp only [World.size_alloc, World.size_setCell, World.size_drew]); omega)); intro _ _)); (try have h_w5_1 : w5.heap.size + 1 < w1.heap.size := by omega); (try (refine bcUse (n := w5.heap.size + 1) hb ?_ ?_; (focus ((try simp only [World.size_alloc, World.size_setCell, World.size_drew]); omega)); intro _ _)); (try have h_w5_2 : w5.heap.size + 2 < w1.heap.size := by omega); (try (refine bcUse (n := w5.heap.size + 2) hb ?_ ?_; (focus ((try simp only [World.size_alloc, World.size_setCell, World.size_drew]); omega)); intro _ _))) | (go_at_call 12; refine (c_best_any _ _ l _ hlc (ExSlice.below (.inr ⟨b, off, rfl, hblk, hrow⟩) (by assumption))).mono ?_; rintro e w2 ⟨rfl, hb⟩; have hz := hb.size; (try simp only [World.size_alloc, World.size_setCell, World.size_drew] at hz); obtain ⟨hc, hf⟩ := bcell hb; (try have h_w_0 : w.heap.size < w2.heap.size := by omega); (try (refine bcUse (n := w.heap.size) hb ?_ ?_; (focus ((try simp only [World.size_alloc, World.size_setCell, World.size_drew]); omega)); intro _ _)); (try have h_w_1 : w.heap.size + 1 < w2.heap.size := by omega); (try (refine bcUse (n := w.heap.size + 1) hb ?_ ?_; (focus ((try simp only [World.size_alloc, World.size_setCell, World.size_drew]); omega)); intro _ _)); (try have h_w_2 : w.heap.size + 2 < w2.heap.size := by omega); (try (refine bcUse (n := w.heap.size + 2) hb ?_ ?_; (focus ((try simp only [World.size_alloc, World.size_setCell, World.size_drew]); omega)); intro _ _)); (try have h_wr_0 : wr.heap.size < w2.heap.size := by omega); (try (refine bcUse (n := wr.heap.size) hb ?_ ?_; (focus ((try simp only [World.size_alloc, World.size_setCell, World.size_drew]); omega)); intro _ _)); (try have h_wr_1 : wr.heap.size + 1 < w2.heap.size := by omega); (try (refine bcUse (n := wr.heap.size + 1) hb ?_ ?_; (focus ((try simp only [World.size_alloc, World.size_setCell, World.size_drew]); omega)); intro _ _)); (try have h_wr_2 : wr.heap.size + 2 < w2.heap.size := by omega); (try (refine bcUse (n := wr.heap.size + 2) hb ?_ ?_; (focus ((try simp only [World.size_alloc, World.size_setCell, World.size_drew]); omega)); intro _ _)); (try have h_w1_0 : w1.heap.size < w2.heap.size := by omega); (try (refine bcUse (n := w1.heap.size) hb ?_ ?_; (focus ((try simp only [World.size_alloc, World.size_setCell, World.size_drew]); omega)); intro _ _)); (try have h_w1_1 : w1.heap.size + 1 < w2.heap.size := by omega); (try (refine bcUse (n := w1.heap.size + 1) hb ?_ ?_; (focus ((try simp only [World.size_alloc, World.size_setCell, World.size_drew]); omega)); intro _ _)); (try have h_w1_2 : w1.heap.size + 2 < w2.heap.size := by omega); (try (refine bcUse (n := w1.heap.size + 2) hb ?_ ?_; (focus ((try simp only [World.size_alloc, World.size_setCell, World.size_drew]); omega)); intro _ _)); (try have h_w3_0 : w3.heap.size < w2.heap.size := by omega); (try (refine bcUse (n := w3.heap.size) hb ?_ ?_; (focus ((try simp only [World.size_alloc, World.size_setCell, World.size_drew]); omega)); intro _ _)); (try have h_w3_1 : w3.heap.size + 1 < w2.heap.size := by omega); (try (refine bcUse (n := w3.heap.size + 1) hb ?_ ?_; (focus ((try simp only [World.size_alloc, World.size_setCell, World.size_drew]); omega)); intro _ _)); (try have h_w3_2 : w3.heap.size + 2 < w2.heap.size := by omega); (try (refine bcUse (n := w3.heap.size + 2) hb ?_ ?_; (focus ((try simp only [World.size_alloc, World.size_setCell, World.size_drew]); omega)); intro _ _)); (try have h_w4_0 : w4.heap.size < w2.heap.size := by omega); (try (refine bcUse (n := w4.heap.size) hb ?_ ?_; (focus ((try simp only [World.size_alloc, World.size_setCell, World.size_drew]); omega)); intro _ _)); (try have h_w4_1 : w4.heap.size + 1 < w2.heap.size := by omega); (try (refine bcUse (n := w4.heap.size + 1) hb ?_ ?_; (focus ((try simp only [World.size_alloc, World.size_setCell, World.size_drew]); omega)); intro _ _)); (try have h_w4_2 : w4.heap.size + 2 < w2.heap.size := by omega); (try (refine bcUse (n := w4.heap.size + 2) hb ?_ ?_; (focus ((try simp only [World.size_alloc, World.size_setCell, World.size_drew]); omega)); intro _ _)); (try have h_w5_0 : w5.heap.size < w2.heap.size := by omega); (try (refine bcUse (n := w5.heap.size) hb ?_ ?_; (focus ((try simp only [World.size_alloc, World.size_setCell, World.size_drew]); omega)); intro _ _)); (try have h_w5_1 : w5.heap.size + 1 < w2.heap.size := by omega); (try (refine bcUse (n := w5.heap.size + 1) hb ?_ ?_; (focus ((try simp only [World.size_alloc, World.size_setCell, World.size_drew]); omega)); intro _ _)); (try have h_w5_2 : w5.heap.size + 2 < w2.heap.size := by omega); (try (refine bcUse (n := w5.heap.size + 2) hb ?_ ?_; (focus ((try simp only [World.size_alloc, World.size_setCell, World.size_drew]); omega)); intro _ _))))
  go_cut [5] (fun x5 wc => x5 = .int .i64 (lawErr l 0) ∧ Below w.heap.size w wc ∧ w2.heap.size < wc.heap.size ∧ wc.cell? ⟨w2.heap.size, 0, none⟩ = some (.int .i64 (bestLo l)) ∧ wc.cell? ⟨w2.heap.size, 1, none⟩ = some (.int .i64 (bestHi l)))
  case first =>
    go_wp2
    all_goals go_meet
    all_goals
      have h40 : (40 < l.length) ∨ ¬ (40 < l.length) := by omega
      refine ⟨?_, ?_, ?_, ?_, ?_⟩
      all_goals first | (go_simp; done) | (congr 1; unfold lawErr; first | (rw [if_pos (by omega)]; done) | (rw [if_neg (by omega)]; rfl)) | (repeat' (first | (with_reducible exact Below.refl _ _) | (with_reducible assumption) | (with_reducible refine Below.call ?_ ?_ (by with_reducible assumption)) | (with_reducible refine Below.alloc ?_ ?_ _) | (with_reducible refine Below.drew ?_) | (with_reducible refine Below.setCell ?_ ?_ _) | (with_reducible exact Nat.le_refl _) | omega | (simp only [World.size_alloc, World.size_setCell, World.size_drew] at *; omega)))
  case rest =>
    obtain ⟨rfl, hbel0, hs20, q00, q10⟩ := hcut
    go_wp2
    go_loopg [5, 6, 7, 31] l.length (fun gk x5 x6 x7 i wr => ∃ k : Nat, ∃ xk lo hi : Int, gk + k = l.length ∧ i = .int .i64 k ∧ x5 = .int .i64 xk ∧ x6 = .int .i64 lo ∧ x7 = .int .i64 hi ∧ Below w.heap.size w wr ∧ w2.heap.size < wr.heap.size ∧
      wr.cell? ⟨w2.heap.size, 0, none⟩ = some (.int .i64 (bestLo l)) ∧ wr.cell? ⟨w2.heap.size, 1, none⟩ = some (.int .i64 (bestHi l)) ∧ xk = lawErr l k ∧ (xk = 0 → lo = (bst (l.take k)).2.1 ∧ hi = (bst (l.take k)).2.2))
    case atStart => exact ⟨0, _, _, _, by omega, rfl, rfl, rfl, rfl, hbel0, hs20, q00, q10, rfl, fun _ => ⟨rfl, rfl⟩⟩
    case round =>
      obtain ⟨k, xk, lo, hi, hk, rfl, rfl, rfl, rfl, hbel, hs2, q0, q1, hx, hlh⟩ := hrel
      by_cases hlt : k < l.length
      · obtain ⟨c0, c1, c2, c3⟩ := (hrow.below hbel hblk) k hlt
        obtain ⟨hb1, hb2⟩ := bst_next l k hlt
        have hfs := lawErr_next l k hlt
        rw [← hx] at hfs
        clear hx
        generalize l[k] = x at *
        obtain ⟨kz, hkz⟩ : ∃ kz : Bool, ((k : Int) == 0) = kz := ⟨_, rfl⟩
        have HKZ : Hid (kz = decide (k = 0)) := by
          show kz = decide (k = 0)
          rw [← hkz]; by_cases h : k = 0 <;> simp [h]
        by_cases he : exErr x.se x.re x.ol x.oh = 0
        · by_cases hd : x.ol - x.se < x.oh - x.re
          · have hr := exErr_zero he
            have hze : x.err = 8 := by unfold Ex.err offErr; rw [if_neg (by omega), if_pos hd]
            rw [hze] at hfs
            have HZ := Lib.hid he
            have HZE := Lib.hid hze
            have HFS := Lib.hid hfs
            clear hfs hb1 hb2 hlh hze hrow he
            go_upto_if 111 with (first | (go_at_call 13; refine (c_offset_e x _ 8 HZE.out (by omega)).mono ?_; rintro e w3 ⟨rfl, hb⟩; have hz := hb.size; (try simp only [World.size_alloc, World.size_setCell, World.size_drew] at hz); (try have h_w2_0 : w2.heap.size < w3.heap.size := by omega); (try (refine bcUse (n := w2.heap.size) hb ?_ ?_; (focus ((try simp only [World.size_alloc, World.size_setCell, World.size_drew]); omega)); intro _ _)); (try have h_wr_0 : wr.heap.size < w3.heap.size := by omega); (try (refine bcUse (n := wr.heap.size) hb ?_ ?_; (focus ((try simp only [World.size_alloc, World.size_setCell, World.size_drew]); omega)); intro _ _))) | (go_at_call 14; refine (c_delay_e x _ 8 HZE.out (by omega)).mono ?_; rintro e w4 ⟨rfl, hb⟩; have hz := hb.size; (try simp only [World.size_alloc, World.size_setCell, World.size_drew] at hz); (try have h_w2_0 : w2.heap.size < w4.heap.size := by omega); (try (refine bcUse (n := w2.heap.size) hb ?_ ?_; (focus ((try simp only [World.size_alloc, World.size_setCell, World.size_drew]); omega)); intro _ _)); (try have h_wr_0 : wr.heap.size < w4.heap.size := by omega); (try (refine bcUse (n := wr.heap.size) hb ?_ ?_; (focus ((try simp only [World.size_alloc, World.size_setCell, World.size_drew]); omega)); intro _ _)); (try have h_w3_0 : w3.heap.size < w4.heap.size := by omega); (try (refine bcUse (n := w3.heap.size) hb ?_ ?_; (focus ((try simp only [World.size_alloc, World.size_setCell, World.size_drew]); omega)); intro _ _))) | (go_at_call 15; refine (c_exErr_z x _ 0 HZ.out).mono ?_; rintro e w5 ⟨rfl, hb⟩; have hz := hb.size; (try simp only [World.size_alloc, World.size_setCell, World.size_drew] at hz); (try have h_w2_0 : w2.heap.size < w5.heap.size := by omega); (try (refine bcUse (n := w2.heap.size) hb ?_ ?_; (focus ((try simp only [World.size_alloc, World.size_setCell, World.size_drew]); omega)); intro _ _)); (try have h_wr_0 : wr.heap.size < w5.heap.size := by omega); (try (refine bcUse (n := wr.heap.size) hb ?_ ?_; (focus ((try simp only [World.size_alloc, World.size_setCell, World.size_drew]); omega)); intro _ _)); (try have h_w3_0 : w3.heap.size < w5.heap.size := by omega); (try (refine bcUse (n := w3.heap.size) hb ?_ ?_; (focus ((try simp only [World.size_alloc, World.size_setCell, World.size_drew]); omega)); intro _ _))) | (go_at_call 16; refine (c_chk_z x _ 0 HZ.out).mono ?_; rintro e w6 ⟨rfl, hb⟩; have hz := hb.size; (try simp only [World.size_alloc, World.size_setCell, World.size_drew] at hz); (try have h_w2_0 : w2.heap.size < w6.heap.size := by omega); (try (refine bcUse (n := w2.heap.size) hb ?_ ?_; (focus ((try simp only [World.size_alloc, World.size_setCell, World.size_drew]); omega)); intro _ _)); (try have h_wr_0 : wr.heap.size < w6.heap.size := by omega); (try (refine bcUse (n := wr.heap.size) hb ?_ ?_; (focus ((try simp only [World.size_alloc, World.size_setCell, World.size_drew]); omega)); intro _ _)); (try have h_w3_0 : w3.heap.size < w6.heap.size := by omega); (try (refine bcUse (n := w3.heap.size) hb ?_ ?_; (focus ((try simp only [World.size_alloc, World.size_setCell, World.size_drew]); omega)); intro _ _))) | (go_at_call 17; refine (c_none 8 _).mono ?_; rintro e w7 ⟨rfl, hb⟩; have hz := hb.size; (try simp only [World.size_alloc, World.size_setCell, World.size_drew] at hz); (try have h_w2_0 : w2.heap.size < w7.heap.size := by omega); (try (refine bcUse (n := w2.heap.size) hb ?_ ?_; (focus ((try simp only [World.size_alloc, World.size_setCell, World.size_drew]); omega)); intro _ _)); (try have h_wr_0 : wr.heap.size < w7.heap.size := by omega); (try (refine bcUse (n := wr.heap.size) hb ?_ ?_; (focus ((try simp only [World.size_alloc, World.size_setCell, World.size_drew]); omega)); intro _ _)); (try have h_w3_0 : w3.heap.size < w7.heap.size := by omega); (try (refine bcUse (n := w3.heap.size) hb ?_ ?_; (focus ((try simp only [World.size_alloc, World.size_setCell, World.size_drew]); omega)); intro _ _)); (try have h_w6_0 : w6.heap.size < w7.heap.size := by omega); (try (refine bcUse (n := w6.heap.size) hb ?_ ?_; (focus ((try simp only [World.size_alloc, World.size_setCell, World.size_drew]); omega)); intro _ _))))
            go_cut [5] (fun x5 wc => x5 = .int .i64 (nextErr xk 8) ∧ w7 = wc)
            case first =>
              go_wp2
              all_goals go_meet
              · exact ⟨congrArg (Value.int .i64) (nextErr_yes (by assumption)).symm, rfl⟩
              · exact ⟨congrArg (Value.int .i64) (nextErr_no (by assumption)).symm, rfl⟩
            case rest =>
              obtain ⟨rfl, rfl⟩ := hcut
              go_upto_region 27 with fail
              go_cut [120] (fun s wc => (∃ c : Bool, s = .bool c) ∧ w7 = wc)
              case first =>
                go_wp2
                all_goals go_meet
                all_goals exact ⟨⟨_, rfl⟩, rfl⟩
              case rest =>
                obtain ⟨⟨c120, rfl⟩, rfl⟩ := hcut
                go_upto_if 120 with fail
                go_cut [6] (fun x6 wc => (∃ lo' : Int, x6 = .int .i64 lo') ∧ w7 = wc)
                case first =>
                  go_wp2
                  all_goals go_meet
                  all_goals exact ⟨⟨_, rfl⟩, rfl⟩
                case rest =>
                  obtain ⟨⟨lo', rfl⟩, rfl⟩ := hcut
                  go_upto_region 29 with fail
                  go_cut [130] (fun s wc => (∃ c : Bool, s = .bool c) ∧ w7 = wc)
                  case first =>
                    go_wp2
                    all_goals go_meet
                    all_goals exact ⟨⟨_, rfl⟩, rfl⟩
                  case rest =>
                    obtain ⟨⟨c130, rfl⟩, rfl⟩ := hcut
                    go_wp2
                    all_goals go_roundg (l.length - (k + 1))
                    all_goals first | (case measure => omega) | skip
                    all_goals
                      refine ⟨k + 1, _, lo', _, by omega, by go_num, rfl, rfl, rfl, ?_, ?_, ?_, ?_, HFS.out.symm, fun h => absurd h (nextErr_bad (by omega))⟩
                      all_goals first | (go_simp; done) | (repeat' (first | (with_reducible exact Below.refl _ _) | (with_reducible assumption) | (with_reducible refine Below.call ?_ ?_ (by with_reducible assumption)) | (with_reducible refine Below.alloc ?_ ?_ _) | (with_reducible refine Below.drew ?_) | (with_reducible refine Below.setCell ?_ ?_ _) | (with_reducible exact Nat.le_refl _) | omega | (simp only [World.size_alloc, World.size_setCell, World.size_drew] at *; omega)))
          · have hr := exErr_zero he
            have hze : x.err = 0 := by unfold Ex.err offErr; rw [if_neg (by omega), if_neg hd]
            rw [hze] at hfs
            have HZ := Lib.hid he
            have HZE := Lib.hid hze
            have HFS := Lib.hid hfs
            have HB1 := Lib.hid hb1
            have HB2 := Lib.hid hb2
            have HLH := Lib.hid hlh
            clear hfs hb1 hb2 hlh hze hrow he
            go_upto_if 111 with (first | (go_at_call 13; refine (c_offset_c x _ HZE.out).mono ?_; rintro e w3 ⟨rfl, hb⟩; have hz := hb.size; (try simp only [World.size_alloc, World.size_setCell, World.size_drew] at hz); (try have h_w2_0 : w2.heap.size < w3.heap.size := by omega); (try (refine bcUse (n := w2.heap.size) hb ?_ ?_; (focus ((try simp only [World.size_alloc, World.size_setCell, World.size_drew]); omega)); intro _ _)); (try have h_wr_0 : wr.heap.size < w3.heap.size := by omega); (try (refine bcUse (n := wr.heap.size) hb ?_ ?_; (focus ((try simp only [World.size_alloc, World.size_setCell, World.size_drew]); omega)); intro _ _))) | (go_at_call 14; refine (c_delay_c x _ HZE.out).mono ?_; rintro e w4 ⟨rfl, hb⟩; have hz := hb.size; (try simp only [World.size_alloc, World.size_setCell, World.size_drew] at hz); (try have h_w2_0 : w2.heap.size < w4.heap.size := by omega); (try (refine bcUse (n := w2.heap.size) hb ?_ ?_; (focus ((try simp only [World.size_alloc, World.size_setCell, World.size_drew]); omega)); intro _ _)); (try have h_wr_0 : wr.heap.size < w4.heap.size := by omega); (try (refine bcUse (n := wr.heap.size) hb ?_ ?_; (focus ((try simp only [World.size_alloc, World.size_setCell, World.size_drew]); omega)); intro _ _)); (try have h_w3_0 : w3.heap.size < w4.heap.size := by omega); (try (refine bcUse (n := w3.heap.size) hb ?_ ?_; (focus ((try simp only [World.size_alloc, World.size_setCell, World.size_drew]); omega)); intro _ _))) | (go_at_call 15; refine (c_exErr_z x _ 0 HZ.out).mono ?_; rintro e w5 ⟨rfl, hb⟩; have hz := hb.size; (try simp only [World.size_alloc, World.size_setCell, World.size_drew] at hz); (try have h_w2_0 : w2.heap.size < w5.heap.size := by omega); (try (refine bcUse (n := w2.heap.size) hb ?_ ?_; (focus ((try simp only [World.size_alloc, World.size_setCell, World.size_drew]); omega)); intro _ _)); (try have h_wr_0 : wr.heap.size < w5.heap.size := by omega); (try (refine bcUse (n := wr.heap.size) hb ?_ ?_; (focus ((try simp only [World.size_alloc, World.size_setCell, World.size_drew]); omega)); intro _ _)); (try have h_w3_0 : w3.heap.size < w5.heap.size := by omega); (try (refine bcUse (n := w3.heap.size) hb ?_ ?_; (focus ((try simp only [World.size_alloc, World.size_setCell, World.size_drew]); omega)); intro _ _))) | (go_at_call 16; refine (c_chk_z x _ 0 HZ.out).mono ?_; rintro e w6 ⟨rfl, hb⟩; have hz := hb.size; (try simp only [World.size_alloc, World.size_setCell, World.size_drew] at hz); (try have h_w2_0 : w2.heap.size < w6.heap.size := by omega); (try (refine bcUse (n := w2.heap.size) hb ?_ ?_; (focus ((try simp only [World.size_alloc, World.size_setCell, World.size_drew]); omega)); intro _ _)); (try have h_wr_0 : wr.heap.size < w6.heap.size := by omega); (try (refine bcUse (n := wr.heap.size) hb ?_ ?_; (focus ((try simp only [World.size_alloc, World.size_setCell, World.size_drew]); omega)); intro _ _)); (try have h_w3_0 : w3.heap.size < w6.heap.size := by omega); (try (refine bcUse (n := w3.heap.size) hb ?_ ?_; (focus ((try simp only [World.size_alloc, World.size_setCell, World.size_drew]); omega)); intro _ _))))
            go_cut [5] (fun x5 wc => x5 = .int .i64 (nextErr xk 0) ∧ w6.alloc (.cells #[.int .i64 (x.oh - x.re), .int .i64 (x.ol - x.se)] 25) = wc)
            case first =>
              go_wp2
              all_goals go_meet
              · exact ⟨congrArg (Value.int .i64) (nextErr_yes (by assumption)).symm, rfl⟩
              · exact ⟨congrArg (Value.int .i64) (nextErr_no (by assumption)).symm, rfl⟩
            case rest =>
              obtain ⟨rfl, rfl⟩ := hcut
              go_upto_region 27 with fail
              go_cut [120] (fun s wc => (∃ c : Bool, s = .bool c ∧ Hid (c = (kz || decide (lo < x.oh - x.re)))) ∧ w6.alloc (.cells #[.int .i64 (x.oh - x.re), .int .i64 (x.ol - x.se)] 25) = wc)
              case first =>
                go_wp2
                all_goals go_meet
                all_goals exact ⟨⟨_, rfl, by show _ = _; simp [*]⟩, rfl⟩
              case rest =>
                obtain ⟨⟨c120, rfl, HC1⟩, rfl⟩ := hcut
                go_upto_if 120 with fail
                go_cut [6] (fun x6 wc => x6 = .int .i64 (nextLo k lo (x.oh - x.re)) ∧ w6.alloc (.cells #[.int .i64 (x.oh - x.re), .int .i64 (x.ol - x.se)] 25) = wc)
                case first =>
                  go_wp2
                  all_goals go_meet
                  · exact ⟨congrArg (Value.int .i64) (nextLo_yes HC1.out HKZ.out (by assumption)).symm, rfl⟩
                  · exact ⟨congrArg (Value.int .i64) (nextLo_no HC1.out HKZ.out (by assumption)).symm, rfl⟩
                case rest =>
                  obtain ⟨rfl, rfl⟩ := hcut
                  go_upto_region 29 with fail
                  go_cut [130] (fun s wc => (∃ c : Bool, s = .bool c ∧ Hid (c = (kz || decide (x.ol - x.se < hi)))) ∧ w6.alloc (.cells #[.int .i64 (x.oh - x.re), .int .i64 (x.ol - x.se)] 25) = wc)
                  case first =>
                    go_wp2
                    all_goals go_meet
                    all_goals exact ⟨⟨_, rfl, by show _ = _; simp [*]⟩, rfl⟩
                  case rest =>
                    obtain ⟨⟨c130, rfl, HC2⟩, rfl⟩ := hcut
                    go_wp2
                    · have hh := nextHi_yes HC2.out HKZ.out (by assumption)
                      go_roundg (l.length - (k + 1))
                      case measure => omega
                      case rel =>
                        refine ⟨k + 1, _, _, _, by omega, by go_num, rfl, rfl, rfl, ?_, ?_, ?_, ?_, HFS.out.symm, fun h => ?_⟩
                        all_goals first | (go_simp; done) | (obtain ⟨e1, e2⟩ := HLH.out (nextErr_zero h); exact ⟨by rw [HB1.out, ← e1], by rw [HB2.out, ← e2, hh]⟩) | (repeat' (first | (with_reducible exact Below.refl _ _) | (with_reducible assumption) | (with_reducible refine Below.call ?_ ?_ (by with_reducible assumption)) | (with_reducible refine Below.alloc ?_ ?_ _) | (with_reducible refine Below.drew ?_) | (with_reducible refine Below.setCell ?_ ?_ _) | (with_reducible exact Nat.le_refl _) | omega | (simp only [World.size_alloc, World.size_setCell, World.size_drew] at *; omega)))
                    · have hh := nextHi_no HC2.out HKZ.out (by assumption)
                      go_roundg (l.length - (k + 1))
                      case measure => omega
                      case rel =>
                        refine ⟨k + 1, _, _, _, by omega, by go_num, rfl, rfl, rfl, ?_, ?_, ?_, ?_, HFS.out.symm, fun h => ?_⟩
                        all_goals first | (go_simp; done) | (obtain ⟨e1, e2⟩ := HLH.out (nextErr_zero h); exact ⟨by rw [HB1.out, ← e1], by rw [HB2.out, ← e2, hh]⟩) | (repeat' (first | (with_reducible exact Below.refl _ _) | (with_reducible assumption) | (with_reducible refine Below.call ?_ ?_ (by with_reducible assumption)) | (with_reducible refine Below.alloc ?_ ?_ _) | (with_reducible refine Below.drew ?_) | (with_reducible refine Below.setCell ?_ ?_ _) | (with_reducible exact Nat.le_refl _) | omega | (simp only [World.size_alloc, World.size_setCell, World.size_drew] at *; omega)))
        · obtain ⟨z, hz⟩ : ∃ z, exErr x.se x.re x.ol x.oh = z := ⟨_, rfl⟩
          have hze : x.err = z := by unfold Ex.err offErr; rw [if_pos he]; exact hz
          rw [hz] at he
          have z1 : (z == 0) = false := by simp [he]
          have z2 : (z != 0) = true := by simp [he]
          rw [hze] at hfs
          have HZ := Lib.hid hz
          have HZE := Lib.hid hze
          have HFS := Lib.hid hfs
          clear hfs hb1 hb2 hlh hz hze hrow
          go_upto_if 111 with (first | (go_at_call 13; refine (c_offset_e x _ z HZE.out he).mono ?_; rintro e w3 ⟨rfl, hb⟩; have hz := hb.size; (try simp only [World.size_alloc, World.size_setCell, World.size_drew] at hz); (try have h_w2_0 : w2.heap.size < w3.heap.size := by omega); (try (refine bcUse (n := w2.heap.size) hb ?_ ?_; (focus ((try simp only [World.size_alloc, World.size_setCell, World.size_drew]); omega)); intro _ _)); (try have h_wr_0 : wr.heap.size < w3.heap.size := by omega); (try (refine bcUse (n := wr.heap.size) hb ?_ ?_; (focus ((try simp only [World.size_alloc, World.size_setCell, World.size_drew]); omega)); intro _ _))) | (go_at_call 14; refine (c_delay_e x _ z HZE.out he).mono ?_; rintro e w4 ⟨rfl, hb⟩; have hz := hb.size; (try simp only [World.size_alloc, World.size_setCell, World.size_drew] at hz); (try have h_w2_0 : w2.heap.size < w4.heap.size := by omega); (try (refine bcUse (n := w2.heap.size) hb ?_ ?_; (focus ((try simp only [World.size_alloc, World.size_setCell, World.size_drew]); omega)); intro _ _)); (try have h_wr_0 : wr.heap.size < w4.heap.size := by omega); (try (refine bcUse (n := wr.heap.size) hb ?_ ?_; (focus ((try simp only [World.size_alloc, World.size_setCell, World.size_drew]); omega)); intro _ _)); (try have h_w3_0 : w3.heap.size < w4.heap.size := by omega); (try (refine bcUse (n := w3.heap.size) hb ?_ ?_; (focus ((try simp only [World.size_alloc, World.size_setCell, World.size_drew]); omega)); intro _ _))) | (go_at_call 15; refine (c_exErr_z x _ z HZ.out).mono ?_; rintro e w5 ⟨rfl, hb⟩; have hz := hb.size; (try simp only [World.size_alloc, World.size_setCell, World.size_drew] at hz); (try have h_w2_0 : w2.heap.size < w5.heap.size := by omega); (try (refine bcUse (n := w2.heap.size) hb ?_ ?_; (focus ((try simp only [World.size_alloc, World.size_setCell, World.size_drew]); omega)); intro _ _)); (try have h_wr_0 : wr.heap.size < w5.heap.size := by omega); (try (refine bcUse (n := wr.heap.size) hb ?_ ?_; (focus ((try simp only [World.size_alloc, World.size_setCell, World.size_drew]); omega)); intro _ _)); (try have h_w3_0 : w3.heap.size < w5.heap.size := by omega); (try (refine bcUse (n := w3.heap.size) hb ?_ ?_; (focus ((try simp only [World.size_alloc, World.size_setCell, World.size_drew]); omega)); intro _ _))) | (go_at_call 16; refine (c_chk_z x _ z HZ.out).mono ?_; rintro e w6 ⟨rfl, hb⟩; have hz := hb.size; (try simp only [World.size_alloc, World.size_setCell, World.size_drew] at hz); (try have h_w2_0 : w2.heap.size < w6.heap.size := by omega); (try (refine bcUse (n := w2.heap.size) hb ?_ ?_; (focus ((try simp only [World.size_alloc, World.size_setCell, World.size_drew]); omega)); intro _ _)); (try have h_wr_0 : wr.heap.size < w6.heap.size := by omega); (try (refine bcUse (n := wr.heap.size) hb ?_ ?_; (focus ((try simp only [World.size_alloc, World.size_setCell, World.size_drew]); omega)); intro _ _)); (try have h_w3_0 : w3.heap.size < w6.heap.size := by omega); (try (refine bcUse (n := w3.heap.size) hb ?_ ?_; (focus ((try simp only [World.size_alloc, World.size_setCell, World.size_drew]); omega)); intro _ _))) | (go_at_call 17; refine (c_none z _).mono ?_; rintro e w7 ⟨rfl, hb⟩; have hz := hb.size; (try simp only [World.size_alloc, World.size_setCell, World.size_drew] at hz); (try have h_w2_0 : w2.heap.size < w7.heap.size := by omega); (try (refine bcUse (n := w2.heap.size) hb ?_ ?_; (focus ((try simp only [World.size_alloc, World.size_setCell, World.size_drew]); omega)); intro _ _)); (try have h_wr_0 : wr.heap.size < w7.heap.size := by omega); (try (refine bcUse (n := wr.heap.size) hb ?_ ?_; (focus ((try simp only [World.size_alloc, World.size_setCell, World.size_drew]); omega)); intro _ _)); (try have h_w3_0 : w3.heap.size < w7.heap.size := by omega); (try (refine bcUse (n := w3.heap.size) hb ?_ ?_; (focus ((try simp only [World.size_alloc, World.size_setCell, World.size_drew]); omega)); intro _ _)); (try have h_w6_0 : w6.heap.size < w7.heap.size := by omega); (try (refine bcUse (n := w6.heap.size) hb ?_ ?_; (focus ((try simp only [World.size_alloc, World.size_setCell, World.size_drew]); omega)); intro _ _))))
          go_cut [5] (fun x5 wc => x5 = .int .i64 (nextErr xk z) ∧ w7 = wc)
          case first =>
            go_wp2
            all_goals go_meet
            · exact ⟨congrArg (Value.int .i64) (nextErr_yes (by assumption)).symm, rfl⟩
            · exact ⟨congrArg (Value.int .i64) (nextErr_no (by assumption)).symm, rfl⟩
          case rest =>
            obtain ⟨rfl, rfl⟩ := hcut
            go_upto_region 27 with fail
            go_cut [120] (fun s wc => (∃ c : Bool, s = .bool c) ∧ w7 = wc)
            case first =>
              go_wp2
              all_goals go_meet
              all_goals exact ⟨⟨_, rfl⟩, rfl⟩
            case rest =>
              obtain ⟨⟨c120, rfl⟩, rfl⟩ := hcut
              go_upto_if 120 with fail
              go_cut [6] (fun x6 wc => (∃ lo' : Int, x6 = .int .i64 lo') ∧ w7 = wc)
              case first =>
                go_wp2
                all_goals go_meet
                all_goals exact ⟨⟨_, rfl⟩, rfl⟩
              case rest =>
                obtain ⟨⟨lo', rfl⟩, rfl⟩ := hcut
                go_upto_region 29 with fail
                go_cut [130] (fun s wc => (∃ c : Bool, s = .bool c) ∧ w7 = wc)
                case first =>
                  go_wp2
                  all_goals go_meet
                  all_goals exact ⟨⟨_, rfl⟩, rfl⟩
                case rest =>
                  obtain ⟨⟨c130, rfl⟩, rfl⟩ := hcut
                  go_wp2
                  all_goals go_roundg (l.length - (k + 1))
                  all_goals first | (case measure => omega) | skip
                  all_goals
                    refine ⟨k + 1, _, lo', _, by omega, by go_num, rfl, rfl, rfl, ?_, ?_, ?_, ?_, HFS.out.symm, fun h => absurd h (nextErr_bad he)⟩
                    all_goals first | (go_simp; done) | (repeat' (first | (with_reducible exact Below.refl _ _) | (with_reducible assumption) | (with_reducible refine Below.call ?_ ?_ (by with_reducible assumption)) | (with_reducible refine Below.alloc ?_ ?_ _) | (with_reducible refine Below.drew ?_) | (with_reducible refine Below.setCell ?_ ?_ _) | (with_reducible exact Nat.le_refl _) | omega | (simp only [World.size_alloc, World.size_setCell, World.size_drew] at *; omega)))
      · have hkl : k = l.length := by omega
        have e40 : lawErr l l.length = if 40 < l.length then 2 else ferr l := by unfold lawErr; rw [List.take_of_length_le (Nat.le_refl _)]
        rw [hkl, List.take_of_length_le (Nat.le_refl _)] at hlh
        rw [hkl, e40] at hx
        have hfin : bestErr l = if xk ≠ 0 then xk else if (bst l).2.2 < (bst l).2.1 then 6 else 0 := by
          rw [hx]; unfold bestErr
          by_cases h40 : 40 < l.length
          · simp [h40]
          · rw [if_neg h40, if_neg h40, if_neg (by omega)]
        by_cases hxk : xk = 0
        · obtain ⟨rfl, rfl⟩ := hlh hxk
          rw [if_neg (by omega)] at hfin
          have x1 : (xk == 0) = true := by simp [hxk]
          have x2 : (xk != 0) = false := by simp [hxk]
          by_cases hlo : (bst l).2.2 < (bst l).2.1
          · rw [if_pos hlo] at hfin
            have e1 : bestLo l = 0 := by unfold bestLo; rw [hfin]; rfl
            have e2 : bestHi l = 0 := by unfold bestHi; rw [hfin]; rfl
            clear e40 hx hlh hxk hrow
            go_wp2_with (go_at_call 17; refine (c_none 6 _).mono ?_; rintro e w3 ⟨rfl, hb⟩; have hz := hb.size; (try simp only [World.size_alloc, World.size_setCell, World.size_drew] at hz); (try have h_w2_0 : w2.heap.size < w3.heap.size := by omega); (try (refine bcUse (n := w2.heap.size) hb ?_ ?_; (focus ((try simp only [World.size_alloc, World.size_setCell, World.size_drew]); omega)); intro _ _)))
            go_ret
            refine ⟨rfl, ?_⟩
            (repeat' (first | (with_reducible exact Below.refl _ _) | (with_reducible assumption) | (with_reducible refine Below.call ?_ ?_ (by with_reducible assumption)) | (with_reducible refine Below.alloc ?_ ?_ _) | (with_reducible refine Below.drew ?_) | (with_reducible refine Below.setCell ?_ ?_ _) | (with_reducible exact Nat.le_refl _) | omega | (simp only [World.size_alloc, World.size_setCell, World.size_drew] at *; omega)))
          · rw [if_neg hlo] at hfin
            have e1 : bestLo l = (bst l).2.1 := by unfold bestLo; rw [hfin]; rfl
            have e2 : bestHi l = (bst l).2.2 := by unfold bestHi; rw [hfin]; rfl
            clear e40 hx hlh hxk hrow
            go_wp2
            all_goals go_ret
            all_goals refine ⟨by first | rfl | simp, ?_⟩
            all_goals (repeat' (first | (with_reducible exact Below.refl _ _) | (with_reducible assumption) | (with_reducible refine Below.call ?_ ?_ (by with_reducible assumption)) | (with_reducible refine Below.alloc ?_ ?_ _) | (with_reducible refine Below.drew ?_) | (with_reducible refine Below.setCell ?_ ?_ _) | (with_reducible exact Nat.le_refl _) | omega | (simp only [World.size_alloc, World.size_setCell, World.size_drew] at *; omega)))
        · rw [if_pos hxk] at hfin
          have e1 : bestLo l = 0 := by unfold bestLo; rw [hfin, if_neg hxk]
          have e2 : bestHi l = 0 := by unfold bestHi; rw [hfin, if_neg hxk]
          have x1 : (xk == 0) = false := by simp [hxk]
          have x2 : (xk != 0) = true := by simp [hxk]
          clear e40 hx hlh hxk hrow
          go_wp2_with (go_at_call 17; refine (c_none xk _).mono ?_; rintro e w3 ⟨rfl, hb⟩; have hz := hb.size; (try simp only [World.size_alloc, World.size_setCell, World.size_drew] at hz); (try have h_w2_0 : w2.heap.size < w3.heap.size := by omega); (try (refine bcUse (n := w2.heap.size) hb ?_ ?_; (focus ((try simp only [World.size_alloc, World.size_setCell, World.size_drew]); omega)); intro _ _)))
          go_ret
          refine ⟨rfl, ?_⟩
          (repeat' (first | (with_reducible exact Below.refl _ _) | (with_reducible assumption) | (with_reducible refine Below.call ?_ ?_ (by with_reducible assumption)) | (with_reducible refine Below.alloc ?_ ?_ _) | (with_reducible refine Below.drew ?_) | (with_reducible refine Below.setCell ?_ ?_ _) | (with_reducible exact Nat.le_refl _) | omega | (simp only [World.size_alloc, World.size_setCell, World.size_drew] at *; omega)))
end Go.Proofs.Ytpjgoojaahbglaa
