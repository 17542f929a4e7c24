/- The walk through the law OscillPlays. -/
import Derived.Test.YtpjgoojaahbglaaWalkOscLaw
import Derived.Test.YtpjgoojaahbglaaIxInt1
import Derived.Test.YtpjgoojaahbglaaIxSpan2
import Derived.Deep.DeepCutAuto
import Derived.Deep.LoopGhost
set_option linter.unusedVariables false
set_option linter.unusedSimpArgs false
namespace Go.Proofs.Ytpjgoojaahbglaa
open Go.RowKit
theorem c_set_err (b : Nat) (k lo' hi' : Int) (w : World) (h : readErr k lo' hi' ≠ 0) : Calls Try.prog 25 #[.pointer (some ⟨b, 0, none⟩), .int .i64 k, .agg #[.int .i64 lo', .int .i64 hi']] w fun e w' => e = .returned (.int .i64 (readErr k lo' hi')) ∧ Below w.heap.size w w' := by
  by_cases hk : k < 0 ∨ 1000000000000 < k
  · have e : readErr k lo' hi' = 3 := by unfold readErr; rw [if_pos hk]
    rw [e]; exact c_set_range b k lo' hi' w (tickB_false hk)
  · have e : readErr k lo' hi' = timesErr lo' hi' := by unfold readErr; rw [if_neg hk]
    rw [e] at h ⊢
    exact c_set_bad b k lo' hi' w (tickB_true (by omega) (by omega)) h
theorem c_at_mv (b : Nat) (d t lo hi k : Int) (w : World) (hc : ClockAt w b d t lo hi true) (h : tickB k = true) (hd : driftB d = true) (hr : readErr t lo hi = 0) : Calls Try.prog 26 #[.pointer (some ⟨b, 0, none⟩), .int .i64 k] w fun e w' => e = .returned (.tuple #[.agg #[.int .i64 (mvLo d t lo hi k), .int .i64 (mvHi d t lo hi k)], .int .i64 (mvErr d t lo hi k)]) ∧ Below w.heap.size w w' := by
  obtain ⟨r1, r2, r3, r4, r5⟩ := readErr_zero hr
  obtain ⟨d1, d2⟩ := of_driftB hd
  by_cases h4 : k < t
  · have e0 : mvErr d t lo hi k = 9 := by simp [mvErr, hr, hd, h, h4]
    obtain ⟨e1, e2⟩ := mv_of.1 (show mvErr d t lo hi k ≠ 0 by rw [e0]; omega)
    rw [e0, e1, e2]
    exact c_at_order b d t lo hi k w hc h h4
  · have e0 : mvErr d t lo hi k = 0 := by simp [mvErr, hr, hd, h, h4]
    obtain ⟨e1, e2⟩ := mv_of.2 e0
    rw [e0, e1, e2]
    exact c_at_ok b d t lo hi k w hc h (by omega) r1 d1 d2 r3 r4 r5
theorem readErr_parts {tk lo hi : Int} (h : readErr tk lo hi = 0) : tickB tk = true ∧ timesErr lo hi = 0 := by
  obtain ⟨r1, r2, _⟩ := readErr_zero h
  refine ⟨tickB_true r1 r2, ?_⟩
  unfold readErr at h; rw [if_neg (by omega)] at h; exact h
/-- The state of the law between two statements. -/
structure Pl (w0 : World) (cb lb : Nat) (d : Int) (set : Bool) (t lo hi : Int) (wc : World) : Prop where
  bel : Below w0.heap.size w0 wc
  clk : ClockAt wc cb d t lo hi set
  l0 : wc.cell? ⟨lb, 0, none⟩ = some (.int .i64 t)
  l1 : wc.cell? ⟨lb, 1, none⟩ = some (.int .i64 lo)
  l2 : wc.cell? ⟨lb, 2, none⟩ = some (.int .i64 hi)
  g0 : wc.frozen? ⟨lb, 0, none⟩ = false
  g1 : wc.frozen? ⟨lb, 1, none⟩ = false
  g2 : wc.frozen? ⟨lb, 2, none⟩ = false
  lt : lb < wc.heap.size
  bc : w0.heap.size ≤ cb
  bl : cb < lb
  ok : set = true → readErr t lo hi = 0
theorem Pl.below {w0 wc wd : World} {cb lb : Nat} {d : Int} {set : Bool} {t lo hi : Int} (h : Pl w0 cb lb d set t lo hi wc) (hb : Below wc.heap.size wc wd) : Pl w0 cb lb d set t lo hi wd :=
  ⟨Below.call h.bel h.bel.size hb, h.clk.below hb, (hb.cell h.lt).trans h.l0, (hb.cell h.lt).trans h.l1, (hb.cell h.lt).trans h.l2, (hb.frozen h.lt).trans h.g0, (hb.frozen h.lt).trans h.g1, (hb.frozen h.lt).trans h.g2, Nat.lt_of_lt_of_le h.lt hb.size, h.bc, h.bl, h.ok⟩

set_option maxRecDepth 100000 in
set_option maxHeartbeats 4000000 in
theorem walk_plays (d : Int) (a1 a2 : Option Addr) (cap1 cap2 : Nat) (ls : List Int) (ts : List Sp) (w : World) (hc1 : ls.length ≤ cap1) (hm1 : cap1 ≤ 9223372036854775807) (hc2 : ts.length ≤ cap2) (hm2 : cap2 ≤ 9223372036854775807)
    (hs1 : IntSlice w a1 ls) (hs2 : SpSlice w a2 ts) (dB : driftB d = true) :
    Calls Try.prog 5 #[.int .i64 d, .slice a1 ls.length cap1, .slice a2 ts.length cap2] w fun e w' => e = .returned (.bool true) ∧ Below w.heap.size w w' := by
  obtain ⟨d1, d2⟩ := of_driftB dB
  have hgen := sgen; have hgen2 := sgen2; have hgen3 := sgen3; go_enter Try.func5, Try.ntmps5
  go_wp2_with (go_at_call 18; refine (c_oscillWorks _).mono ?_; rintro e w1 ⟨rfl, hb⟩; have hz := hb.size; (try simp only [World.size_alloc, World.size_setCell, World.size_drew, World.heap_drewN] at hz); (try have h_w_0 : w.heap.size < w1.heap.size := by omega); (try have e_w_0 : ¬ w.heap.size = w1.heap.size := by omega); (try have d_w_0 : ¬ w1.heap.size = w.heap.size := by omega); (try (refine bcUse (n := w.heap.size) hb ?_ ?_; (focus ((try simp only [World.size_alloc, World.size_setCell, World.size_drew, World.heap_drewN]); omega)); intro _ _)))
  refine (c_new_ok d _ dB).mono ?_
  rintro e w2 ⟨rfl, hb2, hC⟩
  have hbw1 : Below w.heap.size w w1 := by assumption
  have hsz2 := hb2.size
  have hlt2 : w1.heap.size < w2.heap.size := hC.lt
  go_wp2_with fail
  go_loopg [9, 46] ls.length (fun gk x9 i wr => ∃ k : Nat, ∃ set : Bool, ∃ t lo hi : Int, gk + k = ls.length ∧ i = .int .i64 k ∧ x9 = .bool set ∧ Pl w w1.heap.size w2.heap.size d set t lo hi wr)
  case atStart =>
    refine ⟨0, false, 0, 0, 0, by omega, rfl, rfl, ?_, ?_, ?_, ?_, ?_, ?_, ?_, ?_, ?_, ?_, ?_, ?_⟩
    · exact Below.alloc (Below.call hbw1 hbw1.size hb2) (by have := hbw1.size; omega) _
    · exact hC.below (Below.alloc (Below.refl _ _) (Nat.le_refl _) _)
    · go_simp
    · go_simp
    · go_simp
    · go_simp
    · go_simp
    · go_simp
    · simp
    · exact hbw1.size
    · exact hlt2
    · intro h; contradiction
  case round =>
    obtain ⟨k, set, t, lo, hi, hk, rfl, rfl, P⟩ := hrel
    by_cases hlt : k < ls.length
    · obtain ⟨b1, off1, ha1, hb1, c1⟩ := (hs1.below (Nat.le_refl _) P.bel) k hlt
      have ix1 := @ix_Int a1 b1 off1 ls.length cap1 k ha1 hlt
      clear ha1
      generalize ls[k] = x at *
      go_upto_if 54 with fail
      go_cut [9] (fun x9 wc => ∃ set' : Bool, ∃ t' lo' hi' : Int, x9 = .bool set' ∧ Pl w w1.heap.size w2.heap.size d set' t' lo' hi' wc)
      case first =>
        by_cases hj : k < ts.length
        · obtain ⟨b2, off2, ha2, hblk, v0, v1⟩ := (hs2.below (Nat.le_refl _) P.bel) k hj
          have hb20 : b2 < w.heap.size := by
            obtain ⟨b2', off2', ha2', hblk', _⟩ := hs2 k hj
            rw [ha2] at ha2'; simp at ha2'; omega
          have ix2 := @ix_Sp a2 b2 off2 ts.length cap2 k ha2 hj
          clear ha2
          generalize ts[k] = y at *
          have HP := Lib.hid P
          obtain ⟨pb, pc, p0, p1, p2, q0, q1, q2, plt, pbc, pbl, pok⟩ := P
          have pcl := pc.lt
          have nb1 : ¬ b2 = w1.heap.size := by omega
          have nb2 : ¬ w1.heap.size = b2 := by omega
          have nb3 : ¬ b2 = w2.heap.size := by omega
          have nb4 : ¬ w2.heap.size = b2 := by omega
          by_cases hr : readErr x y.lo y.hi = 0
          · have x1 : (readErr x y.lo y.hi == 0) = true := by simp [hr]
            have x2 : (readErr x y.lo y.hi != 0) = false := by simp [hr]
            obtain ⟨r1, r2⟩ := readErr_parts hr
            by_cases hst : set = true ∧ x < t
            · obtain ⟨rfl, hxt⟩ := hst
              have HC := Lib.hid pc
              clear pc pok pb hr
              go_wp2_with (first | (go_at_call 24; refine (c_refReadingErr _ _ _ _).mono ?_; rintro e w3 ⟨rfl, hb⟩; have hz := hb.size; (try simp only [World.size_alloc, World.size_setCell, World.size_drew, World.heap_drewN] at hz); (try have h_w1_0 : w1.heap.size < w3.heap.size := by omega); (try have e_w1_0 : ¬ w1.heap.size = w3.heap.size := by omega); (try have d_w1_0 : ¬ w3.heap.size = w1.heap.size := by omega); (try (refine bcUse (n := w1.heap.size) hb ?_ ?_; (focus ((try simp only [World.size_alloc, World.size_setCell, World.size_drew, World.heap_drewN]); omega)); intro _ _)); (try have h_w2_0 : w2.heap.size < w3.heap.size := by omega); (try have e_w2_0 : ¬ w2.heap.size = w3.heap.size := by omega); (try have d_w2_0 : ¬ w3.heap.size = w2.heap.size := by omega); (try (refine bcUse (n := w2.heap.size) hb ?_ ?_; (focus ((try simp only [World.size_alloc, World.size_setCell, World.size_drew, World.heap_drewN]); omega)); intro _ _)); (try have h_bb2_0 : b2 < w3.heap.size := by omega); (try have e_bb2_0 : ¬ b2 = w3.heap.size := by omega); (try have d_bb2_0 : ¬ w3.heap.size = b2 := by omega); (try (refine bcUse (n := b2) hb ?_ ?_; (focus ((try simp only [World.size_alloc, World.size_setCell, World.size_drew, World.heap_drewN]); omega)); intro _ _))) | (go_at_call 25; refine (c_set_order _ _ _ _ _ _ _ _ _ (HC.out.below (by assumption)) r1 r2 hxt).mono ?_; rintro e w4 ⟨rfl, hb⟩; have hz := hb.size; (try simp only [World.size_alloc, World.size_setCell, World.size_drew, World.heap_drewN] at hz); (try have h_w1_0 : w1.heap.size < w4.heap.size := by omega); (try have e_w1_0 : ¬ w1.heap.size = w4.heap.size := by omega); (try have d_w1_0 : ¬ w4.heap.size = w1.heap.size := by omega); (try (refine bcUse (n := w1.heap.size) hb ?_ ?_; (focus ((try simp only [World.size_alloc, World.size_setCell, World.size_drew, World.heap_drewN]); omega)); intro _ _)); (try have h_w2_0 : w2.heap.size < w4.heap.size := by omega); (try have e_w2_0 : ¬ w2.heap.size = w4.heap.size := by omega); (try have d_w2_0 : ¬ w4.heap.size = w2.heap.size := by omega); (try (refine bcUse (n := w2.heap.size) hb ?_ ?_; (focus ((try simp only [World.size_alloc, World.size_setCell, World.size_drew, World.heap_drewN]); omega)); intro _ _)); (try have h_w3_0 : w3.heap.size < w4.heap.size := by omega); (try have e_w3_0 : ¬ w3.heap.size = w4.heap.size := by omega); (try have d_w3_0 : ¬ w4.heap.size = w3.heap.size := by omega); (try (refine bcUse (n := w3.heap.size) hb ?_ ?_; (focus ((try simp only [World.size_alloc, World.size_setCell, World.size_drew, World.heap_drewN]); omega)); intro _ _)); (try have h_bb2_0 : b2 < w4.heap.size := by omega); (try have e_bb2_0 : ¬ b2 = w4.heap.size := by omega); (try have d_bb2_0 : ¬ w4.heap.size = b2 := by omega); (try (refine bcUse (n := b2) hb ?_ ?_; (focus ((try simp only [World.size_alloc, World.size_setCell, World.size_drew, World.heap_drewN]); omega)); intro _ _))))
              go_meet
              exact ⟨true, t, lo, hi, rfl, (HP.out.below (by assumption)).below (by assumption)⟩
            · have hk' : set = false ∨ t ≤ x := by
                cases set with
                | false => exact .inl rfl
                | true => right; simp at hst; exact hst
              have HC := Lib.hid pc
              have HR := Lib.hid hr
              have HK := Lib.hid hk'
              clear pc pok pb hr hst hk'
              cases set with
              | false =>
                go_wp2_with (go_at_call 24; refine (c_refReadingErr _ _ _ _).mono ?_; rintro e w3 ⟨rfl, hb⟩; have hz := hb.size; (try simp only [World.size_alloc, World.size_setCell, World.size_drew, World.heap_drewN] at hz); (try have h_w1_0 : w1.heap.size < w3.heap.size := by omega); (try have e_w1_0 : ¬ w1.heap.size = w3.heap.size := by omega); (try have d_w1_0 : ¬ w3.heap.size = w1.heap.size := by omega); (try (refine bcUse (n := w1.heap.size) hb ?_ ?_; (focus ((try simp only [World.size_alloc, World.size_setCell, World.size_drew, World.heap_drewN]); omega)); intro _ _)); (try have h_w2_0 : w2.heap.size < w3.heap.size := by omega); (try have e_w2_0 : ¬ w2.heap.size = w3.heap.size := by omega); (try have d_w2_0 : ¬ w3.heap.size = w2.heap.size := by omega); (try (refine bcUse (n := w2.heap.size) hb ?_ ?_; (focus ((try simp only [World.size_alloc, World.size_setCell, World.size_drew, World.heap_drewN]); omega)); intro _ _)); (try have h_bb2_0 : b2 < w3.heap.size := by omega); (try have e_bb2_0 : ¬ b2 = w3.heap.size := by omega); (try have d_bb2_0 : ¬ w3.heap.size = b2 := by omega); (try (refine bcUse (n := b2) hb ?_ ?_; (focus ((try simp only [World.size_alloc, World.size_setCell, World.size_drew, World.heap_drewN]); omega)); intro _ _)))
                have P3 := HP.out.below (by assumption)
                refine (c_set_ok _ _ _ _ _ _ _ _ false _ P3.clk r1 r2 (.inl rfl)).mono ?_
                rintro e w4 ⟨rfl, hT, hC4⟩
                have t0 := hT.size
                have t1 : w4.cell? ⟨b2, off2 + k * 2, none⟩ = some (.int .i64 y.lo) := (hT.cell (p := ⟨b2, _, none⟩) (by simp; omega) (by simp; omega)).trans (by go_simp)
                have t2 : w4.cell? ⟨b2, off2 + k * 2 + 1, none⟩ = some (.int .i64 y.hi) := (hT.cell (p := ⟨b2, _, none⟩) (by simp; omega) (by simp; omega)).trans (by go_simp)
                have t3 : w4.cell? ⟨w2.heap.size, 0, none⟩ = some (.int .i64 t) := (hT.cell (p := ⟨w2.heap.size, _, none⟩) (by simp; omega) (by simp; omega)).trans P3.l0
                have t4 : w4.cell? ⟨w2.heap.size, 1, none⟩ = some (.int .i64 lo) := (hT.cell (p := ⟨w2.heap.size, _, none⟩) (by simp; omega) (by simp; omega)).trans P3.l1
                have t5 : w4.cell? ⟨w2.heap.size, 2, none⟩ = some (.int .i64 hi) := (hT.cell (p := ⟨w2.heap.size, _, none⟩) (by simp; omega) (by simp; omega)).trans P3.l2
                have t6 : w4.frozen? ⟨w2.heap.size, 0, none⟩ = false := (hT.frozen (p := ⟨w2.heap.size, _, none⟩) (by simp; omega) (by simp; omega)).trans P3.g0
                have t7 : w4.frozen? ⟨w2.heap.size, 1, none⟩ = false := (hT.frozen (p := ⟨w2.heap.size, _, none⟩) (by simp; omega) (by simp; omega)).trans P3.g1
                have t8 : w4.frozen? ⟨w2.heap.size, 2, none⟩ = false := (hT.frozen (p := ⟨w2.heap.size, _, none⟩) (by simp; omega) (by simp; omega)).trans P3.g2
                have hbel4 := Touch.below P3.bel pbc P3.bel.size hT
                have plt4 : w2.heap.size < w4.heap.size := by omega
                clear P3
                go_wp2_with fail
                have nc1 : ¬ w2.heap.size = w1.heap.size := by omega
                have nc2 : ¬ w1.heap.size = w2.heap.size := by omega
                obtain ⟨z0, z1, z2, z3, z4, z5, z6, z7, z8, z9⟩ := hC4
                go_region
                all_goals go_wp2
                all_goals go_meet
                all_goals refine ⟨true, x, y.lo, y.hi, rfl, ⟨?_, ⟨?_, ?_, ?_, ?_, ?_, ?_, ?_, ?_, ?_, ?_⟩, ?_, ?_, ?_, ?_, ?_, ?_, ?_, pbc, pbl, fun _ => HR.out⟩⟩
                all_goals first | (go_simp; done) | (simp; omega) | (repeat' (first | (with_reducible exact Below.refl _ _) | (with_reducible assumption) | (with_reducible refine Below.call ?_ ?_ (by with_reducible assumption)) | (with_reducible refine Below.alloc ?_ ?_ _) | (with_reducible refine Below.drew ?_) | (with_reducible refine below_drewN ?_ _) | (with_reducible refine Below.setCell ?_ ?_ _) | (with_reducible exact Nat.le_refl _) | omega | (simp only [World.size_alloc, World.size_setCell, World.size_drew, World.heap_drewN] at *; omega)))
              | true =>
                have hk'' : t ≤ x := by rcases HK.out with h | h
                                        · exact absurd h (by simp)
                                        · exact h
                go_wp2_with (go_at_call 24; refine (c_refReadingErr _ _ _ _).mono ?_; rintro e w3 ⟨rfl, hb⟩; have hz := hb.size; (try simp only [World.size_alloc, World.size_setCell, World.size_drew, World.heap_drewN] at hz); (try have h_w1_0 : w1.heap.size < w3.heap.size := by omega); (try have e_w1_0 : ¬ w1.heap.size = w3.heap.size := by omega); (try have d_w1_0 : ¬ w3.heap.size = w1.heap.size := by omega); (try (refine bcUse (n := w1.heap.size) hb ?_ ?_; (focus ((try simp only [World.size_alloc, World.size_setCell, World.size_drew, World.heap_drewN]); omega)); intro _ _)); (try have h_w2_0 : w2.heap.size < w3.heap.size := by omega); (try have e_w2_0 : ¬ w2.heap.size = w3.heap.size := by omega); (try have d_w2_0 : ¬ w3.heap.size = w2.heap.size := by omega); (try (refine bcUse (n := w2.heap.size) hb ?_ ?_; (focus ((try simp only [World.size_alloc, World.size_setCell, World.size_drew, World.heap_drewN]); omega)); intro _ _)); (try have h_bb2_0 : b2 < w3.heap.size := by omega); (try have e_bb2_0 : ¬ b2 = w3.heap.size := by omega); (try have d_bb2_0 : ¬ w3.heap.size = b2 := by omega); (try (refine bcUse (n := b2) hb ?_ ?_; (focus ((try simp only [World.size_alloc, World.size_setCell, World.size_drew, World.heap_drewN]); omega)); intro _ _)))
                have P3 := HP.out.below (by assumption)
                refine (c_set_ok _ _ _ _ _ _ _ _ true _ P3.clk r1 r2 (.inr hk'')).mono ?_
                rintro e w4 ⟨rfl, hT, hC4⟩
                have t0 := hT.size
                have t1 : w4.cell? ⟨b2, off2 + k * 2, none⟩ = some (.int .i64 y.lo) := (hT.cell (p := ⟨b2, _, none⟩) (by simp; omega) (by simp; omega)).trans (by go_simp)
                have t2 : w4.cell? ⟨b2, off2 + k * 2 + 1, none⟩ = some (.int .i64 y.hi) := (hT.cell (p := ⟨b2, _, none⟩) (by simp; omega) (by simp; omega)).trans (by go_simp)
                have t3 : w4.cell? ⟨w2.heap.size, 0, none⟩ = some (.int .i64 t) := (hT.cell (p := ⟨w2.heap.size, _, none⟩) (by simp; omega) (by simp; omega)).trans P3.l0
                have t4 : w4.cell? ⟨w2.heap.size, 1, none⟩ = some (.int .i64 lo) := (hT.cell (p := ⟨w2.heap.size, _, none⟩) (by simp; omega) (by simp; omega)).trans P3.l1
                have t5 : w4.cell? ⟨w2.heap.size, 2, none⟩ = some (.int .i64 hi) := (hT.cell (p := ⟨w2.heap.size, _, none⟩) (by simp; omega) (by simp; omega)).trans P3.l2
                have t6 : w4.frozen? ⟨w2.heap.size, 0, none⟩ = false := (hT.frozen (p := ⟨w2.heap.size, _, none⟩) (by simp; omega) (by simp; omega)).trans P3.g0
                have t7 : w4.frozen? ⟨w2.heap.size, 1, none⟩ = false := (hT.frozen (p := ⟨w2.heap.size, _, none⟩) (by simp; omega) (by simp; omega)).trans P3.g1
                have t8 : w4.frozen? ⟨w2.heap.size, 2, none⟩ = false := (hT.frozen (p := ⟨w2.heap.size, _, none⟩) (by simp; omega) (by simp; omega)).trans P3.g2
                have hbel4 := Touch.below P3.bel pbc P3.bel.size hT
                have plt4 : w2.heap.size < w4.heap.size := by omega
                clear P3
                go_wp2_with fail
                have nc1 : ¬ w2.heap.size = w1.heap.size := by omega
                have nc2 : ¬ w1.heap.size = w2.heap.size := by omega
                obtain ⟨z0, z1, z2, z3, z4, z5, z6, z7, z8, z9⟩ := hC4
                go_region
                all_goals go_wp2
                all_goals go_meet
                all_goals refine ⟨true, x, y.lo, y.hi, rfl, ⟨?_, ⟨?_, ?_, ?_, ?_, ?_, ?_, ?_, ?_, ?_, ?_⟩, ?_, ?_, ?_, ?_, ?_, ?_, ?_, pbc, pbl, fun _ => HR.out⟩⟩
                all_goals first | (go_simp; done) | (simp; omega) | (repeat' (first | (with_reducible exact Below.refl _ _) | (with_reducible assumption) | (with_reducible refine Below.call ?_ ?_ (by with_reducible assumption)) | (with_reducible refine Below.alloc ?_ ?_ _) | (with_reducible refine Below.drew ?_) | (with_reducible refine below_drewN ?_ _) | (with_reducible refine Below.setCell ?_ ?_ _) | (with_reducible exact Nat.le_refl _) | omega | (simp only [World.size_alloc, World.size_setCell, World.size_drew, World.heap_drewN] at *; omega)))
          · have x1 : (readErr x y.lo y.hi == 0) = false := by simp [hr]
            clear pc pok pb
            go_wp2_with (first | (go_at_call 24; refine (c_refReadingErr _ _ _ _).mono ?_; rintro e w3 ⟨rfl, hb⟩; have hz := hb.size; (try simp only [World.size_alloc, World.size_setCell, World.size_drew, World.heap_drewN] at hz); (try have h_w1_0 : w1.heap.size < w3.heap.size := by omega); (try have e_w1_0 : ¬ w1.heap.size = w3.heap.size := by omega); (try have d_w1_0 : ¬ w3.heap.size = w1.heap.size := by omega); (try (refine bcUse (n := w1.heap.size) hb ?_ ?_; (focus ((try simp only [World.size_alloc, World.size_setCell, World.size_drew, World.heap_drewN]); omega)); intro _ _)); (try have h_w2_0 : w2.heap.size < w3.heap.size := by omega); (try have e_w2_0 : ¬ w2.heap.size = w3.heap.size := by omega); (try have d_w2_0 : ¬ w3.heap.size = w2.heap.size := by omega); (try (refine bcUse (n := w2.heap.size) hb ?_ ?_; (focus ((try simp only [World.size_alloc, World.size_setCell, World.size_drew, World.heap_drewN]); omega)); intro _ _)); (try have h_bb2_0 : b2 < w3.heap.size := by omega); (try have e_bb2_0 : ¬ b2 = w3.heap.size := by omega); (try have d_bb2_0 : ¬ w3.heap.size = b2 := by omega); (try (refine bcUse (n := b2) hb ?_ ?_; (focus ((try simp only [World.size_alloc, World.size_setCell, World.size_drew, World.heap_drewN]); omega)); intro _ _))) | (go_at_call 25; refine (c_set_err _ _ _ _ _ hr).mono ?_; rintro e w4 ⟨rfl, hb⟩; have hz := hb.size; (try simp only [World.size_alloc, World.size_setCell, World.size_drew, World.heap_drewN] at hz); (try have h_w1_0 : w1.heap.size < w4.heap.size := by omega); (try have e_w1_0 : ¬ w1.heap.size = w4.heap.size := by omega); (try have d_w1_0 : ¬ w4.heap.size = w1.heap.size := by omega); (try (refine bcUse (n := w1.heap.size) hb ?_ ?_; (focus ((try simp only [World.size_alloc, World.size_setCell, World.size_drew, World.heap_drewN]); omega)); intro _ _)); (try have h_w2_0 : w2.heap.size < w4.heap.size := by omega); (try have e_w2_0 : ¬ w2.heap.size = w4.heap.size := by omega); (try have d_w2_0 : ¬ w4.heap.size = w2.heap.size := by omega); (try (refine bcUse (n := w2.heap.size) hb ?_ ?_; (focus ((try simp only [World.size_alloc, World.size_setCell, World.size_drew, World.heap_drewN]); omega)); intro _ _)); (try have h_w3_0 : w3.heap.size < w4.heap.size := by omega); (try have e_w3_0 : ¬ w3.heap.size = w4.heap.size := by omega); (try have d_w3_0 : ¬ w4.heap.size = w3.heap.size := by omega); (try (refine bcUse (n := w3.heap.size) hb ?_ ?_; (focus ((try simp only [World.size_alloc, World.size_setCell, World.size_drew, World.heap_drewN]); omega)); intro _ _)); (try have h_bb2_0 : b2 < w4.heap.size := by omega); (try have e_bb2_0 : ¬ b2 = w4.heap.size := by omega); (try have d_bb2_0 : ¬ w4.heap.size = b2 := by omega); (try (refine bcUse (n := b2) hb ?_ ?_; (focus ((try simp only [World.size_alloc, World.size_setCell, World.size_drew, World.heap_drewN]); omega)); intro _ _))))
            go_meet
            exact ⟨set, t, lo, hi, rfl, (HP.out.below (by assumption)).below (by assumption)⟩
        · go_wp2
          go_meet
          exact ⟨set, t, lo, hi, rfl, P⟩
      case rest =>
        obtain ⟨set', t', lo', hi', rfl, P'⟩ := hcut
        have HP := Lib.hid P'
        obtain ⟨pb, pc, p0, p1, p2, q0, q1, q2, plt, pbc, pbl, pok⟩ := P'
        have HC := Lib.hid pc
        have HK := Lib.hid pok
        clear pc pok pb
        cases kB : tickB x with
        | false =>
          have hx : x < 0 ∨ 1000000000000 < x := by
            by_cases h : x < 0 ∨ 1000000000000 < x
            · exact h
            · have := tickB_true (n := x) (by omega) (by omega); rw [this] at kB; contradiction
          rcases hx with hx | hx
          all_goals
            go_wp2_with (first | (go_at_call 26; refine (c_at_range _ _ _ kB).mono ?_; rintro e w5 ⟨rfl, hb⟩; have hz := hb.size; (try simp only [World.size_alloc, World.size_setCell, World.size_drew, World.heap_drewN] at hz); (try have h_w1_0 : w1.heap.size < w5.heap.size := by omega); (try have e_w1_0 : ¬ w1.heap.size = w5.heap.size := by omega); (try have d_w1_0 : ¬ w5.heap.size = w1.heap.size := by omega); (try (refine bcUse (n := w1.heap.size) hb ?_ ?_; (focus ((try simp only [World.size_alloc, World.size_setCell, World.size_drew, World.heap_drewN]); omega)); intro _ _)); (try have h_w2_0 : w2.heap.size < w5.heap.size := by omega); (try have e_w2_0 : ¬ w2.heap.size = w5.heap.size := by omega); (try have d_w2_0 : ¬ w5.heap.size = w2.heap.size := by omega); (try (refine bcUse (n := w2.heap.size) hb ?_ ?_; (focus ((try simp only [World.size_alloc, World.size_setCell, World.size_drew, World.heap_drewN]); omega)); intro _ _))) | (go_at_call 17; refine (c_none' 3 _).mono ?_; rintro e w6 ⟨rfl, hb⟩; have hz := hb.size; (try simp only [World.size_alloc, World.size_setCell, World.size_drew, World.heap_drewN] at hz); (try have h_w1_0 : w1.heap.size < w6.heap.size := by omega); (try have e_w1_0 : ¬ w1.heap.size = w6.heap.size := by omega); (try have d_w1_0 : ¬ w6.heap.size = w1.heap.size := by omega); (try (refine bcUse (n := w1.heap.size) hb ?_ ?_; (focus ((try simp only [World.size_alloc, World.size_setCell, World.size_drew, World.heap_drewN]); omega)); intro _ _)); (try have h_w2_0 : w2.heap.size < w6.heap.size := by omega); (try have e_w2_0 : ¬ w2.heap.size = w6.heap.size := by omega); (try have d_w2_0 : ¬ w6.heap.size = w2.heap.size := by omega); (try (refine bcUse (n := w2.heap.size) hb ?_ ?_; (focus ((try simp only [World.size_alloc, World.size_setCell, World.size_drew, World.heap_drewN]); omega)); intro _ _))))
            go_roundg (ls.length - (k + 1))
            case measure => omega
            case rel =>
              exact ⟨k + 1, set', t', lo', hi', by omega, by go_num, rfl, ((HP.out.below (by assumption)).below (Below.alloc (Below.refl _ _) (Nat.le_refl _) _)).below (by assumption)⟩
        | true =>
          obtain ⟨k1, k2⟩ := of_tickB kB
          cases set' with
          | false =>
            go_wp2_with (first | (go_at_call 26; refine (c_at_state _ _ _ _ _ _ _ HC.out kB).mono ?_; rintro e w5 ⟨rfl, hb⟩; have hz := hb.size; (try simp only [World.size_alloc, World.size_setCell, World.size_drew, World.heap_drewN] at hz); (try have h_w1_0 : w1.heap.size < w5.heap.size := by omega); (try have e_w1_0 : ¬ w1.heap.size = w5.heap.size := by omega); (try have d_w1_0 : ¬ w5.heap.size = w1.heap.size := by omega); (try (refine bcUse (n := w1.heap.size) hb ?_ ?_; (focus ((try simp only [World.size_alloc, World.size_setCell, World.size_drew, World.heap_drewN]); omega)); intro _ _)); (try have h_w2_0 : w2.heap.size < w5.heap.size := by omega); (try have e_w2_0 : ¬ w2.heap.size = w5.heap.size := by omega); (try have d_w2_0 : ¬ w5.heap.size = w2.heap.size := by omega); (try (refine bcUse (n := w2.heap.size) hb ?_ ?_; (focus ((try simp only [World.size_alloc, World.size_setCell, World.size_drew, World.heap_drewN]); omega)); intro _ _))) | (go_at_call 17; refine (c_none' 10 _).mono ?_; rintro e w6 ⟨rfl, hb⟩; have hz := hb.size; (try simp only [World.size_alloc, World.size_setCell, World.size_drew, World.heap_drewN] at hz); (try have h_w1_0 : w1.heap.size < w6.heap.size := by omega); (try have e_w1_0 : ¬ w1.heap.size = w6.heap.size := by omega); (try have d_w1_0 : ¬ w6.heap.size = w1.heap.size := by omega); (try (refine bcUse (n := w1.heap.size) hb ?_ ?_; (focus ((try simp only [World.size_alloc, World.size_setCell, World.size_drew, World.heap_drewN]); omega)); intro _ _)); (try have h_w2_0 : w2.heap.size < w6.heap.size := by omega); (try have e_w2_0 : ¬ w2.heap.size = w6.heap.size := by omega); (try have d_w2_0 : ¬ w6.heap.size = w2.heap.size := by omega); (try (refine bcUse (n := w2.heap.size) hb ?_ ?_; (focus ((try simp only [World.size_alloc, World.size_setCell, World.size_drew, World.heap_drewN]); omega)); intro _ _))))
            go_roundg (ls.length - (k + 1))
            case measure => omega
            case rel =>
              exact ⟨k + 1, false, t', lo', hi', by omega, by go_num, rfl, ((HP.out.below (by assumption)).below (Below.alloc (Below.refl _ _) (Nat.le_refl _) _)).below (by assumption)⟩
          | true =>
            go_wp2_with (first | (go_at_call 26; refine (c_at_mv _ _ _ _ _ _ _ HC.out kB dB (HK.out rfl)).mono ?_; rintro e w5 ⟨rfl, hb⟩; have hz := hb.size; (try simp only [World.size_alloc, World.size_setCell, World.size_drew, World.heap_drewN] at hz); (try have h_w1_0 : w1.heap.size < w5.heap.size := by omega); (try have e_w1_0 : ¬ w1.heap.size = w5.heap.size := by omega); (try have d_w1_0 : ¬ w5.heap.size = w1.heap.size := by omega); (try (refine bcUse (n := w1.heap.size) hb ?_ ?_; (focus ((try simp only [World.size_alloc, World.size_setCell, World.size_drew, World.heap_drewN]); omega)); intro _ _)); (try have h_w2_0 : w2.heap.size < w5.heap.size := by omega); (try have e_w2_0 : ¬ w2.heap.size = w5.heap.size := by omega); (try have d_w2_0 : ¬ w5.heap.size = w2.heap.size := by omega); (try (refine bcUse (n := w2.heap.size) hb ?_ ?_; (focus ((try simp only [World.size_alloc, World.size_setCell, World.size_drew, World.heap_drewN]); omega)); intro _ _))) | (go_at_call 27; refine (c_refMoved _ _ _ _ _ _).mono ?_; rintro e w6 ⟨rfl, hb⟩; have hz := hb.size; (try simp only [World.size_alloc, World.size_setCell, World.size_drew, World.heap_drewN] at hz); (try have h_w1_0 : w1.heap.size < w6.heap.size := by omega); (try have e_w1_0 : ¬ w1.heap.size = w6.heap.size := by omega); (try have d_w1_0 : ¬ w6.heap.size = w1.heap.size := by omega); (try (refine bcUse (n := w1.heap.size) hb ?_ ?_; (focus ((try simp only [World.size_alloc, World.size_setCell, World.size_drew, World.heap_drewN]); omega)); intro _ _)); (try have h_w2_0 : w2.heap.size < w6.heap.size := by omega); (try have e_w2_0 : ¬ w2.heap.size = w6.heap.size := by omega); (try have d_w2_0 : ¬ w6.heap.size = w2.heap.size := by omega); (try (refine bcUse (n := w2.heap.size) hb ?_ ?_; (focus ((try simp only [World.size_alloc, World.size_setCell, World.size_drew, World.heap_drewN]); omega)); intro _ _)); (try have h_w5_0 : w5.heap.size < w6.heap.size := by omega); (try have e_w5_0 : ¬ w5.heap.size = w6.heap.size := by omega); (try have d_w5_0 : ¬ w6.heap.size = w5.heap.size := by omega); (try (refine bcUse (n := w5.heap.size) hb ?_ ?_; (focus ((try simp only [World.size_alloc, World.size_setCell, World.size_drew, World.heap_drewN]); omega)); intro _ _))))
            go_roundg (ls.length - (k + 1))
            case measure => omega
            case rel =>
              refine ⟨k + 1, true, t', lo', hi', by omega, by go_num, rfl, ?_⟩
              first | exact ((HP.out.below (by assumption)).below (Below.alloc (Below.refl _ _) (Nat.le_refl _) _)).below (by assumption) | exact (((HP.out.below (by assumption)).below (Below.alloc (Below.refl _ _) (Nat.le_refl _) _)).below (by assumption)).below (Below.alloc (Below.refl _ _) (Nat.le_refl _) _)
    · go_wp2
      go_ret
      exact ⟨rfl, P.bel⟩
end Go.Proofs.Ytpjgoojaahbglaa
