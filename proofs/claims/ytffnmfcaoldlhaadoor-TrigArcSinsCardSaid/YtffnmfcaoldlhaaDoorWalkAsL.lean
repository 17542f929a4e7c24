/- The walk through the law TrigArcSins. -/
import Derived.Test.YtffnmfcaoldlhaaDoorWalkAsin
set_option linter.unusedVariables false
set_option linter.unusedSimpArgs false
namespace Go.Proofs.YtffnmfcaoldlhaaDoor
open Go.RowKit
theorem walk_asins_bad (lo hi : Int) (w : World) (ht : Tab w) (he : spanErr lo hi ≠ 0) : Calls Tryd.prog 6 #[.agg #[.int .i64 lo, .int .i64 hi]] w fun e w' => e = .returned (.bool true) ∧ Below w.heap.size w w' := by
  have HT := Lib.hid ht
  have HS := Lib.hid (fun w1 => c_ArcSin_bad lo hi w1 he)
  have HE := Lib.hid (fun w1 => c_spanErr lo hi w1)
  have b1 : (spanErr lo hi != 0) = true := by simp; exact he
  have b0 : (spanErr lo hi == 0) = false := by simp; exact he
  clear he ht
  generalize spanErr lo hi = ee at *
  have hgen := sgen; have hgen2 := sgen2; have hgen3 := sgen3; go_enter Tryd.func6, Tryd.ntmps6
  go_wp2_with (first | (go_at_call 15; (refine (c_trigWorks _ (HT.out.below (by (repeat' (first | (with_reducible exact Below.refl _ _) | (with_reducible assumption) | (with_reducible refine Below.call ?_ ?_ (by with_reducible assumption)) | (with_reducible refine Below.alloc ?_ ?_ _) | (with_reducible refine Below.drew ?_) | (with_reducible refine below_drewN ?_ _) | (with_reducible refine Below.setCell ?_ ?_ _) | (with_reducible exact Nat.le_refl _) | omega | (simp only [World.size_alloc, World.size_setCell, World.size_drew, World.heap_drewN] at *; omega)))))).mono ?_); rintro e w1 ⟨rfl, hb⟩; have hz := hb.size; (try simp only [World.size_alloc, World.size_setCell, World.size_drew, World.heap_drewN] at hz); (try have h_w_0 : w.heap.size < w1.heap.size := by omega); (try have e_w_0 : ¬ w.heap.size = w1.heap.size := by omega); (try have d_w_0 : ¬ w1.heap.size = w.heap.size := by omega); (try (refine bcUse (n := w.heap.size) hb ?_ ?_; (focus ((try simp only [World.size_alloc, World.size_setCell, World.size_drew, World.heap_drewN]); omega)); intro _ _))) | (go_at_call 28; (refine (HS.out _).mono ?_); rintro e w2 ⟨rfl, hb⟩; have hz := hb.size; (try simp only [World.size_alloc, World.size_setCell, World.size_drew, World.heap_drewN] at hz); (try have h_w_0 : w.heap.size < w2.heap.size := by omega); (try have e_w_0 : ¬ w.heap.size = w2.heap.size := by omega); (try have d_w_0 : ¬ w2.heap.size = w.heap.size := by omega); (try (refine bcUse (n := w.heap.size) hb ?_ ?_; (focus ((try simp only [World.size_alloc, World.size_setCell, World.size_drew, World.heap_drewN]); omega)); intro _ _)); (try have h_w1_0 : w1.heap.size < w2.heap.size := by omega); (try have e_w1_0 : ¬ w1.heap.size = w2.heap.size := by omega); (try have d_w1_0 : ¬ w2.heap.size = w1.heap.size := by omega); (try (refine bcUse (n := w1.heap.size) hb ?_ ?_; (focus ((try simp only [World.size_alloc, World.size_setCell, World.size_drew, World.heap_drewN]); omega)); intro _ _))) | (go_at_call 27; (refine (HE.out _).mono ?_); rintro e w3 ⟨rfl, hb⟩; have hz := hb.size; (try simp only [World.size_alloc, World.size_setCell, World.size_drew, World.heap_drewN] at hz); (try have h_w_0 : w.heap.size < w3.heap.size := by omega); (try have e_w_0 : ¬ w.heap.size = w3.heap.size := by omega); (try have d_w_0 : ¬ w3.heap.size = w.heap.size := by omega); (try (refine bcUse (n := w.heap.size) hb ?_ ?_; (focus ((try simp only [World.size_alloc, World.size_setCell, World.size_drew, World.heap_drewN]); omega)); intro _ _)); (try have h_w1_0 : w1.heap.size < w3.heap.size := by omega); (try have e_w1_0 : ¬ w1.heap.size = w3.heap.size := by omega); (try have d_w1_0 : ¬ w3.heap.size = w1.heap.size := by omega); (try (refine bcUse (n := w1.heap.size) hb ?_ ?_; (focus ((try simp only [World.size_alloc, World.size_setCell, World.size_drew, World.heap_drewN]); omega)); intro _ _)); (try have h_w2_0 : w2.heap.size < w3.heap.size := by omega); (try have e_w2_0 : ¬ w2.heap.size = w3.heap.size := by omega); (try have d_w2_0 : ¬ w3.heap.size = w2.heap.size := by omega); (try (refine bcUse (n := w2.heap.size) hb ?_ ?_; (focus ((try simp only [World.size_alloc, World.size_setCell, World.size_drew, World.heap_drewN]); omega)); intro _ _))) | (go_at_call 19; (refine (c_none1 ee _).mono ?_); rintro e w4 ⟨rfl, hb⟩; have hz := hb.size; (try simp only [World.size_alloc, World.size_setCell, World.size_drew, World.heap_drewN] at hz); (try have h_w_0 : w.heap.size < w4.heap.size := by omega); (try have e_w_0 : ¬ w.heap.size = w4.heap.size := by omega); (try have d_w_0 : ¬ w4.heap.size = w.heap.size := by omega); (try (refine bcUse (n := w.heap.size) hb ?_ ?_; (focus ((try simp only [World.size_alloc, World.size_setCell, World.size_drew, World.heap_drewN]); omega)); intro _ _)); (try have h_w1_0 : w1.heap.size < w4.heap.size := by omega); (try have e_w1_0 : ¬ w1.heap.size = w4.heap.size := by omega); (try have d_w1_0 : ¬ w4.heap.size = w1.heap.size := by omega); (try (refine bcUse (n := w1.heap.size) hb ?_ ?_; (focus ((try simp only [World.size_alloc, World.size_setCell, World.size_drew, World.heap_drewN]); omega)); intro _ _)); (try have h_w2_0 : w2.heap.size < w4.heap.size := by omega); (try have e_w2_0 : ¬ w2.heap.size = w4.heap.size := by omega); (try have d_w2_0 : ¬ w4.heap.size = w2.heap.size := by omega); (try (refine bcUse (n := w2.heap.size) hb ?_ ?_; (focus ((try simp only [World.size_alloc, World.size_setCell, World.size_drew, World.heap_drewN]); omega)); intro _ _)); (try have h_w3_0 : w3.heap.size < w4.heap.size := by omega); (try have e_w3_0 : ¬ w3.heap.size = w4.heap.size := by omega); (try have d_w3_0 : ¬ w4.heap.size = w3.heap.size := by omega); (try (refine bcUse (n := w3.heap.size) hb ?_ ?_; (focus ((try simp only [World.size_alloc, World.size_setCell, World.size_drew, World.heap_drewN]); omega)); intro _ _))))
  go_ret
  refine ⟨rfl, ?_⟩
  (repeat' (first | (with_reducible exact Below.refl _ _) | (with_reducible assumption) | (with_reducible refine Below.call ?_ ?_ (by with_reducible assumption)) | (with_reducible refine Below.alloc ?_ ?_ _) | (with_reducible refine Below.drew ?_) | (with_reducible refine below_drewN ?_ _) | (with_reducible refine Below.setCell ?_ ?_ _) | (with_reducible exact Nat.le_refl _) | omega | (simp only [World.size_alloc, World.size_setCell, World.size_drew, World.heap_drewN] at *; omega)))
theorem fu_rng {n : Int} (n1 : -1000000000 ≤ n) (n2 : n ≤ 1000000000) : -1200000000000000000 ≤ fu n ∧ fu n ≤ 1200000000000000000 := by
  have h := rabs_le.1 (fu_near n)
  have c1 : ((1000000000 : Int) : Rat) = 1000000000 := rfl
  have c2 : ((-1000000000 : Int) : Rat) = -1000000000 := rfl
  have N1 := icast n1
  have N2 := icast n2
  rw [c2] at N1
  rw [c1] at N2
  have hu : uQ = 1152921504606846976 := rfl
  rw [hu] at h
  have d1 : ((1200000000000000000 : Int) : Rat) = 1200000000000000000 := rfl
  have d2 : ((-1200000000000000000 : Int) : Rat) = -1200000000000000000 := rfl
  exact ⟨Rat.intCast_le_intCast.1 (by rw [d2]; grind), Rat.intCast_le_intCast.1 (by rw [d1]; grind)⟩
theorem asins_ok (lo hi : Int) (h : lo ≤ hi) : InAsin (asLo lo) (asHi hi) (fu (cl9 lo)) ∧ InAsin (asLo lo) (asHi hi) (fu (cl9 hi)) := by
  have f1 := fu_near (cl9 lo)
  have f2 := fu_near (cl9 hi)
  have m := icast (show cl9 lo ≤ cl9 hi by unfold cl9; omega)
  have a1 := as_low lo (z := (cl9 lo : Rat) / 1000000000) Rat.le_refl
  have a2 := as_low lo (z := (cl9 hi : Rat) / 1000000000) (by grind)
  have a3 := as_high hi (z := (cl9 lo : Rat) / 1000000000) (by grind)
  have a4 := as_high hi (z := (cl9 hi : Rat) / 1000000000) Rat.le_refl
  exact ⟨inAsin_of (x := (cl9 lo : Rat) / 1000000000) (by grind) (by grind) (by grind), inAsin_of (x := (cl9 hi : Rat) / 1000000000) (by grind) (by grind) (by grind)⟩
set_option maxRecDepth 100000 in
set_option maxHeartbeats 20000000 in
theorem walk_asins_ok (lo hi : Int) (w : World) (ht : Tab w) (he : spanErr lo hi = 0) (hl : lo ≤ hi) : Calls Tryd.prog 6 #[.agg #[.int .i64 lo, .int .i64 hi]] w fun e w' => e = .returned (.bool true) ∧ Below w.heap.size w w' := by
  have HT := Lib.hid ht
  have HS := Lib.hid (fun w1 => c_ArcSin_ok lo hi w1 he)
  have HE := Lib.hid (fun w1 => c_spanErr lo hi w1)
  rw [he] at HE
  obtain ⟨u1, u2⟩ := asins_ok lo hi hl
  obtain ⟨b1, b2, b3, b4, -⟩ := as_bounds lo
  obtain ⟨k1, k2, k3, k4, k5⟩ := as_bounds hi
  have ord := as_order hl
  obtain ⟨n1, n2⟩ := cl9_rng lo
  obtain ⟨m1, m2⟩ := cl9_rng hi
  have F1 := Lib.hid (fun w1 => c_FromUnit (cl9 lo) w1 n1 n2)
  have F2 := Lib.hid (fun w1 => c_FromUnit (cl9 hi) w1 m1 m2)
  obtain ⟨x1, x2⟩ := fu_rng n1 n2
  obtain ⟨y1, y2⟩ := fu_rng m1 m2
  have I1 := Lib.hid (fun w1 => c_InArcSin1 (asLo lo) (asHi hi) (fu (cl9 lo)) w1 b1 ord k4 u1 x1 x2)
  have I2 := Lib.hid (fun w1 => c_InArcSin1 (asLo lo) (asHi hi) (fu (cl9 hi)) w1 b1 ord k4 u2 y1 y2)
  have hsame : cl9 lo = cl9 hi → asHi hi - asLo lo ≤ 5 := by
    intro q
    have e : asLo hi = asLo lo := by unfold asLo; rw [q]
    omega
  have e1 : max (-1000000000) (min 1000000000 lo) = cl9 lo := by unfold cl9; omega
  have e2 : max (-1000000000) (min 1000000000 hi) = cl9 hi := by unfold cl9; omega
  clear ht he u1 u2
  generalize fu (cl9 lo) = z1 at *
  generalize fu (cl9 hi) = z2 at *
  generalize cl9 lo = c1 at *
  generalize cl9 hi = c2 at *
  have hle : asLo lo ≤ asHi hi := ord
  generalize asLo lo = ra at *
  generalize asHi hi = rb at *
  have HSM := Lib.hid hsame
  clear hsame
  have hgen := sgen; have hgen2 := sgen2; have hgen3 := sgen3; go_enter Tryd.func6, Tryd.ntmps6
  go_upto_region 7 with (first | (go_at_call 15; (refine (c_trigWorks _ (HT.out.below (by (repeat' (first | (with_reducible exact Below.refl _ _) | (with_reducible assumption) | (with_reducible refine Below.call ?_ ?_ (by with_reducible assumption)) | (with_reducible refine Below.alloc ?_ ?_ _) | (with_reducible refine Below.drew ?_) | (with_reducible refine below_drewN ?_ _) | (with_reducible refine Below.setCell ?_ ?_ _) | (with_reducible exact Nat.le_refl _) | omega | (simp only [World.size_alloc, World.size_setCell, World.size_drew, World.heap_drewN] at *; omega)))))).mono ?_); rintro e w1 ⟨rfl, hb⟩; have hz := hb.size; (try simp only [World.size_alloc, World.size_setCell, World.size_drew, World.heap_drewN] at hz); (try have h_w_0 : w.heap.size < w1.heap.size := by omega); (try have e_w_0 : ¬ w.heap.size = w1.heap.size := by omega); (try have d_w_0 : ¬ w1.heap.size = w.heap.size := by omega); (try (refine bcUse (n := w.heap.size) hb ?_ ?_; (focus ((try simp only [World.size_alloc, World.size_setCell, World.size_drew, World.heap_drewN]); omega)); intro _ _))) | (go_at_call 28; (refine (HS.out _).mono ?_); rintro e w2 ⟨rfl, hb⟩; have hz := hb.size; (try simp only [World.size_alloc, World.size_setCell, World.size_drew, World.heap_drewN] at hz); (try have h_w_0 : w.heap.size < w2.heap.size := by omega); (try have e_w_0 : ¬ w.heap.size = w2.heap.size := by omega); (try have d_w_0 : ¬ w2.heap.size = w.heap.size := by omega); (try (refine bcUse (n := w.heap.size) hb ?_ ?_; (focus ((try simp only [World.size_alloc, World.size_setCell, World.size_drew, World.heap_drewN]); omega)); intro _ _)); (try have h_w1_0 : w1.heap.size < w2.heap.size := by omega); (try have e_w1_0 : ¬ w1.heap.size = w2.heap.size := by omega); (try have d_w1_0 : ¬ w2.heap.size = w1.heap.size := by omega); (try (refine bcUse (n := w1.heap.size) hb ?_ ?_; (focus ((try simp only [World.size_alloc, World.size_setCell, World.size_drew, World.heap_drewN]); omega)); intro _ _))) | (go_at_call 27; (refine (HE.out _).mono ?_); rintro e w3 ⟨rfl, hb⟩; have hz := hb.size; (try simp only [World.size_alloc, World.size_setCell, World.size_drew, World.heap_drewN] at hz); (try have h_w_0 : w.heap.size < w3.heap.size := by omega); (try have e_w_0 : ¬ w.heap.size = w3.heap.size := by omega); (try have d_w_0 : ¬ w3.heap.size = w.heap.size := by omega); (try (refine bcUse (n := w.heap.size) hb ?_ ?_; (focus ((try simp only [World.size_alloc, World.size_setCell, World.size_drew, World.heap_drewN]); omega)); intro _ _)); (try have h_w1_0 : w1.heap.size < w3.heap.size := by omega); (try have e_w1_0 : ¬ w1.heap.size = w3.heap.size := by omega); (try have d_w1_0 : ¬ w3.heap.size = w1.heap.size := by omega); (try (refine bcUse (n := w1.heap.size) hb ?_ ?_; (focus ((try simp only [World.size_alloc, World.size_setCell, World.size_drew, World.heap_drewN]); omega)); intro _ _)); (try have h_w2_0 : w2.heap.size < w3.heap.size := by omega); (try have e_w2_0 : ¬ w2.heap.size = w3.heap.size := by omega); (try have d_w2_0 : ¬ w3.heap.size = w2.heap.size := by omega); (try (refine bcUse (n := w2.heap.size) hb ?_ ?_; (focus ((try simp only [World.size_alloc, World.size_setCell, World.size_drew, World.heap_drewN]); omega)); intro _ _))))
  go_cut [6, 7] (fun s6 s7 wk => s6 = .int .i64 c1 ∧ s7 = .int .i64 c2 ∧ Below w3.heap.size w3 wk)
  case first =>
    go_region_held3 (fun w' => w'.cell? ⟨w.heap.size, 0, none⟩ = some (.int .i64 lo) ∧ w'.cell? ⟨w.heap.size, 1, none⟩ = some (.int .i64 hi)) (refine ⟨?_, ?_⟩ <;> (first | (go_simp; done) | go_keep)) (fail)
    all_goals (go_wp2_with fail)
    all_goals go_meet
    all_goals
      case rel =>
        refine ⟨by simp only [e1], by simp only [e2], ?_⟩
        (repeat' (first | (with_reducible exact Below.refl _ _) | (with_reducible assumption) | (with_reducible refine Below.call ?_ ?_ (by with_reducible assumption)) | (with_reducible refine Below.alloc ?_ ?_ _) | (with_reducible refine Below.drew ?_) | (with_reducible refine below_drewN ?_ _) | (with_reducible refine Below.setCell ?_ ?_ _) | (with_reducible exact Nat.le_refl _) | omega | (simp only [World.size_alloc, World.size_setCell, World.size_drew, World.heap_drewN] at *; omega)))
  case rest =>
    obtain ⟨rfl, rfl, hbl⟩ := hcut
    have hsk := hbl.size
    refine bcUse (n := w2.heap.size) hbl (by omega) ?_
    intro cA fA
    have q0 := cA 0
    have q1 := cA 1
    have C0 : wc.cell? ⟨w2.heap.size, 0, none⟩ = some (.int .i64 ra) := by rw [q0]; go_simp
    have C1 : wc.cell? ⟨w2.heap.size, 1, none⟩ = some (.int .i64 rb) := by rw [q1]; go_simp
    have hB : Below w.heap.size w wc := by (repeat' (first | (with_reducible exact Below.refl _ _) | (with_reducible assumption) | (with_reducible refine Below.call ?_ ?_ (by with_reducible assumption)) | (with_reducible refine Below.alloc ?_ ?_ _) | (with_reducible refine Below.drew ?_) | (with_reducible refine below_drewN ?_ _) | (with_reducible refine Below.setCell ?_ ?_ _) | (with_reducible exact Nat.le_refl _) | omega | (simp only [World.size_alloc, World.size_setCell, World.size_drew, World.heap_drewN] at *; omega)))
    have HB := Lib.hid hB
    clear hB q0 q1
    have hk : w2.heap.size < wc.heap.size := by omega
    have hw0 : w.heap.size ≤ wc.heap.size := by omega
    rcases Decidable.em (c1 = c2) with heq | heq
    · have d : (c1 != c2) = false := by simp [heq]
      have dd : decide (IntKind.i64.wrap (rb - ra) ≤ 5) = true := decide_eq_true (by have h := HSM.out heq; rw [IntKind.wrap_i64]; omega)
      clear heq HSM
      go_wp2_with fail
      go_region_held3 (fun w' => w'.cell? ⟨w2.heap.size, 0, none⟩ = some (.int .i64 ra) ∧ w'.cell? ⟨w2.heap.size, 1, none⟩ = some (.int .i64 rb)) (refine ⟨?_, ?_⟩ <;> (first | (go_simp; done) | go_keep)) (first | (go_at_call 30; (first | (with_reducible refine (F1.out _).mono ?_) | (with_reducible refine (F2.out _).mono ?_)); rintro e w' ⟨rfl, rfl⟩) | (go_at_call 29; (with_reducible refine (I1.out _).mono ?_); rintro e w4 ⟨rfl, hb⟩; have hz := hb.size; (try simp only [World.size_alloc, World.size_setCell, World.size_drew, World.heap_drewN] at hz); (try have h_w2_0 : w2.heap.size < w4.heap.size := by omega); (try have e_w2_0 : ¬ w2.heap.size = w4.heap.size := by omega); (try have d_w2_0 : ¬ w4.heap.size = w2.heap.size := by omega); (try (refine bcUse (n := w2.heap.size) hb ?_ ?_; (focus ((try simp only [World.size_alloc, World.size_setCell, World.size_drew, World.heap_drewN]); omega)); intro _ _)); (try have h_wc_0 : wc.heap.size < w4.heap.size := by omega); (try have e_wc_0 : ¬ wc.heap.size = w4.heap.size := by omega); (try have d_wc_0 : ¬ w4.heap.size = wc.heap.size := by omega); (try (refine bcUse (n := wc.heap.size) hb ?_ ?_; (focus ((try simp only [World.size_alloc, World.size_setCell, World.size_drew, World.heap_drewN]); omega)); intro _ _)); (try have h_w5_0 : w5.heap.size < w4.heap.size := by omega); (try have e_w5_0 : ¬ w5.heap.size = w4.heap.size := by omega); (try have d_w5_0 : ¬ w4.heap.size = w5.heap.size := by omega); (try (refine bcUse (n := w5.heap.size) hb ?_ ?_; (focus ((try simp only [World.size_alloc, World.size_setCell, World.size_drew, World.heap_drewN]); omega)); intro _ _))) | (go_at_call 29; (with_reducible refine (I2.out _).mono ?_); rintro e w5 ⟨rfl, hb⟩; have hz := hb.size; (try simp only [World.size_alloc, World.size_setCell, World.size_drew, World.heap_drewN] at hz); (try have h_w2_0 : w2.heap.size < w5.heap.size := by omega); (try have e_w2_0 : ¬ w2.heap.size = w5.heap.size := by omega); (try have d_w2_0 : ¬ w5.heap.size = w2.heap.size := by omega); (try (refine bcUse (n := w2.heap.size) hb ?_ ?_; (focus ((try simp only [World.size_alloc, World.size_setCell, World.size_drew, World.heap_drewN]); omega)); intro _ _)); (try have h_wc_0 : wc.heap.size < w5.heap.size := by omega); (try have e_wc_0 : ¬ wc.heap.size = w5.heap.size := by omega); (try have d_wc_0 : ¬ w5.heap.size = wc.heap.size := by omega); (try (refine bcUse (n := wc.heap.size) hb ?_ ?_; (focus ((try simp only [World.size_alloc, World.size_setCell, World.size_drew, World.heap_drewN]); omega)); intro _ _)); (try have h_w4_0 : w4.heap.size < w5.heap.size := by omega); (try have e_w4_0 : ¬ w4.heap.size = w5.heap.size := by omega); (try have d_w4_0 : ¬ w5.heap.size = w4.heap.size := by omega); (try (refine bcUse (n := w4.heap.size) hb ?_ ?_; (focus ((try simp only [World.size_alloc, World.size_setCell, World.size_drew, World.heap_drewN]); omega)); intro _ _))))
      all_goals go_wp2
      all_goals go_ret
      all_goals
        refine ⟨by simp [Array.getD, dd], ?_⟩
        have hb := HB.out
        (repeat' (first | (with_reducible exact Below.refl _ _) | (with_reducible assumption) | (with_reducible refine Below.call ?_ ?_ (by with_reducible assumption)) | (with_reducible refine Below.alloc ?_ ?_ _) | (with_reducible refine Below.drew ?_) | (with_reducible refine below_drewN ?_ _) | (with_reducible refine Below.setCell ?_ ?_ _) | (with_reducible exact Nat.le_refl _) | omega | (simp only [World.size_alloc, World.size_setCell, World.size_drew, World.heap_drewN] at *; omega)))
    · have d : (c1 != c2) = true := by simp [heq]
      clear heq HSM
      go_wp2_with fail
      clear HT HE HS e1 e2 hl hle n1 n2 m1 m2 x1 x2 y1 y2 ord b1 b2 b3 b4 k1 k2 k3 k4 k5 hsk hbl fA
      rename_i KK hKK
      clear cA
      repeat (first | clear hb | clear hz | clear h_w_0 | clear e_w_0 | clear d_w_0 | clear h_w1_0 | clear e_w1_0 | clear d_w1_0 | clear h_w2_0 | clear e_w2_0 | clear d_w2_0 | (rename_i h; clear h))
      first | (go_region_with (first | (go_at_call 30; (first | (with_reducible refine (F1.out _).mono ?_) | (with_reducible refine (F2.out _).mono ?_)); rintro e w' ⟨rfl, rfl⟩) | (go_at_call 29; (with_reducible refine (I1.out _).mono ?_); rintro e w4 ⟨rfl, hb⟩; have hz := hb.size; (try simp only [World.size_alloc, World.size_setCell, World.size_drew, World.heap_drewN] at hz); (try have h_w2_0 : w2.heap.size < w4.heap.size := by omega); (try have e_w2_0 : ¬ w2.heap.size = w4.heap.size := by omega); (try have d_w2_0 : ¬ w4.heap.size = w2.heap.size := by omega); (try (refine bcUse (n := w2.heap.size) hb ?_ ?_; (focus ((try simp only [World.size_alloc, World.size_setCell, World.size_drew, World.heap_drewN]); omega)); intro _ _)); (try have h_wc_0 : wc.heap.size < w4.heap.size := by omega); (try have e_wc_0 : ¬ wc.heap.size = w4.heap.size := by omega); (try have d_wc_0 : ¬ w4.heap.size = wc.heap.size := by omega); (try (refine bcUse (n := wc.heap.size) hb ?_ ?_; (focus ((try simp only [World.size_alloc, World.size_setCell, World.size_drew, World.heap_drewN]); omega)); intro _ _)); (try have h_w5_0 : w5.heap.size < w4.heap.size := by omega); (try have e_w5_0 : ¬ w5.heap.size = w4.heap.size := by omega); (try have d_w5_0 : ¬ w4.heap.size = w5.heap.size := by omega); (try (refine bcUse (n := w5.heap.size) hb ?_ ?_; (focus ((try simp only [World.size_alloc, World.size_setCell, World.size_drew, World.heap_drewN]); omega)); intro _ _))) | (go_at_call 29; (with_reducible refine (I2.out _).mono ?_); rintro e w5 ⟨rfl, hb⟩; have hz := hb.size; (try simp only [World.size_alloc, World.size_setCell, World.size_drew, World.heap_drewN] at hz); (try have h_w2_0 : w2.heap.size < w5.heap.size := by omega); (try have e_w2_0 : ¬ w2.heap.size = w5.heap.size := by omega); (try have d_w2_0 : ¬ w5.heap.size = w2.heap.size := by omega); (try (refine bcUse (n := w2.heap.size) hb ?_ ?_; (focus ((try simp only [World.size_alloc, World.size_setCell, World.size_drew, World.heap_drewN]); omega)); intro _ _)); (try have h_wc_0 : wc.heap.size < w5.heap.size := by omega); (try have e_wc_0 : ¬ wc.heap.size = w5.heap.size := by omega); (try have d_wc_0 : ¬ w5.heap.size = wc.heap.size := by omega); (try (refine bcUse (n := wc.heap.size) hb ?_ ?_; (focus ((try simp only [World.size_alloc, World.size_setCell, World.size_drew, World.heap_drewN]); omega)); intro _ _)); (try have h_w4_0 : w4.heap.size < w5.heap.size := by omega); (try have e_w4_0 : ¬ w4.heap.size = w5.heap.size := by omega); (try have d_w4_0 : ¬ w5.heap.size = w4.heap.size := by omega); (try (refine bcUse (n := w4.heap.size) hb ?_ ?_; (focus ((try simp only [World.size_alloc, World.size_setCell, World.size_drew, World.heap_drewN]); omega)); intro _ _))))) | fail
      all_goals go_wp2
      all_goals go_ret
      all_goals
        refine ⟨by first | rfl | (simp [Array.getD]; done) | (simp [Array.getD, d]; done) | (simp [Array.getD, bne, BEq.beq]; done), ?_⟩
        have hb := HB.out
        (repeat' (first | (with_reducible exact Below.refl _ _) | (with_reducible assumption) | (with_reducible refine Below.call ?_ ?_ (by with_reducible assumption)) | (with_reducible refine Below.alloc ?_ ?_ _) | (with_reducible refine Below.drew ?_) | (with_reducible refine below_drewN ?_ _) | (with_reducible refine Below.setCell ?_ ?_ _) | (with_reducible exact Nat.le_refl _) | omega | (simp only [World.size_alloc, World.size_setCell, World.size_drew, World.heap_drewN] at *; omega)))
end Go.Proofs.YtffnmfcaoldlhaaDoor
