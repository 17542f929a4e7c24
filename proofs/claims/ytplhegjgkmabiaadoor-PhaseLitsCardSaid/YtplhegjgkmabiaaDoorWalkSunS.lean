/- The sun's sum: contracts of sun.Sum, sun.Longitude and of the reference's sunSum and SunLon. -/
import Derived.Test.YtplhegjgkmabiaaDoorWalkSva
import Derived.Test.YtplhegjgkmabiaaDoorPlainSum2
set_option linter.unusedVariables false
set_option linter.unusedSimpArgs false
namespace Go.Proofs.YtplhegjgkmabiaaDoor
open Go.RowKit
def sunL : List Tm := [⟨5318339, 84888545, 2737778555556⟩, ⟨55536, 169777090, 5475557111112⟩]
theorem sun_e : sumE 775342092 2737909333333 sunL 2000 = 0 := by decide +kernel
def sunLo (t : Int) : Int := angLo 775342092 2737909333333 sunL 2000 t
def sunHi (t : Int) : Int := angHi 775342092 2737909333333 sunL 2000 t
def sunW (t : Int) : Int := wholeV 775342092 2737909333333 sunL t
theorem sun_facts (t : Int) : 0 ≤ sunLo t ∧ sunLo t < 1000000000 ∧ (sunW t - 2000 * 1048576 - sunLo t * 1048576 + 2000) % 1048576000000000 ≤ (sunHi t - sunLo t - 2 * 2000) * 1048576 + 4000 ∧ sunHi t - sunLo t ≤ 4003 ∧ 0 ≤ sunW t ∧ sunW t < 1048576000000000 ∧ sunLo t ≤ sunHi t := by
  obtain ⟨v1, v2, v3, v4, v5⟩ := ang_contains (inst := t) (sumOk_of sun_e)
  have v6 := ang_contains2 (inst := t) (sumOk_of sun_e) (by decide)
  refine ⟨v1, v2, v6, v5, ?_, ?_, ?_⟩
  · unfold sunW wholeV; omega
  · unfold sunW wholeV; omega
  · unfold sunLo sunHi
    omega
theorem c_sun_Sum (w : World) : Calls Tryd.prog 69 #[] w fun e w' => ∃ b, e = .returned (sumV 775342092 2737909333333 (some ⟨b, 0, none⟩) 2 2 2000) ∧ Below w.heap.size w w' ∧ TmSlice w' (some ⟨b, 0, none⟩) sunL := by
  have hgen := sgen; have hgen2 := sgen2; have hgen3 := sgen3; go_enter Tryd.func69, Tryd.ntmps69
  go_wp2
  refine bodyPost_ret (v := sumV 775342092 2737909333333 (some ⟨w.heap.size + 1, 0, none⟩) 2 2 2000) (by simp only [results, Tryd.results69]; go_simp) rfl ⟨_, rfl, ?_, ?_⟩
  · (repeat' (first | (with_reducible exact Below.refl _ _) | (with_reducible assumption) | (with_reducible refine Below.call ?_ ?_ (by with_reducible assumption)) | (with_reducible refine Below.alloc ?_ ?_ _) | (with_reducible refine Below.drew ?_) | (with_reducible refine below_drewN ?_ _) | (with_reducible refine Below.setCell ?_ ?_ _) | (with_reducible exact Nat.le_refl _) | omega | (simp only [World.size_alloc, World.size_setCell, World.size_drew, World.heap_drewN] at *; omega)))
  · intro k hk
    refine ⟨_, 0, rfl, by go_simp, ?_, ?_, ?_⟩
    all_goals (rcases k with _ | _ | k <;> first | (simp only [sunL, List.getElem_cons_zero, List.getElem_cons_succ]; go_simp; done) | (exfalso; simp only [sunL, List.length_cons, List.length_nil] at hk; omega))
theorem c_sunSum (w : World) : Calls Tryd.prog 64 #[] w fun e w' => ∃ b, e = .returned (sumV 775342092 2737909333333 (some ⟨b, 0, none⟩) 2 2 2000) ∧ Below w.heap.size w w' ∧ TmSlice w' (some ⟨b, 0, none⟩) sunL := by
  have hgen := sgen; have hgen2 := sgen2; have hgen3 := sgen3; go_enter Tryd.func64, Tryd.ntmps64
  go_wp2
  refine bodyPost_ret (v := sumV 775342092 2737909333333 (some ⟨w.heap.size + 1, 0, none⟩) 2 2 2000) (by simp only [results, Tryd.results64]; go_simp) rfl ⟨_, rfl, ?_, ?_⟩
  · (repeat' (first | (with_reducible exact Below.refl _ _) | (with_reducible assumption) | (with_reducible refine Below.call ?_ ?_ (by with_reducible assumption)) | (with_reducible refine Below.alloc ?_ ?_ _) | (with_reducible refine Below.drew ?_) | (with_reducible refine below_drewN ?_ _) | (with_reducible refine Below.setCell ?_ ?_ _) | (with_reducible exact Nat.le_refl _) | omega | (simp only [World.size_alloc, World.size_setCell, World.size_drew, World.heap_drewN] at *; omega)))
  · intro k hk
    refine ⟨_, 0, rfl, by go_simp, ?_, ?_, ?_⟩
    all_goals (rcases k with _ | _ | k <;> first | (simp only [sunL, List.getElem_cons_zero, List.getElem_cons_succ]; go_simp; done) | (exfalso; simp only [sunL, List.length_cons, List.length_nil] at hk; omega))
theorem c_Angle_sun (t : Int) (a : Option Addr) (w : World) (hT : Tab w) (hs : TmSlice w a sunL) (ht : instB t = true) :
    Calls Tryd.prog 52 #[sumV 775342092 2737909333333 a 2 2 2000, .int .i64 t] w fun e w' => e = .returned (.tuple #[.agg #[.int .i64 (sunLo t), .int .i64 (sunHi t)], .int .i64 0]) ∧ Below w.heap.size w w' :=
  c_Angle_ok 775342092 2737909333333 2000 t a 2 sunL w hT (Nat.le_refl _) hs sun_e ht
theorem c_Angle_sunT (t : Int) (a : Option Addr) (w : World) (hs : TmSlice w a sunL) (ht : instB t = false) (t1 : -9223372036854775808 ≤ t) (t2 : t ≤ 9223372036854775807) :
    Calls Tryd.prog 52 #[sumV 775342092 2737909333333 a 2 2 2000, .int .i64 t] w fun e w' => e = .returned (.tuple #[.agg #[.int .i64 0, .int .i64 0], .int .i64 3]) ∧ Below w.heap.size w w' :=
  c_Angle_time 775342092 2737909333333 2000 t a 2 sunL w (Nat.le_refl _) hs sun_e ht t1 t2
theorem c_Whole_sun (t : Int) (a : Option Addr) (w : World) (hs : TmSlice w a sunL) (i1 : -400000000000000 ≤ t) (i2 : t ≤ 400000000000000) :
    Calls Tryd.prog 63 #[sumV 775342092 2737909333333 a 2 2 2000, .int .i64 t] w fun e w' => e = .returned (.int .i64 (sunW t)) ∧ Below w.heap.size w w' :=
  c_rWhole 775342092 2737909333333 2000 t a 2 sunL w (Nat.le_refl _) hs (sumOk_of sun_e) i1 i2
theorem c_sunLongitude (t : Int) (w : World) (hT : Tab w) (ht : instB t = true) :
    Calls Tryd.prog 35 #[.int .i64 t] w fun e w' => e = .returned (.tuple #[.agg #[.int .i64 (sunLo t), .int .i64 (sunHi t)], .int .i64 0]) ∧ Below w.heap.size w w' := by
  have HA := Lib.hid (fun w1 (h : Tab w1) a hs1 => c_Angle_sun t a w1 h hs1 ht)
  have HT := Lib.hid hT
  clear hT ht
  generalize sunLo t = lo at *
  generalize sunHi t = hi at *
  have hgen := sgen; have hgen2 := sgen2; have hgen3 := sgen3; go_enter Tryd.func35, Tryd.ntmps35
  go_wp2_with (first | (go_at_call 69; (refine (c_sun_Sum _).mono ?_); rintro e w1 ⟨b, rfl, hb, hm⟩; have hz := hb.size; (try simp only [World.size_alloc, World.size_setCell, World.size_drew, World.heap_drewN] at hz); (try have h_w_0 : w.heap.size < w1.heap.size := by omega); (try have e_w_0 : ¬ w.heap.size = w1.heap.size := by omega); (try have d_w_0 : ¬ w1.heap.size = w.heap.size := by omega); (try (refine bcUse (n := w.heap.size) hb ?_ ?_; (focus ((try simp only [World.size_alloc, World.size_setCell, World.size_drew, World.heap_drewN]); omega)); intro _ _)); (try have h_w_1 : w.heap.size + 1 < w1.heap.size := by omega); (try have e_w_1 : ¬ w.heap.size + 1 = w1.heap.size := by omega); (try have d_w_1 : ¬ w1.heap.size = w.heap.size + 1 := by omega); (try (refine bcUse (n := w.heap.size + 1) hb ?_ ?_; (focus ((try simp only [World.size_alloc, World.size_setCell, World.size_drew, World.heap_drewN]); omega)); intro _ _))) | (go_at_call 52; (refine (HA.out _ (HT.out.below (by (repeat' (first | (with_reducible exact Below.refl _ _) | (with_reducible assumption) | (with_reducible refine Below.call ?_ ?_ (by with_reducible assumption)) | (with_reducible refine Below.alloc ?_ ?_ _) | (with_reducible refine Below.drew ?_) | (with_reducible refine below_drewN ?_ _) | (with_reducible refine Below.setCell ?_ ?_ _) | (with_reducible exact Nat.le_refl _) | omega | (simp only [World.size_alloc, World.size_setCell, World.size_drew, World.heap_drewN] at *; omega))))) _ hm).mono ?_); rintro e w2 ⟨rfl, hb⟩; have hz := hb.size; (try simp only [World.size_alloc, World.size_setCell, World.size_drew, World.heap_drewN] at hz); (try have h_w_0 : w.heap.size < w2.heap.size := by omega); (try have e_w_0 : ¬ w.heap.size = w2.heap.size := by omega); (try have d_w_0 : ¬ w2.heap.size = w.heap.size := by omega); (try (refine bcUse (n := w.heap.size) hb ?_ ?_; (focus ((try simp only [World.size_alloc, World.size_setCell, World.size_drew, World.heap_drewN]); omega)); intro _ _)); (try have h_w_1 : w.heap.size + 1 < w2.heap.size := by omega); (try have e_w_1 : ¬ w.heap.size + 1 = w2.heap.size := by omega); (try have d_w_1 : ¬ w2.heap.size = w.heap.size + 1 := by omega); (try (refine bcUse (n := w.heap.size + 1) hb ?_ ?_; (focus ((try simp only [World.size_alloc, World.size_setCell, World.size_drew, World.heap_drewN]); omega)); intro _ _)); (try have h_w1_0 : w1.heap.size < w2.heap.size := by omega); (try have e_w1_0 : ¬ w1.heap.size = w2.heap.size := by omega); (try have d_w1_0 : ¬ w2.heap.size = w1.heap.size := by omega); (try (refine bcUse (n := w1.heap.size) hb ?_ ?_; (focus ((try simp only [World.size_alloc, World.size_setCell, World.size_drew, World.heap_drewN]); omega)); intro _ _))))
  refine bodyPost_ret (v := .tuple #[.agg #[.int .i64 lo, .int .i64 hi], .int .i64 0]) (by simp only [results, Tryd.results35]; go_simp) rfl ⟨rfl, ?_⟩
  (repeat' (first | (with_reducible exact Below.refl _ _) | (with_reducible assumption) | (with_reducible refine Below.call ?_ ?_ (by with_reducible assumption)) | (with_reducible refine Below.alloc ?_ ?_ _) | (with_reducible refine Below.drew ?_) | (with_reducible refine below_drewN ?_ _) | (with_reducible refine Below.setCell ?_ ?_ _) | (with_reducible exact Nat.le_refl _) | omega | (simp only [World.size_alloc, World.size_setCell, World.size_drew, World.heap_drewN] at *; omega)))
theorem c_sunLongitudeT (t : Int) (w : World) (ht : instB t = false) (t1 : -9223372036854775808 ≤ t) (t2 : t ≤ 9223372036854775807) :
    Calls Tryd.prog 35 #[.int .i64 t] w fun e w' => e = .returned (.tuple #[.agg #[.int .i64 0, .int .i64 0], .int .i64 3]) ∧ Below w.heap.size w w' := by
  have HA := Lib.hid (fun w1 a hs1 => c_Angle_sunT t a w1 hs1 ht t1 t2)
  clear ht
  have hgen := sgen; have hgen2 := sgen2; have hgen3 := sgen3; go_enter Tryd.func35, Tryd.ntmps35
  go_wp2_with (first | (go_at_call 69; (refine (c_sun_Sum _).mono ?_); rintro e w1 ⟨b, rfl, hb, hm⟩; have hz := hb.size; (try simp only [World.size_alloc, World.size_setCell, World.size_drew, World.heap_drewN] at hz); (try have h_w_0 : w.heap.size < w1.heap.size := by omega); (try have e_w_0 : ¬ w.heap.size = w1.heap.size := by omega); (try have d_w_0 : ¬ w1.heap.size = w.heap.size := by omega); (try (refine bcUse (n := w.heap.size) hb ?_ ?_; (focus ((try simp only [World.size_alloc, World.size_setCell, World.size_drew, World.heap_drewN]); omega)); intro _ _)); (try have h_w_1 : w.heap.size + 1 < w1.heap.size := by omega); (try have e_w_1 : ¬ w.heap.size + 1 = w1.heap.size := by omega); (try have d_w_1 : ¬ w1.heap.size = w.heap.size + 1 := by omega); (try (refine bcUse (n := w.heap.size + 1) hb ?_ ?_; (focus ((try simp only [World.size_alloc, World.size_setCell, World.size_drew, World.heap_drewN]); omega)); intro _ _))) | (go_at_call 52; (refine (HA.out _ _ hm).mono ?_); rintro e w2 ⟨rfl, hb⟩; have hz := hb.size; (try simp only [World.size_alloc, World.size_setCell, World.size_drew, World.heap_drewN] at hz); (try have h_w_0 : w.heap.size < w2.heap.size := by omega); (try have e_w_0 : ¬ w.heap.size = w2.heap.size := by omega); (try have d_w_0 : ¬ w2.heap.size = w.heap.size := by omega); (try (refine bcUse (n := w.heap.size) hb ?_ ?_; (focus ((try simp only [World.size_alloc, World.size_setCell, World.size_drew, World.heap_drewN]); omega)); intro _ _)); (try have h_w_1 : w.heap.size + 1 < w2.heap.size := by omega); (try have e_w_1 : ¬ w.heap.size + 1 = w2.heap.size := by omega); (try have d_w_1 : ¬ w2.heap.size = w.heap.size + 1 := by omega); (try (refine bcUse (n := w.heap.size + 1) hb ?_ ?_; (focus ((try simp only [World.size_alloc, World.size_setCell, World.size_drew, World.heap_drewN]); omega)); intro _ _)); (try have h_w1_0 : w1.heap.size < w2.heap.size := by omega); (try have e_w1_0 : ¬ w1.heap.size = w2.heap.size := by omega); (try have d_w1_0 : ¬ w2.heap.size = w1.heap.size := by omega); (try (refine bcUse (n := w1.heap.size) hb ?_ ?_; (focus ((try simp only [World.size_alloc, World.size_setCell, World.size_drew, World.heap_drewN]); omega)); intro _ _))))
  refine bodyPost_ret (v := .tuple #[.agg #[.int .i64 0, .int .i64 0], .int .i64 3]) (by simp only [results, Tryd.results35]; go_simp) rfl ⟨rfl, ?_⟩
  (repeat' (first | (with_reducible exact Below.refl _ _) | (with_reducible assumption) | (with_reducible refine Below.call ?_ ?_ (by with_reducible assumption)) | (with_reducible refine Below.alloc ?_ ?_ _) | (with_reducible refine Below.drew ?_) | (with_reducible refine below_drewN ?_ _) | (with_reducible refine Below.setCell ?_ ?_ _) | (with_reducible exact Nat.le_refl _) | omega | (simp only [World.size_alloc, World.size_setCell, World.size_drew, World.heap_drewN] at *; omega)))
theorem c_SunLon (t n : Int) (w : World) (i1 : -400000000000000 ≤ t) (i2 : t ≤ 400000000000000) (n1 : -8 ≤ n) (n2 : n ≤ 8) :
    Calls Tryd.prog 33 #[.int .i64 t, .int .i64 n] w fun e w' => e = .returned (.int .i64 ((sunW t + 250 * n * 1048576) % 1048576000000000)) ∧ Below w.heap.size w w' := by
  obtain ⟨-, -, -, -, m1, m2, -⟩ := sun_facts t
  have HW := Lib.hid (fun w1 a hs1 => c_Whole_sun t a w1 hs1 i1 i2)
  generalize sunW t = W at *
  have HM := Lib.hid (fun w1 => c_rMod (W + 250 * n * 1048576) 1048576000000000 w1 (by omega) (by omega) (by omega) (by omega))
  have hgen := sgen; have hgen2 := sgen2; have hgen3 := sgen3; go_enter Tryd.func33, Tryd.ntmps33
  go_wp2_with (first | (go_at_call 64; (refine (c_sunSum _).mono ?_); rintro e w1 ⟨b, rfl, hb, hm⟩; have hz := hb.size; (try simp only [World.size_alloc, World.size_setCell, World.size_drew, World.heap_drewN] at hz); (try have h_w_0 : w.heap.size < w1.heap.size := by omega); (try have e_w_0 : ¬ w.heap.size = w1.heap.size := by omega); (try have d_w_0 : ¬ w1.heap.size = w.heap.size := by omega); (try (refine bcUse (n := w.heap.size) hb ?_ ?_; (focus ((try simp only [World.size_alloc, World.size_setCell, World.size_drew, World.heap_drewN]); omega)); intro _ _))) | (go_at_call 63; (refine (HW.out _ _ hm).mono ?_); rintro e w2 ⟨rfl, hb⟩; have hz := hb.size; (try simp only [World.size_alloc, World.size_setCell, World.size_drew, World.heap_drewN] at hz); (try have h_w_0 : w.heap.size < w2.heap.size := by omega); (try have e_w_0 : ¬ w.heap.size = w2.heap.size := by omega); (try have d_w_0 : ¬ w2.heap.size = w.heap.size := by omega); (try (refine bcUse (n := w.heap.size) hb ?_ ?_; (focus ((try simp only [World.size_alloc, World.size_setCell, World.size_drew, World.heap_drewN]); omega)); intro _ _)); (try have h_w1_0 : w1.heap.size < w2.heap.size := by omega); (try have e_w1_0 : ¬ w1.heap.size = w2.heap.size := by omega); (try have d_w1_0 : ¬ w2.heap.size = w1.heap.size := by omega); (try (refine bcUse (n := w1.heap.size) hb ?_ ?_; (focus ((try simp only [World.size_alloc, World.size_setCell, World.size_drew, World.heap_drewN]); omega)); intro _ _))) | (go_at_call 36; refine (HM.out _).mono ?_; rintro e w' ⟨rfl, rfl⟩))
  go_ret
  refine ⟨rfl, ?_⟩
  (repeat' (first | (with_reducible exact Below.refl _ _) | (with_reducible assumption) | (with_reducible refine Below.call ?_ ?_ (by with_reducible assumption)) | (with_reducible refine Below.alloc ?_ ?_ _) | (with_reducible refine Below.drew ?_) | (with_reducible refine below_drewN ?_ _) | (with_reducible refine Below.setCell ?_ ?_ _) | (with_reducible exact Nat.le_refl _) | omega | (simp only [World.size_alloc, World.size_setCell, World.size_drew, World.heap_drewN] at *; omega)))
end Go.Proofs.YtplhegjgkmabiaaDoor
