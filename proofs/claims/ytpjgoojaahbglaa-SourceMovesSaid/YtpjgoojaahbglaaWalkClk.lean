/- Contracts of the methods of oscill.Clock. -/
import Derived.Test.YtpjgoojaahbglaaWalkOsc
import Derived.BigRegion
import Derived.Deep.RegionHeld3
import Derived.Outline
set_option linter.unusedVariables false
set_option linter.unusedSimpArgs false
namespace Go.Proofs.Ytpjgoojaahbglaa
open Go.RowKit
/-- A clock lies at the head of block b. -/
structure ClockAt (w : World) (b : Nat) (d t lo hi : Int) (s : Bool) : Prop where
  lt : b < w.heap.size
  c0 : w.cell? ⟨b, 0, none⟩ = some (.int .i64 d)
  c1 : w.cell? ⟨b, 1, none⟩ = some (.int .i64 t)
  c2 : w.cell? ⟨b, 2, none⟩ = some (.int .i64 lo)
  c3 : w.cell? ⟨b, 3, none⟩ = some (.int .i64 hi)
  c4 : w.cell? ⟨b, 4, none⟩ = some (.bool s)
  f1 : w.frozen? ⟨b, 1, none⟩ = false
  f2 : w.frozen? ⟨b, 2, none⟩ = false
  f3 : w.frozen? ⟨b, 3, none⟩ = false
  f4 : w.frozen? ⟨b, 4, none⟩ = false
theorem ClockAt.below {w w' : World} {b : Nat} {d t lo hi : Int} {s : Bool} (h : ClockAt w b d t lo hi s) (hb : Below w.heap.size w w') : ClockAt w' b d t lo hi s := by
  obtain ⟨h0, h1, h2, h3, h4, h5, h6, h7, h8, h9⟩ := h
  have a := hb.size
  exact ⟨by omega, (hb.cell h0).trans h1, (hb.cell h0).trans h2, (hb.cell h0).trans h3, (hb.cell h0).trans h4, (hb.cell h0).trans h5, (hb.frozen h0).trans h6, (hb.frozen h0).trans h7, (hb.frozen h0).trans h8, (hb.frozen h0).trans h9⟩
theorem c_new_ok (d : Int) (w : World) (h : driftB d = true) : Calls Try.prog 23 #[.int .i64 d] w fun e w' => e = .returned (.tuple #[.pointer (some ⟨w.heap.size, 0, none⟩), .int .i64 0]) ∧ Below w.heap.size w w' ∧ ClockAt w' w.heap.size d 0 0 0 false := by
  have hgen := sgen; have hgen2 := sgen2; have hgen3 := sgen3; go_enter Try.func23, Try.ntmps23
  go_wp2_with (go_at_call 48; refine (c_isDrift _ _).mono ?_; rintro e w' ⟨rfl, rfl⟩)
  go_ret2
  refine ⟨rfl, ?_, ?_⟩
  · (repeat' (first | (with_reducible exact Below.refl _ _) | (with_reducible assumption) | (with_reducible refine Below.call ?_ ?_ (by with_reducible assumption)) | (with_reducible refine Below.alloc ?_ ?_ _) | (with_reducible refine Below.drew ?_) | (with_reducible refine below_drewN ?_ _) | (with_reducible refine Below.setCell ?_ ?_ _) | (with_reducible exact Nat.le_refl _) | omega | (simp only [World.size_alloc, World.size_setCell, World.size_drew, World.heap_drewN] at *; omega)))
  · constructor <;> go_simp
theorem c_new_bad (d : Int) (w : World) (h : driftB d = false) : Calls Try.prog 23 #[.int .i64 d] w fun e w' => e = .returned (.tuple #[.pointer none, .int .i64 1]) ∧ Below w.heap.size w w' := by
  have hgen := sgen; have hgen2 := sgen2; have hgen3 := sgen3; go_enter Try.func23, Try.ntmps23
  go_wp2_with (go_at_call 48; refine (c_isDrift _ _).mono ?_; rintro e w' ⟨rfl, rfl⟩)
  go_ret2
  refine ⟨rfl, ?_⟩
  (repeat' (first | (with_reducible exact Below.refl _ _) | (with_reducible assumption) | (with_reducible refine Below.call ?_ ?_ (by with_reducible assumption)) | (with_reducible refine Below.alloc ?_ ?_ _) | (with_reducible refine Below.drew ?_) | (with_reducible refine below_drewN ?_ _) | (with_reducible refine Below.setCell ?_ ?_ _) | (with_reducible exact Nat.le_refl _) | omega | (simp only [World.size_alloc, World.size_setCell, World.size_drew, World.heap_drewN] at *; omega)))
theorem c_at_range (b : Nat) (k : Int) (w : World) (h : tickB k = false) : Calls Try.prog 26 #[.pointer (some ⟨b, 0, none⟩), .int .i64 k] w fun e w' => e = .returned (.tuple #[.agg #[.int .i64 0, .int .i64 0], .int .i64 3]) ∧ Below w.heap.size w w' := by
  have hgen := sgen; have hgen2 := sgen2; have hgen3 := sgen3; go_enter Try.func26, Try.ntmps26
  go_wp2_with (go_at_call 49; refine (c_isTick _ _).mono ?_; rintro e w' ⟨rfl, rfl⟩)
  refine bodyPost_ret (v := _) (by simp only [results, Try.results26]; go_simp) rfl ⟨rfl, ?_⟩
  (repeat' (first | (with_reducible exact Below.refl _ _) | (with_reducible assumption) | (with_reducible refine Below.call ?_ ?_ (by with_reducible assumption)) | (with_reducible refine Below.alloc ?_ ?_ _) | (with_reducible refine Below.drew ?_) | (with_reducible refine below_drewN ?_ _) | (with_reducible refine Below.setCell ?_ ?_ _) | (with_reducible exact Nat.le_refl _) | omega | (simp only [World.size_alloc, World.size_setCell, World.size_drew, World.heap_drewN] at *; omega)))
theorem c_at_state (b : Nat) (d t lo hi k : Int) (w : World) (hc : ClockAt w b d t lo hi false) (h : tickB k = true) : Calls Try.prog 26 #[.pointer (some ⟨b, 0, none⟩), .int .i64 k] w fun e w' => e = .returned (.tuple #[.agg #[.int .i64 0, .int .i64 0], .int .i64 10]) ∧ Below w.heap.size w w' := by
  obtain ⟨h0, h1, h2, h3, h4, h5, h6, h7, h8, h9⟩ := hc
  have hgen := sgen; have hgen2 := sgen2; have hgen3 := sgen3; go_enter Try.func26, Try.ntmps26
  go_wp2_with (go_at_call 49; refine (c_isTick _ _).mono ?_; rintro e w' ⟨rfl, rfl⟩)
  refine bodyPost_ret (v := _) (by simp only [results, Try.results26]; go_simp) rfl ⟨rfl, ?_⟩
  (repeat' (first | (with_reducible exact Below.refl _ _) | (with_reducible assumption) | (with_reducible refine Below.call ?_ ?_ (by with_reducible assumption)) | (with_reducible refine Below.alloc ?_ ?_ _) | (with_reducible refine Below.drew ?_) | (with_reducible refine below_drewN ?_ _) | (with_reducible refine Below.setCell ?_ ?_ _) | (with_reducible exact Nat.le_refl _) | omega | (simp only [World.size_alloc, World.size_setCell, World.size_drew, World.heap_drewN] at *; omega)))
theorem c_at_order (b : Nat) (d t lo hi k : Int) (w : World) (hc : ClockAt w b d t lo hi true) (h : tickB k = true) (hk : k < t) : Calls Try.prog 26 #[.pointer (some ⟨b, 0, none⟩), .int .i64 k] w fun e w' => e = .returned (.tuple #[.agg #[.int .i64 0, .int .i64 0], .int .i64 9]) ∧ Below w.heap.size w w' := by
  obtain ⟨h0, h1, h2, h3, h4, h5, h6, h7, h8, h9⟩ := hc
  have hgen := sgen; have hgen2 := sgen2; have hgen3 := sgen3; go_enter Try.func26, Try.ntmps26
  go_wp2_with (go_at_call 49; refine (c_isTick _ _).mono ?_; rintro e w' ⟨rfl, rfl⟩)
  refine bodyPost_ret (v := _) (by simp only [results, Try.results26]; go_simp) rfl ⟨rfl, ?_⟩
  (repeat' (first | (with_reducible exact Below.refl _ _) | (with_reducible assumption) | (with_reducible refine Below.call ?_ ?_ (by with_reducible assumption)) | (with_reducible refine Below.alloc ?_ ?_ _) | (with_reducible refine Below.drew ?_) | (with_reducible refine below_drewN ?_ _) | (with_reducible refine Below.setCell ?_ ?_ _) | (with_reducible exact Nat.le_refl _) | omega | (simp only [World.size_alloc, World.size_setCell, World.size_drew, World.heap_drewN] at *; omega)))
theorem c_at_ok (b : Nat) (d t lo hi k : Int) (w : World) (hc : ClockAt w b d t lo hi true) (h : tickB k = true) (hk : t ≤ k) (ht : 0 ≤ t) (hd1 : 0 ≤ d) (hd2 : d ≤ 100000) (hlo : -100000000000000000 ≤ lo) (hlh : lo ≤ hi) (hhi : hi ≤ 100000000000000000) : Calls Try.prog 26 #[.pointer (some ⟨b, 0, none⟩), .int .i64 k] w fun e w' => e = .returned (.tuple #[.agg #[.int .i64 (lo + elLo d (k - t)), .int .i64 (hi + elHi d (k - t))], .int .i64 0]) ∧ Below w.heap.size w w' := by
  obtain ⟨h0, h1, h2, h3, h4, h5, h6, h7, h8, h9⟩ := hc
  obtain ⟨k1, k2⟩ := of_tickB h
  obtain ⟨e1, e2, e3⟩ := el_bd hd1 hd2 (show 0 ≤ k - t by omega) (show k - t ≤ 1000000000000 by omega)
  have n0 : ¬ b = w.heap.size := by omega
  have n1 : ¬ b = w.heap.size + 1 := by omega
  have n2 : ¬ w.heap.size = b := by omega
  have n3 : ¬ w.heap.size + 1 = b := by omega
  have z1 : IntKind.i64.wrap (k - t) = k - t := IntWalk.i64_in _ (by omega)
  have z2 : IntKind.i64.wrap (lo + elLo d (k - t)) = lo + elLo d (k - t) := IntWalk.i64_in _ (by omega)
  have z3 : IntKind.i64.wrap (hi + elHi d (k - t)) = hi + elHi d (k - t) := IntWalk.i64_in _ (by omega)
  have hgen := sgen; have hgen2 := sgen2; have hgen3 := sgen3; go_enter Try.func26, Try.ntmps26
  go_wp2_with (go_at_call 49; refine (c_isTick _ _).mono ?_; rintro e w' ⟨rfl, rfl⟩)
  go_region_held3 (fun w' => w'.cell? ⟨b, 0, none⟩ = some (.int .i64 d) ∧ w'.cell? ⟨b, 1, none⟩ = some (.int .i64 t)) (go_keep)
    (first | (go_at_call 19; refine (c_elapsed_ok _ _ _ hd1 hd2 (by omega) (by omega)).mono ?_; rintro e w1 ⟨rfl, hb⟩; have hz := hb.size; (try simp only [World.size_alloc, World.size_setCell, World.size_drew, World.heap_drewN] at hz); (try have h_bb_0 : b < w1.heap.size := by omega); (try have e_bb_0 : ¬ b = w1.heap.size := by omega); (try have d_bb_0 : ¬ w1.heap.size = b := by omega); (try (refine bcUse (n := b) hb ?_ ?_; (focus ((try simp only [World.size_alloc, World.size_setCell, World.size_drew, World.heap_drewN]); omega)); intro _ _)); (try have h_w_0 : w.heap.size < w1.heap.size := by omega); (try have e_w_0 : ¬ w.heap.size = w1.heap.size := by omega); (try have d_w_0 : ¬ w1.heap.size = w.heap.size := by omega); (try (refine bcUse (n := w.heap.size) hb ?_ ?_; (focus ((try simp only [World.size_alloc, World.size_setCell, World.size_drew, World.heap_drewN]); omega)); intro _ _)); (try have h_w_1 : w.heap.size + 1 < w1.heap.size := by omega); (try have e_w_1 : ¬ w.heap.size + 1 = w1.heap.size := by omega); (try have d_w_1 : ¬ w1.heap.size = w.heap.size + 1 := by omega); (try (refine bcUse (n := w.heap.size + 1) hb ?_ ?_; (focus ((try simp only [World.size_alloc, World.size_setCell, World.size_drew, World.heap_drewN]); omega)); intro _ _))))
  all_goals (go_wp2_with fail)
  · go_region_held3 (fun w' => w'.cell? ⟨b, 2, none⟩ = some (.int .i64 lo) ∧ w'.cell? ⟨b, 3, none⟩ = some (.int .i64 hi) ∧ w'.cell? ⟨w1.heap.size, 0, none⟩ = some (.int .i64 (elLo d (k - t))) ∧ w'.cell? ⟨w1.heap.size, 1, none⟩ = some (.int .i64 (elHi d (k - t)))) (refine ⟨?_, ?_, ?_, ?_⟩ <;> (first | (go_simp; done) | go_keep)) (fail)
    all_goals go_wp2
    all_goals refine bodyPost_ret (v := _) (by simp only [results, Try.results26]; go_simp) rfl ⟨rfl, ?_⟩
    all_goals (repeat' (first | (with_reducible exact Below.refl _ _) | (with_reducible assumption) | (with_reducible refine Below.call ?_ ?_ (by with_reducible assumption)) | (with_reducible refine Below.alloc ?_ ?_ _) | (with_reducible refine Below.drew ?_) | (with_reducible refine below_drewN ?_ _) | (with_reducible refine Below.setCell ?_ ?_ _) | (with_reducible exact Nat.le_refl _) | omega | (simp only [World.size_alloc, World.size_setCell, World.size_drew, World.heap_drewN] at *; omega)))
  · go_region_held3 (fun w' => w'.cell? ⟨b, 2, none⟩ = some (.int .i64 lo) ∧ w'.cell? ⟨b, 3, none⟩ = some (.int .i64 hi) ∧ w'.cell? ⟨w.heap.size + 1, 0, none⟩ = some (.int .i64 (elLo d (k - t))) ∧ w'.cell? ⟨w.heap.size + 1, 1, none⟩ = some (.int .i64 (elHi d (k - t)))) (refine ⟨?_, ?_, ?_, ?_⟩ <;> (first | (go_simp; done) | go_keep)) (fail)
    all_goals go_wp2
    all_goals refine bodyPost_ret (v := _) (by simp only [results, Try.results26]; go_simp) rfl ⟨rfl, ?_⟩
    all_goals (repeat' (first | (with_reducible exact Below.refl _ _) | (with_reducible assumption) | (with_reducible refine Below.call ?_ ?_ (by with_reducible assumption)) | (with_reducible refine Below.alloc ?_ ?_ _) | (with_reducible refine Below.drew ?_) | (with_reducible refine below_drewN ?_ _) | (with_reducible refine Below.setCell ?_ ?_ _) | (with_reducible exact Nat.le_refl _) | omega | (simp only [World.size_alloc, World.size_setCell, World.size_drew, World.heap_drewN] at *; omega)))
end Go.Proofs.Ytpjgoojaahbglaa
