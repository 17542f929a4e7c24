/- Contracts of oscill.Clock.Set. -/
import Derived.Test.YtpjgoojaahbglaaWalkClk
set_option linter.unusedVariables false
set_option linter.unusedSimpArgs false
namespace Go.Proofs.Ytpjgoojaahbglaa
open Go.RowKit
/-- Of what was there nothing but block b has turned. -/
structure Touch (b : Nat) (w w' : World) : Prop where
  os : w'.os = w.os
  tape : w'.tape = w.tape
  output : w'.output = w.output
  size : w.heap.size ≤ w'.heap.size
  block : ∀ k, k < w.heap.size → k ≠ b → w'.heap[k]? = w.heap[k]?
theorem Touch.of_below {b : Nat} {w w' : World} (h : Below w.heap.size w w') : Touch b w w' := ⟨h.os, h.tape, h.output, h.size, fun k hk _ => h.block k hk⟩
theorem Touch.alloc {b : Nat} {w w' : World} (h : Touch b w w') (o : Obj) : Touch b w (w'.alloc o) :=
  ⟨h.os, h.tape, h.output, by have := h.size; simp; omega, fun k hk hb => (Below.heap_alloc _ _ _ (by have := h.size; omega)).trans (h.block k hk hb)⟩
theorem Touch.drew {b : Nat} {w w' : World} (h : Touch b w w') : Touch b w w'.drew := ⟨h.os, h.tape, h.output, h.size, h.block⟩
theorem Touch.drewN {b : Nat} {w w' : World} (h : Touch b w w') (n : Nat) : Touch b w (w'.drewN n) := ⟨h.os, h.tape, h.output, h.size, h.block⟩
theorem Touch.setCell {b : Nat} {w w' : World} (h : Touch b w w') {p : Addr} (hp : p.block = b ∨ w.heap.size ≤ p.block) (u : Value) : Touch b w (w'.setCell p u) :=
  ⟨h.os, h.tape, h.output, by have := h.size; simpa using this, fun k hk hb => (Below.heap_setCell _ _ _ _ (by rcases hp with hp | hp <;> omega)).trans (h.block k hk hb)⟩
theorem Touch.call {b : Nat} {w w1 w2 : World} (h : Touch b w w1) (hb : Below w1.heap.size w1 w2) : Touch b w w2 :=
  ⟨hb.os.trans h.os, hb.tape.trans h.tape, hb.output.trans h.output, Nat.le_trans h.size hb.size, fun k hk hbk => (hb.block k (by have := h.size; omega)).trans (h.block k hk hbk)⟩
theorem Touch.below {B b : Nat} {a w w' : World} (h : Below B a w) (hb : B ≤ b) (hs : B ≤ w.heap.size) (ht : Touch b w w') : Below B a w' :=
  h.trans ⟨ht.os, ht.tape, ht.output, ht.size, fun k hk => ht.block k (by omega) (by omega)⟩
theorem Touch.cell {b : Nat} {w w' : World} (h : Touch b w w') {p : Addr} (h1 : p.block < w.heap.size) (h2 : p.block ≠ b) : w'.cell? p = w.cell? p := World.cell?_of_block (w := w) (h.block p.block h1 h2)
theorem Touch.frozen {b : Nat} {w w' : World} (h : Touch b w w') {p : Addr} (h1 : p.block < w.heap.size) (h2 : p.block ≠ b) : w'.frozen? p = w.frozen? p := World.frozen?_of_block (w := w) (h.block p.block h1 h2)
theorem c_set_range (b : Nat) (k lo' hi' : Int) (w : World) (h : tickB k = false) : Calls Try.prog 25 #[.pointer (some ⟨b, 0, none⟩), .int .i64 k, .agg #[.int .i64 lo', .int .i64 hi']] w fun e w' => e = .returned (.int .i64 3) ∧ Below w.heap.size w w' := by
  have hgen := sgen; have hgen2 := sgen2; have hgen3 := sgen3; go_enter Try.func25, Try.ntmps25
  go_wp2_with (go_at_call 49; refine (c_isTick _ _).mono ?_; rintro e w' ⟨rfl, rfl⟩)
  go_ret
  refine ⟨rfl, ?_⟩
  (repeat' (first | (with_reducible exact Below.refl _ _) | (with_reducible assumption) | (with_reducible refine Below.call ?_ ?_ (by with_reducible assumption)) | (with_reducible refine Below.alloc ?_ ?_ _) | (with_reducible refine Below.drew ?_) | (with_reducible refine below_drewN ?_ _) | (with_reducible refine Below.setCell ?_ ?_ _) | (with_reducible exact Nat.le_refl _) | omega | (simp only [World.size_alloc, World.size_setCell, World.size_drew, World.heap_drewN] at *; omega)))
theorem c_set_bad (b : Nat) (k lo' hi' : Int) (w : World) (h : tickB k = true) (ht : timesErr lo' hi' ≠ 0) : Calls Try.prog 25 #[.pointer (some ⟨b, 0, none⟩), .int .i64 k, .agg #[.int .i64 lo', .int .i64 hi']] w fun e w' => e = .returned (.int .i64 (timesErr lo' hi')) ∧ Below w.heap.size w w' := by
  have h1 : (timesErr lo' hi' != 0) = true := by simp [ht]
  have hgen := sgen; have hgen2 := sgen2; have hgen3 := sgen3; go_enter Try.func25, Try.ntmps25
  go_wp2_with (first | (go_at_call 49; refine (c_isTick _ _).mono ?_; rintro e w' ⟨rfl, rfl⟩) | (go_at_call 20; refine (c_times _ _ _).mono ?_; rintro e w1 ⟨rfl, hb⟩; have hz := hb.size; (try simp only [World.size_alloc, World.size_setCell, World.size_drew, World.heap_drewN] at hz); (try have h_w_0 : w.heap.size < w1.heap.size := by omega); (try have e_w_0 : ¬ w.heap.size = w1.heap.size := by omega); (try have d_w_0 : ¬ w1.heap.size = w.heap.size := by omega); (try (refine bcUse (n := w.heap.size) hb ?_ ?_; (focus ((try simp only [World.size_alloc, World.size_setCell, World.size_drew, World.heap_drewN]); omega)); intro _ _))))
  go_ret
  refine ⟨rfl, ?_⟩
  (repeat' (first | (with_reducible exact Below.refl _ _) | (with_reducible assumption) | (with_reducible refine Below.call ?_ ?_ (by with_reducible assumption)) | (with_reducible refine Below.alloc ?_ ?_ _) | (with_reducible refine Below.drew ?_) | (with_reducible refine below_drewN ?_ _) | (with_reducible refine Below.setCell ?_ ?_ _) | (with_reducible exact Nat.le_refl _) | omega | (simp only [World.size_alloc, World.size_setCell, World.size_drew, World.heap_drewN] at *; omega)))
theorem c_set_order (b : Nat) (d t lo hi k lo' hi' : Int) (w : World) (hc : ClockAt w b d t lo hi true) (h : tickB k = true) (ht : timesErr lo' hi' = 0) (hk : k < t) : Calls Try.prog 25 #[.pointer (some ⟨b, 0, none⟩), .int .i64 k, .agg #[.int .i64 lo', .int .i64 hi']] w fun e w' => e = .returned (.int .i64 9) ∧ Below w.heap.size w w' := by
  obtain ⟨h0, h1, h2, h3, h4, h5, h6, h7, h8, h9⟩ := hc
  have n0 : ¬ b = w.heap.size := by omega
  have n2 : ¬ w.heap.size = b := by omega
  have hgen := sgen; have hgen2 := sgen2; have hgen3 := sgen3; go_enter Try.func25, Try.ntmps25
  go_wp2_with (first | (go_at_call 49; refine (c_isTick _ _).mono ?_; rintro e w' ⟨rfl, rfl⟩) | (go_at_call 20; refine (c_times _ _ _).mono ?_; rintro e w1 ⟨rfl, hb⟩; have hz := hb.size; (try simp only [World.size_alloc, World.size_setCell, World.size_drew, World.heap_drewN] at hz); (try have h_bb_0 : b < w1.heap.size := by omega); (try have e_bb_0 : ¬ b = w1.heap.size := by omega); (try have d_bb_0 : ¬ w1.heap.size = b := by omega); (try (refine bcUse (n := b) hb ?_ ?_; (focus ((try simp only [World.size_alloc, World.size_setCell, World.size_drew, World.heap_drewN]); omega)); intro _ _)); (try have h_w_0 : w.heap.size < w1.heap.size := by omega); (try have e_w_0 : ¬ w.heap.size = w1.heap.size := by omega); (try have d_w_0 : ¬ w1.heap.size = w.heap.size := by omega); (try (refine bcUse (n := w.heap.size) hb ?_ ?_; (focus ((try simp only [World.size_alloc, World.size_setCell, World.size_drew, World.heap_drewN]); omega)); intro _ _))))
  go_ret
  refine ⟨rfl, ?_⟩
  (repeat' (first | (with_reducible exact Below.refl _ _) | (with_reducible assumption) | (with_reducible refine Below.call ?_ ?_ (by with_reducible assumption)) | (with_reducible refine Below.alloc ?_ ?_ _) | (with_reducible refine Below.drew ?_) | (with_reducible refine below_drewN ?_ _) | (with_reducible refine Below.setCell ?_ ?_ _) | (with_reducible exact Nat.le_refl _) | omega | (simp only [World.size_alloc, World.size_setCell, World.size_drew, World.heap_drewN] at *; omega)))
theorem c_set_ok (b : Nat) (d t lo hi k lo' hi' : Int) (s : Bool) (w : World) (hc : ClockAt w b d t lo hi s) (h : tickB k = true) (ht : timesErr lo' hi' = 0) (hk : s = false ∨ t ≤ k) : Calls Try.prog 25 #[.pointer (some ⟨b, 0, none⟩), .int .i64 k, .agg #[.int .i64 lo', .int .i64 hi']] w fun e w' => e = .returned (.int .i64 0) ∧ Touch b w w' ∧ ClockAt w' b d k lo' hi' true := by
  obtain ⟨h0, h1, h2, h3, h4, h5, h6, h7, h8, h9⟩ := hc
  have n0 : ¬ b = w.heap.size := by omega
  have n2 : ¬ w.heap.size = b := by omega
  cases s with
  | false =>
    have hgen := sgen; have hgen2 := sgen2; have hgen3 := sgen3; go_enter Try.func25, Try.ntmps25
    go_wp2_with (first | (go_at_call 49; refine (c_isTick _ _).mono ?_; rintro e w' ⟨rfl, rfl⟩) | (go_at_call 20; refine (c_times _ _ _).mono ?_; rintro e w1 ⟨rfl, hb⟩; have hz := hb.size; (try simp only [World.size_alloc, World.size_setCell, World.size_drew, World.heap_drewN] at hz); (try have h_bb_0 : b < w1.heap.size := by omega); (try have e_bb_0 : ¬ b = w1.heap.size := by omega); (try have d_bb_0 : ¬ w1.heap.size = b := by omega); (try (refine bcUse (n := b) hb ?_ ?_; (focus ((try simp only [World.size_alloc, World.size_setCell, World.size_drew, World.heap_drewN]); omega)); intro _ _)); (try have h_w_0 : w.heap.size < w1.heap.size := by omega); (try have e_w_0 : ¬ w.heap.size = w1.heap.size := by omega); (try have d_w_0 : ¬ w1.heap.size = w.heap.size := by omega); (try (refine bcUse (n := w.heap.size) hb ?_ ?_; (focus ((try simp only [World.size_alloc, World.size_setCell, World.size_drew, World.heap_drewN]); omega)); intro _ _))))
    go_region
    all_goals go_wp2
    all_goals go_ret
    all_goals refine ⟨rfl, ?_, ?_⟩
    all_goals first | (with_reducible refine (Touch.setCell ?_ ?_ _); done) | (constructor <;> first | (go_simp; done) | (simp; omega)) | skip
    all_goals (repeat' (first | (with_reducible assumption) | (with_reducible refine Touch.alloc ?_ _) | (with_reducible refine Touch.drew ?_) | (with_reducible refine Touch.drewN ?_ _) | (with_reducible refine Touch.setCell ?_ ?_ _) | (with_reducible refine Touch.call ?_ (by with_reducible assumption)) | (with_reducible exact Touch.of_below (Below.refl _ _)) | (left; rfl) | omega))
  | true =>
    have hk' : t ≤ k := by rcases hk with hk | hk; exact absurd hk (by simp); exact hk
    clear hk
    have hgen := sgen; have hgen2 := sgen2; have hgen3 := sgen3; go_enter Try.func25, Try.ntmps25
    go_wp2_with (first | (go_at_call 49; refine (c_isTick _ _).mono ?_; rintro e w' ⟨rfl, rfl⟩) | (go_at_call 20; refine (c_times _ _ _).mono ?_; rintro e w1 ⟨rfl, hb⟩; have hz := hb.size; (try simp only [World.size_alloc, World.size_setCell, World.size_drew, World.heap_drewN] at hz); (try have h_bb_0 : b < w1.heap.size := by omega); (try have e_bb_0 : ¬ b = w1.heap.size := by omega); (try have d_bb_0 : ¬ w1.heap.size = b := by omega); (try (refine bcUse (n := b) hb ?_ ?_; (focus ((try simp only [World.size_alloc, World.size_setCell, World.size_drew, World.heap_drewN]); omega)); intro _ _)); (try have h_w_0 : w.heap.size < w1.heap.size := by omega); (try have e_w_0 : ¬ w.heap.size = w1.heap.size := by omega); (try have d_w_0 : ¬ w1.heap.size = w.heap.size := by omega); (try (refine bcUse (n := w.heap.size) hb ?_ ?_; (focus ((try simp only [World.size_alloc, World.size_setCell, World.size_drew, World.heap_drewN]); omega)); intro _ _))))
    go_region
    all_goals go_wp2
    all_goals go_ret
    all_goals refine ⟨rfl, ?_, ?_⟩
    all_goals first | (with_reducible refine (Touch.setCell ?_ ?_ _); done) | (constructor <;> first | (go_simp; done) | (simp; omega)) | skip
    all_goals (repeat' (first | (with_reducible assumption) | (with_reducible refine Touch.alloc ?_ _) | (with_reducible refine Touch.drew ?_) | (with_reducible refine Touch.drewN ?_ _) | (with_reducible refine Touch.setCell ?_ ?_ _) | (with_reducible refine Touch.call ?_ (by with_reducible assumption)) | (with_reducible exact Touch.of_below (Below.refl _ _)) | (left; rfl) | omega))
end Go.Proofs.Ytpjgoojaahbglaa
