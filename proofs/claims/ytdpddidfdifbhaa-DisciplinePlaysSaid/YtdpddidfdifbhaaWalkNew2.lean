/- The contract of discipline.New where it accepts. -/
import Derived.Test.YtdpddidfdifbhaaWalkNew
import Derived.Test.YtdpddidfdifbhaaWalkHeard
import Derived.Deep.OwnRows
import Derived.BigRegion
import Derived.Deep.DeepCutAuto
set_option linter.unusedVariables false
set_option linter.unusedSimpArgs false
namespace Go.Proofs.Ytdpddidfdifbhaa
open Go.RowKit
theorem info_boolK : (Try.prog.info? 4).map (fun i => (i.zero, i.size, i.bytes)) = some (some (.bool false), 1, 1) := by kernel_rfl
theorem info_rdK : (Try.prog.info? 72).map (fun i => (i.zero, i.size, i.bytes)) = some (some (.agg #[.int .i64 0, .int .i64 0, .int .i64 0]), 3, 24) := by kernel_rfl
theorem make_rdK (n : Nat) (hn : n ≤ 40) (w : World) : (Instr.makeSlice 67 (.int .i64 (n : Int)) (.int .i64 (n : Int))).run Try.prog w = .ok (.slice (some ⟨w.heap.size, 0, none⟩) n n) (w.alloc (.cells (madeCells #[.int .i64 0, .int .i64 0, .int .i64 0] (n * 3)) 72)) := by
  obtain ⟨i, hi, hzz⟩ := Option.map_eq_some_iff.1 info_rdK
  simp only [Prod.mk.injEq] at hzz
  obtain ⟨hz, hs, hb⟩ := hzz
  have h := run_makeSlice (P := Try.prog) (w := w) 67 72 i _ Try.underlying67 hi hz .i64 .i64 n n (by omega) (by omega) (by rw [hs]; simp; omega) (by rw [hb]; omega) (by omega)
  rw [h, hs]
  simp [Value.cells]
theorem heap3 (w : World) (X Y Z : Obj) : (((w.alloc X).alloc Y).alloc Z).drew.heap[w.heap.size]? = some X ∧ (((w.alloc X).alloc Y).alloc Z).drew.heap[w.heap.size + 1]? = some Y ∧ (((w.alloc X).alloc Y).alloc Z).drew.heap[w.heap.size + 1 + 1]? = some Z := by
  have s1 : (w.alloc X).heap.size = w.heap.size + 1 := by simp
  have s2 : ((w.alloc X).alloc Y).heap.size = w.heap.size + 1 + 1 := by simp
  refine ⟨?_, ?_, ?_⟩
  · exact (Below.heap_alloc _ Z _ (by rw [s2]; omega)).trans ((Below.heap_alloc _ Y _ (by rw [s1]; omega)).trans (heap_alloc_new w X))
  · have e := heap_alloc_new (w.alloc X) Y
    rw [s1] at e
    exact (Below.heap_alloc _ Z _ (by rw [s2]; omega)).trans e
  · have e := heap_alloc_new ((w.alloc X).alloc Y) Z
    rw [s2] at e
    exact e
/-- A keeper that New has made. -/
def NewRes (d f : Int) (n : Nat) (w : World) (e : Ending) (w' : World) : Prop := ∃ b rb hb, e = .returned (.tuple #[.pointer (some ⟨b, 0, none⟩), .int .i64 0]) ∧ w.heap.size ≤ b ∧ w.heap.size ≤ rb ∧ w.heap.size ≤ hb ∧ b ≠ rb ∧ b ≠ hb ∧ rb ≠ hb ∧
  w'.heap[b]? = some (.cells #[.int .i64 d, .int .i64 f, .slice (some ⟨rb, 0, none⟩) n n, .slice (some ⟨hb, 0, none⟩) n n, .int .i64 0] 93 (0, 0)) ∧
  w'.heap[rb]? = some (.cells (madeCells #[.int .i64 0, .int .i64 0, .int .i64 0] (n * 3)) 72 (0, 0)) ∧ w'.heap[hb]? = some (.cells (madeCells #[.bool false] n) 4 (0, 0)) ∧ Below w.heap.size w w'
set_option maxHeartbeats 1000000 in
theorem c_new_ok (d f : Int) (n : Nat) (w : World) (h : newOk d n f) :
    Calls Try.prog 39 #[.int .i64 d, .int .i64 n, .int .i64 f] w (NewRes d f n w) := by
  obtain ⟨h1, h2, h3, h4, h5⟩ := h
  have a5 : ¬ (n : Int) ≤ f := by omega
  have a6 : ¬ (n : Int) ≤ 2 * f := by omega
  have a7 : IntKind.i64.wrap (2 * f) = 2 * f := IntWalk.i64_in _ (by omega)
  have hmk1 := make_rdK n (by omega)
  have hmk2 := run_make_row' (P := Try.prog) 58 4 (.bool false) 1 Try.underlying58 info_boolK rfl .i64 .i64 n (by omega) (by omega)
  have hgen := sgen; have hgen2 := sgen2; have hgen3 := sgen3; go_enter Try.func39, Try.ntmps39
  go_upto_region 3 with (go_at_call 57; refine (c_isDrift _ _).mono ?_; rintro e w' ⟨rfl, rfl⟩)
  go_region
  all_goals go_wp2_with fail
  all_goals go_ret2
  all_goals first | (refine ⟨w.heap.size + 1 + 1, w.heap.size, w.heap.size + 1, rfl, by omega, by omega, by omega, by omega, by omega, by omega, (heap3 _ _ _ _).2.2, (heap3 _ _ _ _).1, (heap3 _ _ _ _).2.1, ?_⟩) | (refine ⟨w.heap.size + 1 + 1, w.heap.size + 1, w.heap.size, rfl, by omega, by omega, by omega, by omega, by omega, by omega, (heap3 _ _ _ _).2.2, (heap3 _ _ _ _).2.1, (heap3 _ _ _ _).1, ?_⟩)
  all_goals (repeat' (first | (with_reducible exact Below.refl _ _) | (with_reducible assumption) | (with_reducible refine Below.call ?_ ?_ (by with_reducible assumption)) | (with_reducible refine Below.alloc ?_ ?_ _) | (with_reducible refine Below.drew ?_) | (with_reducible refine below_drewN ?_ _) | (with_reducible refine Below.setCell ?_ ?_ _) | (with_reducible exact Nat.le_refl _) | omega | (simp only [World.size_alloc, World.size_setCell, World.size_drew, World.heap_drewN] at *; omega)))
end Go.Proofs.Ytdpddidfdifbhaa
