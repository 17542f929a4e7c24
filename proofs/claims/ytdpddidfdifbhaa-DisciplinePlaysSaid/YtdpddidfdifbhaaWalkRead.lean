/- Contracts of (*discipline.Keeper).Heard and Read. -/
import Derived.Test.YtdpddidfdifbhaaWalkFeed2
import Derived.Test.YtdpddidfdifbhaaWalkAll
import Derived.Test.YtdpddidfdifbhaaWalkWithin
import Derived.Deep.QuietTactic
import Derived.BigQuiet
set_option linter.unusedVariables false
set_option linter.unusedSimpArgs false
namespace Go.Proofs.Ytdpddidfdifbhaa
open Go.RowKit
theorem trues_map (H : Nat → Bool) (n : Nat) : trues ((List.range n).map H) = heardN H n := by
  unfold trues heardN; rw [List.countP_map]; rfl
theorem c_heardK (b rb gb n : Nat) (d f last : Int) (R : Nat → Rd) (H : Nat → Bool) (w : World) (hK : KeepAt w b rb gb n d f last R H) (hn : n ≤ 40) :
    Calls Try.prog 43 #[.pointer (some ⟨b, 0, none⟩)] w fun e w' => e = .returned (.int .i64 (heardN H n)) ∧ w = w' := by
  have c3 := hK.r0.cell (i := 3) (by omega)
  simp only [kpF] at c3
  have h3 : w.cell? ⟨b, 3, none⟩ = some (.slice (some ⟨gb, 0, none⟩) ((List.range n).map H).length ((List.range n).map H).length) := by simpa using c3
  rw [← trues_map]
  refine c_heard b gb _ w h3 ⟨hK.r2.lt, fun k hk => ?_⟩ (by simpa using hn)
  have hk' : k < n := by simpa using hk
  rw [hK.r2.cell hk']
  simp
theorem c_read_range (b : Nat) (q : Int) (w : World) (h : tickB q = false) :
    Calls Try.prog 42 #[.pointer (some ⟨b, 0, none⟩), .int .i64 q] w fun e w' => e = .returned (.tuple #[.agg #[.int .i64 0, .int .i64 0], .int .i64 3]) ∧ Below w.heap.size w w' := by
  have hgen := sgen; have hgen2 := sgen2; have hgen3 := sgen3; go_enter Try.func42, Try.ntmps42
  go_wp2_with (go_at_call 60; refine (c_isTick _ _).mono ?_; rintro e w' ⟨rfl, rfl⟩)
  refine bodyPost_ret (v := _) (by simp only [results, Try.results42]; go_simp) rfl ⟨rfl, ?_⟩
  (repeat' (first | (with_reducible exact Below.refl _ _) | (with_reducible assumption) | (with_reducible refine Below.call ?_ ?_ (by with_reducible assumption)) | (with_reducible refine Below.alloc ?_ ?_ _) | (with_reducible refine Below.drew ?_) | (with_reducible refine below_drewN ?_ _) | (with_reducible refine Below.setCell ?_ ?_ _) | (with_reducible exact Nat.le_refl _) | omega | (simp only [World.size_alloc, World.size_setCell, World.size_drew, World.heap_drewN] at *; omega)))
theorem c_read_order (b rb gb n : Nat) (d f last : Int) (R : Nat → Rd) (H : Nat → Bool) (q : Int) (w : World) (hK : KeepAt w b rb gb n d f last R H) (h : tickB q = true) (hl : q < last) :
    Calls Try.prog 42 #[.pointer (some ⟨b, 0, none⟩), .int .i64 q] w fun e w' => e = .returned (.tuple #[.agg #[.int .i64 0, .int .i64 0], .int .i64 9]) ∧ Below w.heap.size w w' := by
  have c4 := hK.r0.cell (i := 4) (by omega)
  have hlt := hK.r0.lt
  simp only [kpF] at c4
  have n0 : ¬ b = w.heap.size := by omega
  have n2 : ¬ w.heap.size = b := by omega
  have hgen := sgen; have hgen2 := sgen2; have hgen3 := sgen3; go_enter Try.func42, Try.ntmps42
  go_wp2_with (go_at_call 60; refine (c_isTick _ _).mono ?_; rintro e w' ⟨rfl, rfl⟩)
  refine bodyPost_ret (v := _) (by simp only [results, Try.results42]; go_simp) rfl ⟨rfl, ?_⟩
  (repeat' (first | (with_reducible exact Below.refl _ _) | (with_reducible assumption) | (with_reducible refine Below.call ?_ ?_ (by with_reducible assumption)) | (with_reducible refine Below.alloc ?_ ?_ _) | (with_reducible refine Below.drew ?_) | (with_reducible refine below_drewN ?_ _) | (with_reducible refine Below.setCell ?_ ?_ _) | (with_reducible exact Nat.le_refl _) | omega | (simp only [World.size_alloc, World.size_setCell, World.size_drew, World.heap_drewN] at *; omega)))
theorem c_read_state (b rb gb n : Nat) (d f last : Int) (R : Nat → Rd) (H : Nat → Bool) (q : Int) (w : World) (hK : KeepAt w b rb gb n d f last R H) (hn : n ≤ 40) (h : tickB q = true) (hl : last ≤ q) (hf1 : 0 ≤ f) (hf2 : f ≤ 40) (hh : (heardN H n : Int) ≤ 2 * f) :
    Calls Try.prog 42 #[.pointer (some ⟨b, 0, none⟩), .int .i64 q] w fun e w' => e = .returned (.tuple #[.agg #[.int .i64 0, .int .i64 0], .int .i64 10]) ∧ Below w.heap.size w w' := by
  have c1 := hK.r0.cell (i := 1) (by omega)
  have c4 := hK.r0.cell (i := 4) (by omega)
  have hlt := hK.r0.lt
  simp only [kpF] at c1 c4
  have n0 : ¬ b = w.heap.size := by omega
  have n2 : ¬ w.heap.size = b := by omega
  have z1 : IntKind.i64.wrap (2 * f) = 2 * f := IntWalk.i64_in _ (by omega)
  have HK := Lib.hid hK
  clear hK
  have hgen := sgen; have hgen2 := sgen2; have hgen3 := sgen3; go_enter Try.func42, Try.ntmps42
  go_wp2_with (go_at_call 60; refine (c_isTick _ _).mono ?_; rintro e w' ⟨rfl, rfl⟩)
  go_quiet ((go_at_call 43; exact Calls.quiet_of_same ((c_heardK _ _ _ _ _ _ _ _ _ _ (HK.out.below (by (repeat' (first | (with_reducible exact Below.refl _ _) | (with_reducible assumption) | (with_reducible refine Below.call ?_ ?_ (by with_reducible assumption)) | (with_reducible refine Below.alloc ?_ ?_ _) | (with_reducible refine Below.drew ?_) | (with_reducible refine below_drewN ?_ _) | (with_reducible refine Below.setCell ?_ ?_ _) | (with_reducible exact Nat.le_refl _) | omega | (simp only [World.size_alloc, World.size_setCell, World.size_drew, World.heap_drewN] at *; omega))))) hn).mono (fun e w' ⟨h1, h2⟩ => ⟨h1, h2.symm⟩))))
  go_wp2_with fail
  refine bodyPost_ret (v := _) (by simp only [results, Try.results42]; go_simp) rfl ⟨rfl, ?_⟩
  (repeat' (first | (with_reducible exact Below.refl _ _) | (with_reducible assumption) | (with_reducible refine Below.call ?_ ?_ (by with_reducible assumption)) | (with_reducible refine Below.alloc ?_ ?_ _) | (with_reducible refine Below.drew ?_) | (with_reducible refine below_drewN ?_ _) | (with_reducible refine Below.setCell ?_ ?_ _) | (with_reducible exact Nat.le_refl _) | omega | (simp only [World.size_alloc, World.size_setCell, World.size_drew, World.heap_drewN] at *; omega)))
end Go.Proofs.Ytdpddidfdifbhaa
