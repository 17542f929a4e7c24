/- The walk through the law ContradictLeasts. -/
import Derived.Test.YtdpddidfdifbhaaWalkCtI
import Derived.Test.YtdpddidfdifbhaaPlainLeast2
import Derived.Test.YtdpddidfdifbhaaSliceInt1
import Derived.Test.YtdpddidfdifbhaaIxInt1
import Derived.Deep.Light
set_option linter.unusedVariables false
set_option linter.unusedSimpArgs false
namespace Go.Proofs.Ytdpddidfdifbhaa
open Go.RowKit
theorem info_bool : (Try.prog.info? 4).map (fun i => (i.zero, i.size, i.bytes)) = some (some (.bool false), 1, 1) := by kernel_rfl
/-- A row of marks that the call has made. -/
def BVec (w : World) (B n : Nat) (d : Nat → Bool) : Prop := w.rowIs B 4 n (fun x => .bool (d x))
theorem BVec.below {w w' : World} {B n : Nat} {d : Nat → Bool} (h : BVec w B n d) (hb : Below w.heap.size w w') : BVec w' B n d :=
  World.rowIs.of_block h (hb.block B (World.rowIs.lt h))
theorem BVec.congr {w : World} {B n : Nat} {d d' : Nat → Bool} (h : BVec w B n d) (e : ∀ i, i < n → d i = d' i) : BVec w B n d' := World.rowIs.congr h (fun i hi => by rw [e i hi])
theorem BVec.set {w : World} {B n : Nat} {d : Nat → Bool} (h : BVec w B n d) (i : Nat) (v : Bool) : BVec (w.setCell ⟨B, i, none⟩ (.bool v)) B n (upB d i v) := by
  refine World.rowIs.congr (World.rowIs.set h i _) (fun x hx => ?_)
  unfold upB
  split <;> rfl
theorem BVec.cell {w : World} {B n : Nat} {d : Nat → Bool} (h : BVec w B n d) {i : Nat} (hi : i < n) : w.cell? ⟨B, i, none⟩ = some (.bool (d i)) := World.rowIs.cell h hi
theorem BVec.frozen {w : World} {B n : Nat} {d : Nat → Bool} (h : BVec w B n d) (i : Nat) : w.frozen? ⟨B, i, none⟩ = false := World.rowIs.frozen h i
theorem BVec.lt {w : World} {B n : Nat} {d : Nat → Bool} (h : BVec w B n d) : B < w.heap.size := World.rowIs.lt h
def LeastC (n : Int) (a : Option Addr) (cap : Nat) (l : List Bd) (x : Int) : Prop := ∀ w1, BdSlice w1 a l → Calls Try.prog 34 #[.int .i64 n, .slice a l.length cap] w1 fun e w' => e = .returned (.tuple #[.slice none 0 0, .int .i64 x]) ∧ Below w1.heap.size w1 w'
theorem walk_ctl_bad (n : Int) (a : Option Addr) (cap : Nat) (l : List Bd) (w : World) (hs : BdSlice w a l) (x : Int) (hx : x ≠ 0) (HI : Hid (LeastC n a cap l x)) (HE : Hid (ErrC' n a cap l x)) :
    Calls Try.prog 9 #[.int .i64 n, .slice a l.length cap] w fun e w' => e = .returned (.bool true) ∧ Below w.heap.size w w' := by
  have h1 : (x != 0) = true := by simp [hx]
  have h2 : (x == 0) = false := by simp [hx]
  have h3 : (x == x) = true := by simp
  have hgen := sgen; have hgen2 := sgen2; have hgen3 := sgen3; go_enter Try.func9, Try.ntmps9
  go_wp2_with (first | (go_at_call 33; (with_reducible refine (c_contradictWorks _).mono ?_); rintro e w1 ⟨rfl, hb⟩; have hz := hb.size; (try simp only [World.size_alloc, World.size_setCell, World.size_drew, World.heap_drewN] at hz); (try have h_w_0 : w.heap.size < w1.heap.size := by omega); (try have e_w_0 : ¬ w.heap.size = w1.heap.size := by omega); (try have d_w_0 : ¬ w1.heap.size = w.heap.size := by omega); (try (refine bcUse (n := w.heap.size) hb ?_ ?_; (focus ((try simp only [World.size_alloc, World.size_setCell, World.size_drew, World.heap_drewN]); omega)); intro _ _))) | (go_at_call 34; (refine (HI.out _ (hs.below (Nat.le_refl _) (by (repeat' (first | (with_reducible exact Below.refl _ _) | (with_reducible assumption) | (with_reducible refine Below.call ?_ ?_ (by with_reducible assumption)) | (with_reducible refine Below.alloc ?_ ?_ _) | (with_reducible refine Below.drew ?_) | (with_reducible refine below_drewN ?_ _) | (with_reducible refine Below.setCell ?_ ?_ _) | (with_reducible exact Nat.le_refl _) | omega | (simp only [World.size_alloc, World.size_setCell, World.size_drew, World.heap_drewN] at *; omega)))))).mono ?_); rintro e w2 ⟨rfl, hb⟩; have hz := hb.size; (try simp only [World.size_alloc, World.size_setCell, World.size_drew, World.heap_drewN] at hz); (try have h_w_0 : w.heap.size < w2.heap.size := by omega); (try have e_w_0 : ¬ w.heap.size = w2.heap.size := by omega); (try have d_w_0 : ¬ w2.heap.size = w.heap.size := by omega); (try (refine bcUse (n := w.heap.size) hb ?_ ?_; (focus ((try simp only [World.size_alloc, World.size_setCell, World.size_drew, World.heap_drewN]); omega)); intro _ _)); (try have h_w1_0 : w1.heap.size < w2.heap.size := by omega); (try have e_w1_0 : ¬ w1.heap.size = w2.heap.size := by omega); (try have d_w1_0 : ¬ w2.heap.size = w1.heap.size := by omega); (try (refine bcUse (n := w1.heap.size) hb ?_ ?_; (focus ((try simp only [World.size_alloc, World.size_setCell, World.size_drew, World.heap_drewN]); omega)); intro _ _))) | (go_at_call 26; (refine (HE.out _ (hs.below (Nat.le_refl _) (by (repeat' (first | (with_reducible exact Below.refl _ _) | (with_reducible assumption) | (with_reducible refine Below.call ?_ ?_ (by with_reducible assumption)) | (with_reducible refine Below.alloc ?_ ?_ _) | (with_reducible refine Below.drew ?_) | (with_reducible refine below_drewN ?_ _) | (with_reducible refine Below.setCell ?_ ?_ _) | (with_reducible exact Nat.le_refl _) | omega | (simp only [World.size_alloc, World.size_setCell, World.size_drew, World.heap_drewN] at *; omega)))))).mono ?_); rintro e w3 ⟨rfl, hb⟩; have hz := hb.size; (try simp only [World.size_alloc, World.size_setCell, World.size_drew, World.heap_drewN] at hz); (try have h_w_0 : w.heap.size < w3.heap.size := by omega); (try have e_w_0 : ¬ w.heap.size = w3.heap.size := by omega); (try have d_w_0 : ¬ w3.heap.size = w.heap.size := by omega); (try (refine bcUse (n := w.heap.size) hb ?_ ?_; (focus ((try simp only [World.size_alloc, World.size_setCell, World.size_drew, World.heap_drewN]); omega)); intro _ _)); (try have h_w1_0 : w1.heap.size < w3.heap.size := by omega); (try have e_w1_0 : ¬ w1.heap.size = w3.heap.size := by omega); (try have d_w1_0 : ¬ w3.heap.size = w1.heap.size := by omega); (try (refine bcUse (n := w1.heap.size) hb ?_ ?_; (focus ((try simp only [World.size_alloc, World.size_setCell, World.size_drew, World.heap_drewN]); omega)); intro _ _)); (try have h_w2_0 : w2.heap.size < w3.heap.size := by omega); (try have e_w2_0 : ¬ w2.heap.size = w3.heap.size := by omega); (try have d_w2_0 : ¬ w3.heap.size = w2.heap.size := by omega); (try (refine bcUse (n := w2.heap.size) hb ?_ ?_; (focus ((try simp only [World.size_alloc, World.size_setCell, World.size_drew, World.heap_drewN]); omega)); intro _ _))))
  go_ret
  refine ⟨rfl, ?_⟩
  (repeat' (first | (with_reducible exact Below.refl _ _) | (with_reducible assumption) | (with_reducible refine Below.call ?_ ?_ (by with_reducible assumption)) | (with_reducible refine Below.alloc ?_ ?_ _) | (with_reducible refine Below.drew ?_) | (with_reducible refine below_drewN ?_ _) | (with_reducible refine Below.setCell ?_ ?_ _) | (with_reducible exact Nat.le_refl _) | omega | (simp only [World.size_alloc, World.size_setCell, World.size_drew, World.heap_drewN] at *; omega)))
theorem walk_ctl_none (n : Nat) (a : Option Addr) (cap : Nat) (l : List Bd) (w : World) (hs : BdSlice w a l) (hc : l.length ≤ cap) (he : chErr n l = 0) (hok : okB n l = true) (HI : Hid (LeastC n a cap l 6)) (HE : Hid (ErrC' n a cap l 0)) :
    Calls Try.prog 9 #[.int .i64 n, .slice a l.length cap] w fun e w' => e = .returned (.bool true) ∧ Below w.heap.size w w' := by
  have HV := Lib.hid (fun w1 hs1 => c_solv_yes n a cap l w1 hc (bdOk_at he) (okB_yes hok) hs1)
  clear he hok
  have hgen := sgen; have hgen2 := sgen2; have hgen3 := sgen3; go_enter Try.func9, Try.ntmps9
  go_wp2_with (first | (go_at_call 33; (with_reducible refine (c_contradictWorks _).mono ?_); rintro e w1 ⟨rfl, hb⟩; have hz := hb.size; (try simp only [World.size_alloc, World.size_setCell, World.size_drew, World.heap_drewN] at hz); (try have h_w_0 : w.heap.size < w1.heap.size := by omega); (try have e_w_0 : ¬ w.heap.size = w1.heap.size := by omega); (try have d_w_0 : ¬ w1.heap.size = w.heap.size := by omega); (try (refine bcUse (n := w.heap.size) hb ?_ ?_; (focus ((try simp only [World.size_alloc, World.size_setCell, World.size_drew, World.heap_drewN]); omega)); intro _ _))) | (go_at_call 34; (refine (HI.out _ (hs.below (Nat.le_refl _) (by (repeat' (first | (with_reducible exact Below.refl _ _) | (with_reducible assumption) | (with_reducible refine Below.call ?_ ?_ (by with_reducible assumption)) | (with_reducible refine Below.alloc ?_ ?_ _) | (with_reducible refine Below.drew ?_) | (with_reducible refine below_drewN ?_ _) | (with_reducible refine Below.setCell ?_ ?_ _) | (with_reducible exact Nat.le_refl _) | omega | (simp only [World.size_alloc, World.size_setCell, World.size_drew, World.heap_drewN] at *; omega)))))).mono ?_); rintro e w2 ⟨rfl, hb⟩; have hz := hb.size; (try simp only [World.size_alloc, World.size_setCell, World.size_drew, World.heap_drewN] at hz); (try have h_w_0 : w.heap.size < w2.heap.size := by omega); (try have e_w_0 : ¬ w.heap.size = w2.heap.size := by omega); (try have d_w_0 : ¬ w2.heap.size = w.heap.size := by omega); (try (refine bcUse (n := w.heap.size) hb ?_ ?_; (focus ((try simp only [World.size_alloc, World.size_setCell, World.size_drew, World.heap_drewN]); omega)); intro _ _)); (try have h_w1_0 : w1.heap.size < w2.heap.size := by omega); (try have e_w1_0 : ¬ w1.heap.size = w2.heap.size := by omega); (try have d_w1_0 : ¬ w2.heap.size = w1.heap.size := by omega); (try (refine bcUse (n := w1.heap.size) hb ?_ ?_; (focus ((try simp only [World.size_alloc, World.size_setCell, World.size_drew, World.heap_drewN]); omega)); intro _ _))) | (go_at_call 26; (refine (HE.out _ (hs.below (Nat.le_refl _) (by (repeat' (first | (with_reducible exact Below.refl _ _) | (with_reducible assumption) | (with_reducible refine Below.call ?_ ?_ (by with_reducible assumption)) | (with_reducible refine Below.alloc ?_ ?_ _) | (with_reducible refine Below.drew ?_) | (with_reducible refine below_drewN ?_ _) | (with_reducible refine Below.setCell ?_ ?_ _) | (with_reducible exact Nat.le_refl _) | omega | (simp only [World.size_alloc, World.size_setCell, World.size_drew, World.heap_drewN] at *; omega)))))).mono ?_); rintro e w3 ⟨rfl, hb⟩; have hz := hb.size; (try simp only [World.size_alloc, World.size_setCell, World.size_drew, World.heap_drewN] at hz); (try have h_w_0 : w.heap.size < w3.heap.size := by omega); (try have e_w_0 : ¬ w.heap.size = w3.heap.size := by omega); (try have d_w_0 : ¬ w3.heap.size = w.heap.size := by omega); (try (refine bcUse (n := w.heap.size) hb ?_ ?_; (focus ((try simp only [World.size_alloc, World.size_setCell, World.size_drew, World.heap_drewN]); omega)); intro _ _)); (try have h_w1_0 : w1.heap.size < w3.heap.size := by omega); (try have e_w1_0 : ¬ w1.heap.size = w3.heap.size := by omega); (try have d_w1_0 : ¬ w3.heap.size = w1.heap.size := by omega); (try (refine bcUse (n := w1.heap.size) hb ?_ ?_; (focus ((try simp only [World.size_alloc, World.size_setCell, World.size_drew, World.heap_drewN]); omega)); intro _ _)); (try have h_w2_0 : w2.heap.size < w3.heap.size := by omega); (try have e_w2_0 : ¬ w2.heap.size = w3.heap.size := by omega); (try have d_w2_0 : ¬ w3.heap.size = w2.heap.size := by omega); (try (refine bcUse (n := w2.heap.size) hb ?_ ?_; (focus ((try simp only [World.size_alloc, World.size_setCell, World.size_drew, World.heap_drewN]); omega)); intro _ _))) | (go_at_call 30; (refine (HV.out _ (hs.below (Nat.le_refl _) (by (repeat' (first | (with_reducible exact Below.refl _ _) | (with_reducible assumption) | (with_reducible refine Below.call ?_ ?_ (by with_reducible assumption)) | (with_reducible refine Below.alloc ?_ ?_ _) | (with_reducible refine Below.drew ?_) | (with_reducible refine below_drewN ?_ _) | (with_reducible refine Below.setCell ?_ ?_ _) | (with_reducible exact Nat.le_refl _) | omega | (simp only [World.size_alloc, World.size_setCell, World.size_drew, World.heap_drewN] at *; omega)))))).mono ?_); rintro e w4 ⟨rfl, hb⟩; have hz := hb.size; (try simp only [World.size_alloc, World.size_setCell, World.size_drew, World.heap_drewN] at hz); (try have h_w_0 : w.heap.size < w4.heap.size := by omega); (try have e_w_0 : ¬ w.heap.size = w4.heap.size := by omega); (try have d_w_0 : ¬ w4.heap.size = w.heap.size := by omega); (try (refine bcUse (n := w.heap.size) hb ?_ ?_; (focus ((try simp only [World.size_alloc, World.size_setCell, World.size_drew, World.heap_drewN]); omega)); intro _ _)); (try have h_w1_0 : w1.heap.size < w4.heap.size := by omega); (try have e_w1_0 : ¬ w1.heap.size = w4.heap.size := by omega); (try have d_w1_0 : ¬ w4.heap.size = w1.heap.size := by omega); (try (refine bcUse (n := w1.heap.size) hb ?_ ?_; (focus ((try simp only [World.size_alloc, World.size_setCell, World.size_drew, World.heap_drewN]); omega)); intro _ _)); (try have h_w2_0 : w2.heap.size < w4.heap.size := by omega); (try have e_w2_0 : ¬ w2.heap.size = w4.heap.size := by omega); (try have d_w2_0 : ¬ w4.heap.size = w2.heap.size := by omega); (try (refine bcUse (n := w2.heap.size) hb ?_ ?_; (focus ((try simp only [World.size_alloc, World.size_setCell, World.size_drew, World.heap_drewN]); omega)); intro _ _)); (try have h_w3_0 : w3.heap.size < w4.heap.size := by omega); (try have e_w3_0 : ¬ w3.heap.size = w4.heap.size := by omega); (try have d_w3_0 : ¬ w4.heap.size = w3.heap.size := by omega); (try (refine bcUse (n := w3.heap.size) hb ?_ ?_; (focus ((try simp only [World.size_alloc, World.size_setCell, World.size_drew, World.heap_drewN]); omega)); intro _ _))))
  go_ret
  refine ⟨rfl, ?_⟩
  (repeat' (first | (with_reducible exact Below.refl _ _) | (with_reducible assumption) | (with_reducible refine Below.call ?_ ?_ (by with_reducible assumption)) | (with_reducible refine Below.alloc ?_ ?_ _) | (with_reducible refine Below.drew ?_) | (with_reducible refine below_drewN ?_ _) | (with_reducible refine Below.setCell ?_ ?_ _) | (with_reducible exact Nat.le_refl _) | omega | (simp only [World.size_alloc, World.size_setCell, World.size_drew, World.heap_drewN] at *; omega)))
theorem c_solvB (n : Nat) (a : Option Addr) (cap : Nat) (l : List Bd) (w : World) (hc : l.length ≤ cap) (he : chErr n l = 0) (hs : BdSlice w a l) :
    Calls Try.prog 30 #[.int .i64 n, .slice a l.length cap] w fun e w' => e = .returned (.bool (okB n l)) ∧ Below w.heap.size w w' := by
  cases h : okB n l
  · exact c_solv_no n a cap l w hc (bdOk_at he) (okB_no h) hs
  · exact c_solv_yes n a cap l w hc (bdOk_at he) (okB_yes h) hs
theorem own_nat {w : World} {base : Nat} {v : Value} {O : List Nat} (h : w.ownsRow base 3 1 v O.length (natCells O)) : ∃ a cap, v = .slice a O.length cap ∧ O.length ≤ cap ∧ IntSlice w a (O.map fun (k : Nat) => (k : Int)) := by
  rcases own_form h with ⟨h1, h2⟩ | ⟨g, cap, h1, h2, h3, h4, h5, h6, h7⟩
  · exact ⟨none, 0, by rw [h1, h2], by omega, fun k hk => by simp at hk; omega⟩
  · refine ⟨some ⟨g, 0, none⟩, cap, h1, h2, fun k hk => ⟨g, 0, rfl, h5, ?_⟩⟩
    have hk' : k < O.length := by simpa using hk
    rw [Nat.zero_add, h6 k (by omega)]
    unfold natCells
    simp [hk']
set_option maxRecDepth 100000 in
set_option maxHeartbeats 8000000 in
theorem walk_ctl_ok (n b off cap : Nat) (l : List Bd) (w : World) (hs : BdSlice w (some ⟨b, off, none⟩) l) (hb : b < w.heap.size) (hc : l.length ≤ cap) (he : chErr n l = 0) (hno : okB n l = false) (HE : Hid (ErrC' n (some ⟨b, off, none⟩) cap l 0)) :
    Calls Try.prog 9 #[.int .i64 n, .slice (some ⟨b, off, none⟩) l.length cap] w fun e w' => e = .returned (.bool true) ∧ Below w.heap.size w w' := by
  have h40 := (chErr_parts he).2.1
  have HV := Lib.hid (fun w1 hs1 => c_solv_no n (some ⟨b, off, none⟩) cap l w1 hc (bdOk_at he) (okB_no hno) hs1)
  have HLS := Lib.hid (fun w1 hs1 hb1 => c_Least_ok n b off cap l w1 hc he hno hs1 hb1)
  have HEE := Lib.hid he
  obtain ⟨i0, hi0, iz0, iz1, iz2⟩ := info_parts info_Bd
  have hmk := run_make_row' (P := Try.prog) 58 4 (.bool false) 1 Try.underlying58 info_bool rfl .i64 .i64 l.length (by omega) (by omega)
  have h40z : (l.length : Int) ≤ 40 := by omega
  have HB := Lib.hid hb
  clear he hno hb
  have hgen := sgen; have hgen2 := sgen2; have hgen3 := sgen3; go_enter Try.func9, Try.ntmps9
  go_wp2_with (go_at_call 33; (with_reducible refine (c_contradictWorks _).mono ?_); rintro e w1 ⟨rfl, hb⟩; have hz := hb.size; (try simp only [World.size_alloc, World.size_setCell, World.size_drew, World.heap_drewN] at hz); (try have h_w_0 : w.heap.size < w1.heap.size := by omega); (try have e_w_0 : ¬ w.heap.size = w1.heap.size := by omega); (try have d_w_0 : ¬ w1.heap.size = w.heap.size := by omega); (try (refine bcUse (n := w.heap.size) hb ?_ ?_; (focus ((try simp only [World.size_alloc, World.size_setCell, World.size_drew, World.heap_drewN]); omega)); intro _ _)))
  have hb1 : Below w.heap.size w w1 := by (repeat' (first | (with_reducible exact Below.refl _ _) | (with_reducible assumption) | (with_reducible refine Below.call ?_ ?_ (by with_reducible assumption)) | (with_reducible refine Below.alloc ?_ ?_ _) | (with_reducible refine Below.drew ?_) | (with_reducible refine below_drewN ?_ _) | (with_reducible refine Below.setCell ?_ ?_ _) | (with_reducible exact Nat.le_refl _) | omega | (simp only [World.size_alloc, World.size_setCell, World.size_drew, World.heap_drewN] at *; omega)))
  have hz1 := hb1.size
  refine (HLS.out _ (hs.below (Nat.le_refl _) hb1) (by have := HB.out; omega)).mono ?_
  rintro e w2 ⟨v, rfl, ho, hb2⟩
  have hbw2 : Below w.heap.size w w2 := hb1.trans (hb2.mono hz1)
  have hz2 := hbw2.size
  obtain ⟨a2, c2, rfl, q0, hIS⟩ := own_nat ho
  have HIS := Lib.hid hIS
  clear ho hIS
  go_wp2_with (first | (go_at_call 26; (refine (HE.out _ (hs.below (Nat.le_refl _) (by (repeat' (first | (with_reducible exact Below.refl _ _) | (with_reducible assumption) | (with_reducible refine Below.call ?_ ?_ (by with_reducible assumption)) | (with_reducible refine Below.alloc ?_ ?_ _) | (with_reducible refine Below.drew ?_) | (with_reducible refine below_drewN ?_ _) | (with_reducible refine Below.setCell ?_ ?_ _) | (with_reducible exact Nat.le_refl _) | omega | (simp only [World.size_alloc, World.size_setCell, World.size_drew, World.heap_drewN] at *; omega)))))).mono ?_); rintro e w3 ⟨rfl, hb⟩; have hz := hb.size; (try simp only [World.size_alloc, World.size_setCell, World.size_drew, World.heap_drewN] at hz); (try have h_w_0 : w.heap.size < w3.heap.size := by omega); (try have e_w_0 : ¬ w.heap.size = w3.heap.size := by omega); (try have d_w_0 : ¬ w3.heap.size = w.heap.size := by omega); (try (refine bcUse (n := w.heap.size) hb ?_ ?_; (focus ((try simp only [World.size_alloc, World.size_setCell, World.size_drew, World.heap_drewN]); omega)); intro _ _)); (try have h_w1_0 : w1.heap.size < w3.heap.size := by omega); (try have e_w1_0 : ¬ w1.heap.size = w3.heap.size := by omega); (try have d_w1_0 : ¬ w3.heap.size = w1.heap.size := by omega); (try (refine bcUse (n := w1.heap.size) hb ?_ ?_; (focus ((try simp only [World.size_alloc, World.size_setCell, World.size_drew, World.heap_drewN]); omega)); intro _ _)); (try have h_w2_0 : w2.heap.size < w3.heap.size := by omega); (try have e_w2_0 : ¬ w2.heap.size = w3.heap.size := by omega); (try have d_w2_0 : ¬ w3.heap.size = w2.heap.size := by omega); (try (refine bcUse (n := w2.heap.size) hb ?_ ?_; (focus ((try simp only [World.size_alloc, World.size_setCell, World.size_drew, World.heap_drewN]); omega)); intro _ _))) | (go_at_call 30; (refine (HV.out _ (hs.below (Nat.le_refl _) (by (repeat' (first | (with_reducible exact Below.refl _ _) | (with_reducible assumption) | (with_reducible refine Below.call ?_ ?_ (by with_reducible assumption)) | (with_reducible refine Below.alloc ?_ ?_ _) | (with_reducible refine Below.drew ?_) | (with_reducible refine below_drewN ?_ _) | (with_reducible refine Below.setCell ?_ ?_ _) | (with_reducible exact Nat.le_refl _) | omega | (simp only [World.size_alloc, World.size_setCell, World.size_drew, World.heap_drewN] at *; omega)))))).mono ?_); rintro e w4 ⟨rfl, hb⟩; have hz := hb.size; (try simp only [World.size_alloc, World.size_setCell, World.size_drew, World.heap_drewN] at hz); (try have h_w_0 : w.heap.size < w4.heap.size := by omega); (try have e_w_0 : ¬ w.heap.size = w4.heap.size := by omega); (try have d_w_0 : ¬ w4.heap.size = w.heap.size := by omega); (try (refine bcUse (n := w.heap.size) hb ?_ ?_; (focus ((try simp only [World.size_alloc, World.size_setCell, World.size_drew, World.heap_drewN]); omega)); intro _ _)); (try have h_w2_0 : w2.heap.size < w4.heap.size := by omega); (try have e_w2_0 : ¬ w2.heap.size = w4.heap.size := by omega); (try have d_w2_0 : ¬ w4.heap.size = w2.heap.size := by omega); (try (refine bcUse (n := w2.heap.size) hb ?_ ?_; (focus ((try simp only [World.size_alloc, World.size_setCell, World.size_drew, World.heap_drewN]); omega)); intro _ _)); (try have h_w3_0 : w3.heap.size < w4.heap.size := by omega); (try have e_w3_0 : ¬ w3.heap.size = w4.heap.size := by omega); (try have d_w3_0 : ¬ w4.heap.size = w3.heap.size := by omega); (try (refine bcUse (n := w3.heap.size) hb ?_ ?_; (focus ((try simp only [World.size_alloc, World.size_setCell, World.size_drew, World.heap_drewN]); omega)); intro _ _))))
  have hb24 : Below w2.heap.size w2 w4 := by (repeat' (first | (with_reducible exact Below.refl _ _) | (with_reducible assumption) | (with_reducible refine Below.call ?_ ?_ (by with_reducible assumption)) | (with_reducible refine Below.alloc ?_ ?_ _) | (with_reducible refine Below.drew ?_) | (with_reducible refine below_drewN ?_ _) | (with_reducible refine Below.setCell ?_ ?_ _) | (with_reducible exact Nat.le_refl _) | omega | (simp only [World.size_alloc, World.size_setCell, World.size_drew, World.heap_drewN] at *; omega)))
  have hbw4 : Below w.heap.size w w4 := hbw2.trans (hb24.mono hz2)
  have hz4 := hbw4.size
  have HIS4 := Lib.hid (HIS.out.below (Nat.le_refl _) hb24)
  have HS4 := Lib.hid (hs.below (Nat.le_refl _) hbw4)
  clear hmk HIS HV HLS HE hs
  go_loopg [50] l.length (fun gk j wr => ∃ r : Nat, r ≤ l.length ∧ gk = l.length - r ∧ j = .int .i64 r ∧ Below w4.heap.size w4 wr ∧ BVec wr w4.heap.size l.length (fun x => decide (x < r)))
  case atStart =>
    refine ⟨0, Nat.zero_le _, rfl, rfl, ?_, (World.rowIs_made w4 _ _ _).congr (fun j _ => by simp)⟩
    (repeat' (first | (with_reducible exact Below.refl _ _) | (with_reducible assumption) | (with_reducible refine Below.call ?_ ?_ (by with_reducible assumption)) | (with_reducible refine Below.alloc ?_ ?_ _) | (with_reducible refine Below.drew ?_) | (with_reducible refine below_drewN ?_ _) | (with_reducible refine Below.setCell ?_ ?_ _) | (with_reducible exact Nat.le_refl _) | omega | (simp only [World.size_alloc, World.size_setCell, World.size_drew, World.heap_drewN] at *; omega)))
  case round =>
    obtain ⟨r, hr, rfl, rfl, hbel, hM⟩ := hrel
    by_cases hrn : r < l.length
    · have hrz : (r : Int) < (l.length : Int) := by omega
      have g1 := hM.cell hrn
      have g2 := hM.frozen r
      have HM := Lib.hid hM
      clear hM
      go_wp2
      go_roundg (l.length - (r + 1))
      case measure => go_light; omega
      case rel =>
        go_light
        refine ⟨r + 1, by omega, rfl, by go_num, by (repeat' (first | (with_reducible exact Below.refl _ _) | (with_reducible assumption) | (with_reducible refine Below.call ?_ ?_ (by with_reducible assumption)) | (with_reducible refine Below.alloc ?_ ?_ _) | (with_reducible refine Below.drew ?_) | (with_reducible refine below_drewN ?_ _) | (with_reducible refine Below.setCell ?_ ?_ _) | (with_reducible exact Nat.le_refl _) | omega | (simp only [World.size_alloc, World.size_setCell, World.size_drew, World.heap_drewN] at *; omega))), (HM.out.set r true).congr (fun x _ => ?_)⟩
        unfold upB
        by_cases e : x = r
        · subst e; simp
        · rw [if_neg e]; simp; omega
    · obtain rfl : r = l.length := by omega
      have HM := Lib.hid (hM.congr (d' := dv n l 0) (fun x hx => by simp [dv, hx]))
      have hzb := hbel.size
      clear hM
      go_wp2_with fail
      go_loopg [59] l.length (fun gk j wr => ∃ i : Nat, i ≤ l.length ∧ gk = l.length - i ∧ j = .int .i64 i ∧ Below w4.heap.size w4 wr ∧ BVec wr w4.heap.size l.length (dv n l i))
      case atStart => exact ⟨0, Nat.zero_le _, rfl, rfl, hbel, HM.out⟩
      case round =>
        clear hbel HM hzb
        obtain ⟨i, hi, rfl, rfl, hbel, hM⟩ := hrel
        have hzb := hbel.size
        have hBl := hM.lt
        by_cases hil : i < l.length
        · have hiz : (i : Int) < (l.length : Int) := by omega
          obtain ⟨wo, rfl⟩ : ∃ wo : World, wo = wr := ⟨_, rfl⟩
          have g1 := hM.cell hil
          have g2 := hM.frozen i
          have HM1 := Lib.hid (hM.set i false)
          clear hM
          go_wp2_with fail
          go_loopg [11, 67] l.length (fun gk x11 j wr => ∃ t : Nat, t ≤ l.length ∧ gk = l.length - t ∧ j = .int .i64 t ∧ wr.ownsRow wo.heap.size 47 4 x11 (fl (upB (dv n l i) i false) l t).length (bdCells (fl (upB (dv n l i) i false) l t)) ∧ BVec wr w4.heap.size l.length (upB (dv n l i) i false) ∧ Below w4.heap.size w4 wr ∧ wo.heap.size ≤ wr.heap.size)
          case atStart => exact ⟨0, Nat.zero_le _, rfl, rfl, by simp [fl, bdCells]; exact World.ownsRow_nil _ _ _ _, HM1.out, by (repeat' (first | (with_reducible exact Below.refl _ _) | (with_reducible assumption) | (with_reducible refine Below.call ?_ ?_ (by with_reducible assumption)) | (with_reducible refine Below.alloc ?_ ?_ _) | (with_reducible refine Below.drew ?_) | (with_reducible refine below_drewN ?_ _) | (with_reducible refine Below.setCell ?_ ?_ _) | (with_reducible exact Nat.le_refl _) | omega | (simp only [World.size_alloc, World.size_setCell, World.size_drew, World.heap_drewN] at *; omega))), by simp [World.size_setCell]⟩
          case round =>
            clear HM1 g1 g2
            obtain ⟨t, ht, rfl, rfl, hown, hM, hbt, hwo⟩ := hrel
            have HO := Lib.hid hown
            clear hown
            by_cases htl : t < l.length
            · have htz : (t : Int) < (l.length : Int) := by omega
              have hbwr : Below w.heap.size w wr := hbw4.trans (hbt.mono hz4)
              obtain ⟨bb, off', e', hbb, c0, c1, c2', c3⟩ := (HS4.out.below (Nat.le_refl _) (hbt)) t htl
              simp at e'
              obtain ⟨rfl, rfl⟩ := e'
              have g1 := hM.cell htl
              have hBr := hM.lt
              have hBr1 : ¬ w4.heap.size = wr.heap.size := by omega
              have hBr2 : ¬ wr.heap.size = w4.heap.size := by omega
              have hfl := fl_len (upB (dv n l i) i false) l t
              have HSN := Lib.hid (show fl (upB (dv n l i) i false) l (t + 1) = if upB (dv n l i) i false t = true then fl (upB (dv n l i) i false) l t ++ [l.getD t default] else fl (upB (dv n l i) i false) l t from rfl)
              have HGD := Lib.hid (show l.getD t default = l[t] by simp [htl])
              have HM := Lib.hid hM
              clear hM
              generalize hx : l[t] = x at *
              clear hx
              generalize hd : upB (dv n l i) i false t = dt at *
              clear hd
              cases dt
              · go_wp2_with fail
                go_roundg (l.length - (t + 1))
                case measure => go_light; omega
                case rel =>
                  refine ⟨t + 1, by omega, rfl, by go_num, ?_, HM.out.below (by (repeat' (first | (with_reducible exact Below.refl _ _) | (with_reducible assumption) | (with_reducible refine Below.call ?_ ?_ (by with_reducible assumption)) | (with_reducible refine Below.alloc ?_ ?_ _) | (with_reducible refine Below.drew ?_) | (with_reducible refine below_drewN ?_ _) | (with_reducible refine Below.setCell ?_ ?_ _) | (with_reducible exact Nat.le_refl _) | omega | (simp only [World.size_alloc, World.size_setCell, World.size_drew, World.heap_drewN] at *; omega)))), by (repeat' (first | (with_reducible exact Below.refl _ _) | (with_reducible assumption) | (with_reducible refine Below.call ?_ ?_ (by with_reducible assumption)) | (with_reducible refine Below.alloc ?_ ?_ _) | (with_reducible refine Below.drew ?_) | (with_reducible refine below_drewN ?_ _) | (with_reducible refine Below.setCell ?_ ?_ _) | (with_reducible exact Nat.le_refl _) | omega | (simp only [World.size_alloc, World.size_setCell, World.size_drew, World.heap_drewN] at *; omega))), by simp; omega⟩
                  rw [HSN.out, if_neg (by simp)]
                  exact own_below HO.out (by (repeat' (first | (with_reducible exact Below.refl _ _) | (with_reducible assumption) | (with_reducible refine Below.call ?_ ?_ (by with_reducible assumption)) | (with_reducible refine Below.alloc ?_ ?_ _) | (with_reducible refine Below.drew ?_) | (with_reducible refine below_drewN ?_ _) | (with_reducible refine Below.setCell ?_ ?_ _) | (with_reducible exact Nat.le_refl _) | omega | (simp only [World.size_alloc, World.size_setCell, World.size_drew, World.heap_drewN] at *; omega))))
              · go_wp2_with (at_builtin; refine wpList_append_own _ rfl (.tmp 76) (.tmp 78) 41 rfl wo.heap.size 47 i0 (.agg #[.int .i64 0, .int .i64 0, .int .i64 0, .int .i64 0]) 4 32 Try.underlying41 hi0 iz0 iz1 iz2 rfl (by decide) _ (fl (upB (dv n l i) i false) l t).length _ rfl ((HO.out.alloc _).alloc _) ⟨wr.heap.size + 1, 0, none⟩ 1 1 [.int .i64 x.a, .int .i64 x.b, .int .i64 x.lo, .int .i64 x.hi] rfl rfl ?_ ?_ ?_ ?_ ?_ ?_)
                any_goals first | (unfold maxLen; omega) | omega | exact ⟨rfl, rfl, rfl, rfl⟩ | (intro u hu; simp at hu; rcases hu with rfl | rfl | rfl | rfl <;> rfl) | (simp; omega) | (intro j u hj; match j, hj with | 0, hj => (simp at hj; subst hj; simp only [Addr.add]; go_simp) | 1, hj => (simp at hj; subst hj; simp only [Addr.add]; go_simp) | 2, hj => (simp at hj; subst hj; simp only [Addr.add]; go_simp) | 3, hj => (simp at hj; subst hj; simp only [Addr.add]; go_simp))
                intro v' w6 hown' hgrow _
                have hrow : ∀ q, _ = some q → wo.heap.size ≤ q := fun q hq => (HO.out.lt q hq).1
                have hb6 : Below w4.heap.size w4 w6 := by
                  refine Below.grown ((hbt.alloc (by omega) _).alloc (by simp; omega) _) hgrow (by simp; omega) ?_
                  intro q hq
                  have := hrow q hq
                  omega
                have HM6 : Hid (BVec w6 w4.heap.size l.length (upB (dv n l i) i false)) := Lib.hid (World.rowIs.of_block (HM.out.below (((Below.refl wr.heap.size wr).alloc (Nat.le_refl _) (.cells #[.int .i64 x.a, .int .i64 x.b, .int .i64 x.lo, .int .i64 x.hi] 47 (0, 0))).alloc (by simp) (.cells #[.int .i64 x.a, .int .i64 x.b, .int .i64 x.lo, .int .i64 x.hi] 47 (0, 0)))) (hgrow.block _ (by simp; omega) (fun e => by have := hrow _ e.symm; omega)))
                have hsz6 : wo.heap.size ≤ w6.heap.size := by have := hgrow.size; simp at this; omega
                have HO6 : Hid (w6.ownsRow wo.heap.size 47 4 v' (fl (upB (dv n l i) i false) l (t + 1)).length (bdCells (fl (upB (dv n l i) i false) l (t + 1)))) := Lib.hid (by
                  rw [HSN.out, if_pos (by first | trivial | rfl), HGD.out, List.length_append, bdCells_append]
                  exact hown')
                clear hgrow hown' hrow
                go_wp2_with fail
                go_roundg (l.length - (t + 1))
                case measure => go_light; omega
                case rel => exact ⟨t + 1, by omega, rfl, by go_num, HO6.out, HM6.out, hb6, hsz6⟩
            · obtain rfl : t = l.length := by omega
              have hbwr : Below w.heap.size w wr := hbw4.trans (hbt.mono hz4)
              have ho := HO.out
              rw [fl_all n l i hil] at ho
              have hLe : chErr n (sel l (kp n l i) ++ l.drop (i + 1)) = 0 := chErr_sub HEE.out (by rw [← fl_all n l i hil]; have := fl_len (upB (dv n l i) i false) l l.length; omega) (fl_mem hil)
              have hdec := kp_dec n l i
              obtain ⟨LW, hLW⟩ : ∃ LW, sel l (kp n l i) ++ l.drop (i + 1) = LW := ⟨_, rfl⟩
              rw [hLW] at ho hLe hdec
              obtain ⟨a', cap', hx11, q1, q2⟩ := own_bd' ho
              subst hx11
              have HQ2 := Lib.hid q2
              have HVB := Lib.hid (fun w1 hs1 => c_solvB n a' cap' LW w1 q1 hLe hs1)
              have hBr := hM.lt
              have HM := Lib.hid hM
              have HDEC := Lib.hid hdec
              clear ho hLe hLW q2 hM hdec HO
              go_wp2_with fail
              refine (HVB.out _ HQ2.out).mono ?_
              rintro e w7 ⟨rfl, hb7⟩
              have hz7 := hb7.size
              have hM7 := HM.out.below hb7
              have g1 := hM7.cell hil
              have g2 := hM7.frozen i
              have HM7 := Lib.hid hM7
              have hb47 : Below w4.heap.size w4 w7 := hbt.trans (hb7.mono (by omega))
              have hdv : ∀ x, dv n l (i + 1) x = upB (dv n l i) i (okB n LW) x := fun x => by rw [dv_next, HDEC.out]
              have HDV := Lib.hid hdv
              clear hM7 hdv HDEC HM HVB HQ2
              generalize okB n LW = r at *
              cases r
              · go_wp2_with fail
                go_roundg (l.length - (i + 1))
                case measure => go_light; omega
                case rel => exact ⟨i + 1, by omega, rfl, by go_num, hb47, HM7.out.congr (fun x _ => (HDV.out x).symm)⟩
              · go_wp2_with fail
                go_roundg (l.length - (i + 1))
                case measure => go_light; omega
                case rel =>
                  refine ⟨i + 1, by omega, rfl, by go_num, by (repeat' (first | (with_reducible exact Below.refl _ _) | (with_reducible assumption) | (with_reducible refine Below.call ?_ ?_ (by with_reducible assumption)) | (with_reducible refine Below.alloc ?_ ?_ _) | (with_reducible refine Below.drew ?_) | (with_reducible refine below_drewN ?_ _) | (with_reducible refine Below.setCell ?_ ?_ _) | (with_reducible exact Nat.le_refl _) | omega | (simp only [World.size_alloc, World.size_setCell, World.size_drew, World.heap_drewN] at *; omega))), (HM7.out.set i true).congr (fun x _ => ?_)⟩
                  rw [HDV.out]
                  unfold upB
                  split <;> rfl
        · obtain rfl : i = l.length := by omega
          have HM := Lib.hid hM
          clear hM
          go_wp2_with fail
          go_loopg [14, 90] l.length (fun gk x14 j wq => ∃ k : Nat, k ≤ l.length ∧ gk = l.length - k ∧ j = .int .i64 k ∧ x14 = .int .i64 (kp n l k).length ∧ wq = wr)
          case atStart => exact ⟨0, Nat.zero_le _, rfl, rfl, rfl, rfl⟩
          case round =>
            obtain ⟨k, hk, rfl, rfl, rfl, rfl⟩ := hrel
            by_cases hkl : k < l.length
            · have hkz : (k : Int) < (l.length : Int) := by omega
              have g1 := HM.out.cell hkl
              have hkk := (kp_lt n l k).2
              by_cases hin : k ∈ kp n l l.length
              · obtain ⟨p1, p2⟩ := kp_at hkl hin
                have e1 : dv n l l.length k = true := by unfold dv; rw [if_pos hkl]; exact decide_eq_true hin
                have e2 := kp_in ((kp_mem n l k l.length hkl).1 hin)
                obtain ⟨bo, oo, ho1, ho2, d0⟩ := (HIS4.out.below (Nat.le_refl _) hbel) (kp n l k).length (by simpa using p1)
                have ixo := @ix_Int a2 bo oo (kp n l l.length).length c2 (kp n l k).length ho1 p1
                rw [e1] at g1
                have d0' : wr.cell? ⟨bo, oo + (kp n l k).length, none⟩ = some (.int .i64 (k : Int)) := by
                  rw [d0]
                  have : (kp n l l.length)[(kp n l k).length]'p1 = k := by
                    rw [List.getElem?_eq_getElem p1] at p2; simpa using p2
                  simp [this]
                have t1 : decide ((kp n l l.length).length ≤ (kp n l k).length) = false := decide_eq_false (by omega)
                have t2 : decide (((kp n l l.length).length : Int) ≤ ((kp n l k).length : Int)) = false := decide_eq_false (by omega)
                have t3 : ((k : Int) != (k : Int)) = false := by simp
                have ew : IntKind.i64.wrap (((kp n l k).length : Int) + 1) = ((kp n l k).length : Int) + 1 := IntWalk.i64_in _ (by omega)
                have E2 := Lib.hid e2
                clear d0 p2 e1 e2 ho1 hin
                go_wp2_with fail
                go_roundg (l.length - (k + 1))
                case measure => go_light; omega
                case rel =>
                  refine ⟨k + 1, by omega, rfl, by go_num, ?_, rfl⟩
                  rw [E2.out, List.length_append]; simp
              · have e1 : dv n l l.length k = false := by unfold dv; rw [if_pos hkl]; exact decide_eq_false hin
                have e2 := kp_out (fun q => hin ((kp_mem n l k l.length hkl).2 q))
                rw [e1] at g1
                have E2 := Lib.hid e2
                clear e1 e2 hin
                go_wp2_with fail
                go_roundg (l.length - (k + 1))
                case measure => go_light; omega
                case rel => exact ⟨k + 1, by omega, rfl, by go_num, by rw [E2.out], rfl⟩
            · obtain rfl : k = l.length := by omega
              have t3 : (((kp n l l.length).length : Int) == ((kp n l l.length).length : Int)) = true := by simp
              go_wp2_with fail
              go_ret
              exact ⟨rfl, hbw4.trans (hbel.mono hz4)⟩
theorem fw_nil : ∀ k i j, fw [] k i j = m0 i j
  | 0, _, _ => rfl
  | k + 1, i, j => by
    show nw (fw [] k) k i j = _
    unfold nw
    rw [fw_nil k i k, fw_nil k k j, fw_nil k i j]
    split
    · rename_i h
      have hF : FAR = 1000000000 := rfl
      have h1 : i = k := by
        by_cases q : i = k
        · exact q
        · have := h.1; unfold m0 at this; rw [if_neg q] at this; omega
      have h2 : k = j := by
        by_cases q : k = j
        · exact q
        · have := h.2; unfold m0 at this; rw [if_neg q] at this; omega
      subst h1 h2
      unfold m0
      simp
    · rfl
theorem walk_ctl (n : Int) (a : Option Addr) (len cap : Nat) (l : List Bd) (w : World) (hlen : l.length = len) (hc : len ≤ cap) (hs : BdSlice w a l) :
    Calls Try.prog 9 #[.int .i64 n, .slice a len cap] w fun e w' => e = .returned (.bool true) ∧ Below w.heap.size w w' := by
  subst hlen
  have HE := Lib.hid (fun w1 hs1 => c_refChErr n a cap l w1 hc hs1 : ErrC' n a cap l (chErr n l))
  by_cases he : chErr n l = 0
  · rw [he] at HE
    obtain ⟨m, rfl, hv⟩ := bdOk_of he
    cases hok : okB m l
    · by_cases h0 : l.length = 0
      · exfalso
        have hl : l = [] := List.length_eq_zero_iff.1 h0
        subst hl
        exact okB_no hok (fun k _ i _ => by rw [fw_nil]; unfold m0; rw [if_pos rfl]; exact Int.le_refl _)
      · obtain ⟨b, off, rfl, hb, _⟩ := hs 0 (by omega)
        exact walk_ctl_ok m b off cap l w hs hb hc he hok HE
    · exact walk_ctl_none m a cap l w hs hc he hok (Lib.hid fun w1 hs1 => c_Least_none m a cap l w1 hc he hok hs1) HE
  · exact walk_ctl_bad n a cap l w hs _ he (Lib.hid fun w1 hs1 => c_Least_bad n a cap l w1 hc he hs1) HE
end Go.Proofs.Ytdpddidfdifbhaa
