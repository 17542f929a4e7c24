/- The contract of (*discipline.Keeper).Feed. -/
import Derived.Test.YtdpddidfdifbhaaWalkNew2
import Derived.Test.YtdpddidfdifbhaaPlainKeep
set_option linter.unusedVariables false
set_option linter.unusedSimpArgs false
namespace Go.Proofs.Ytdpddidfdifbhaa
open Go.RowKit
def rdF (R : Nat → Rd) (i : Nat) : Value := if i % 3 = 0 then .int .i64 (R (i / 3)).tk else if i % 3 = 1 then .int .i64 (R (i / 3)).lo else .int .i64 (R (i / 3)).hi
theorem rdF_0 (R : Nat → Rd) (k : Nat) : rdF R (k * 3) = .int .i64 (R k).tk := by
  unfold rdF; rw [if_pos (by omega), show k * 3 / 3 = k by omega]
theorem rdF_1 (R : Nat → Rd) (k : Nat) : rdF R (k * 3 + 1) = .int .i64 (R k).lo := by
  unfold rdF; rw [if_neg (by omega), if_pos (by omega), show (k * 3 + 1) / 3 = k by omega]
theorem rdF_2 (R : Nat → Rd) (k : Nat) : rdF R (k * 3 + 2) = .int .i64 (R k).hi := by
  unfold rdF; rw [if_neg (by omega), if_neg (by omega), show (k * 3 + 2) / 3 = k by omega]
theorem rdF_upd (R : Nat → Rd) (k : Nat) (x : Rd) (i : Nat) : rdF (upd R k x) i = if i = k * 3 + 2 then .int .i64 x.hi else if i = k * 3 + 1 then .int .i64 x.lo else if i = k * 3 then .int .i64 x.tk else rdF R i := by
  unfold rdF upd
  by_cases h : i / 3 = k
  · rw [if_pos h]
    by_cases h0 : i % 3 = 0
    · rw [if_pos h0, if_neg (by omega), if_neg (by omega), if_pos (by omega)]
    · by_cases h1 : i % 3 = 1
      · rw [if_neg h0, if_pos h1, if_neg (by omega), if_pos (by omega)]
      · rw [if_neg h0, if_neg h1, if_pos (by omega)]
  · rw [if_neg h, if_neg (by omega : ¬ i = k * 3 + 2), if_neg (by omega : ¬ i = k * 3 + 1), if_neg (by omega : ¬ i = k * 3)]
def kpF (rb gb n : Nat) (d f last : Int) (i : Nat) : Value :=
  if i = 0 then .int .i64 d else if i = 1 then .int .i64 f else if i = 2 then .slice (some ⟨rb, 0, none⟩) n n else if i = 3 then .slice (some ⟨gb, 0, none⟩) n n else .int .i64 last
/-- A keeper lies at the head of block b, its readings in block rb, what it has heard in block hb. -/
structure KeepAt (w : World) (b rb gb n : Nat) (d f last : Int) (R : Nat → Rd) (H : Nat → Bool) : Prop where
  r0 : w.rowIs b 93 5 (kpF rb gb n d f last)
  r1 : w.rowIs rb 72 (n * 3) (rdF R)
  r2 : w.rowIs gb 4 n (fun i => .bool (H i))
  ne1 : b ≠ rb
  ne2 : b ≠ gb
  ne3 : rb ≠ gb
/-- Of what was there nothing but three blocks has turned. -/
structure Touch3 (b c g : Nat) (w w' : World) : Prop where
  os : w'.os = w.os
  tape : w'.tape = w.tape
  output : w'.output = w.output
  size : w.heap.size ≤ w'.heap.size
  block : ∀ k, k < w.heap.size → k ≠ b → k ≠ c → k ≠ g → w'.heap[k]? = w.heap[k]?
theorem Touch3.of_below {b c g : Nat} {w w' : World} (h : Below w.heap.size w w') : Touch3 b c g w w' := ⟨h.os, h.tape, h.output, h.size, fun k hk _ _ _ => h.block k hk⟩
theorem Touch3.alloc {b c g : Nat} {w w' : World} (h : Touch3 b c g w w') (o : Obj) : Touch3 b c g w (w'.alloc o) :=
  ⟨h.os, h.tape, h.output, by have := h.size; simp; omega, fun k hk h1 h2 h3 => (Below.heap_alloc _ _ _ (by have := h.size; omega)).trans (h.block k hk h1 h2 h3)⟩
theorem Touch3.drew {b c g : Nat} {w w' : World} (h : Touch3 b c g w w') : Touch3 b c g w w'.drew := ⟨h.os, h.tape, h.output, h.size, h.block⟩
theorem Touch3.drewN {b c g : Nat} {w w' : World} (h : Touch3 b c g w w') (n : Nat) : Touch3 b c g w (w'.drewN n) := ⟨h.os, h.tape, h.output, h.size, h.block⟩
theorem Touch3.setCell {b c g : Nat} {w w' : World} (h : Touch3 b c g w w') {p : Addr} (hp : p.block = b ∨ p.block = c ∨ p.block = g ∨ w.heap.size ≤ p.block) (u : Value) : Touch3 b c g w (w'.setCell p u) :=
  ⟨h.os, h.tape, h.output, by have := h.size; simpa using this, fun k hk h1 h2 h3 => (Below.heap_setCell _ _ _ _ (by rcases hp with hp | hp | hp | hp <;> omega)).trans (h.block k hk h1 h2 h3)⟩
theorem Touch3.call {b c g : Nat} {w w1 w2 : World} (h : Touch3 b c g w w1) (hb : Below w1.heap.size w1 w2) : Touch3 b c g w w2 :=
  ⟨hb.os.trans h.os, hb.tape.trans h.tape, hb.output.trans h.output, Nat.le_trans h.size hb.size, fun k hk h1 h2 h3 => (hb.block k (by have := h.size; omega)).trans (h.block k hk h1 h2 h3)⟩
theorem Touch3.below {B b c g : Nat} {a w w' : World} (h : Below B a w) (hb : B ≤ b) (hc : B ≤ c) (hg : B ≤ g) (hs : B ≤ w.heap.size) (ht : Touch3 b c g w w') : Below B a w' :=
  h.trans ⟨ht.os, ht.tape, ht.output, ht.size, fun k hk => ht.block k (by omega) (by omega) (by omega) (by omega)⟩
theorem Touch3.below' {b c g : Nat} {w0 w w' : World} (h : Below w0.heap.size w0 w) (hb : w0.heap.size ≤ b) (hc : w0.heap.size ≤ c) (hg : w0.heap.size ≤ g) (ht : Touch3 b c g w w') : Below w0.heap.size w0 w' :=
  Touch3.below h hb hc hg h.size ht
theorem rowIs_belK {w w' : World} {b : Nat} {t : TypeId} {n : Nat} {f : Nat → Value} (h : w.rowIs b t n f) (hb : Below w.heap.size w w') : w'.rowIs b t n f := h.of_block (hb.block b h.lt)
theorem rowIs_drewN {w : World} {b : Nat} {t : TypeId} {n : Nat} {f : Nat → Value} (h : w.rowIs b t n f) (k : Nat) : (w.drewN k).rowIs b t n f := h
theorem rowIs_other {w : World} {b c o : Nat} {t : TypeId} {n : Nat} {f : Nat → Value} (h : w.rowIs b t n f) (hne : b ≠ c) (v : Value) : (w.setCell ⟨c, o, none⟩ v).rowIs b t n f := h.setOther hne v
theorem KeepAt.below {w w' : World} {b rb gb n : Nat} {d f last : Int} {R : Nat → Rd} {H : Nat → Bool} (h : KeepAt w b rb gb n d f last R H) (hw : Below w.heap.size w w') : KeepAt w' b rb gb n d f last R H :=
  ⟨rowIs_belK h.r0 hw, rowIs_belK h.r1 hw, rowIs_belK h.r2 hw, h.ne1, h.ne2, h.ne3⟩
theorem c_feed_num (b rb gb n : Nat) (d f last : Int) (R : Nat → Rd) (H : Nat → Bool) (k tk lo hi : Int) (w : World) (hK : KeepAt w b rb gb n d f last R H) (hn : n ≤ 40) (hk : k < 0 ∨ (n : Int) ≤ k) :
    Calls Try.prog 41 #[.pointer (some ⟨b, 0, none⟩), .int .i64 k, .agg #[.int .i64 tk, .int .i64 lo, .int .i64 hi]] w fun e w' => e = .returned (.int .i64 1) ∧ Below w.heap.size w w' := by
  have c2 := hK.r0.cell (i := 2) (by omega)
  have hlt := hK.r0.lt
  simp only [kpF] at c2
  have n0 : ¬ b = w.heap.size := by omega
  have n2 : ¬ w.heap.size = b := by omega
  rcases hk with hk | hk
  all_goals
    have hgen := sgen; have hgen2 := sgen2; have hgen3 := sgen3; go_enter Try.func41, Try.ntmps41
    go_wp2_with fail
    go_ret
    refine ⟨rfl, ?_⟩
    (repeat' (first | (with_reducible exact Below.refl _ _) | (with_reducible assumption) | (with_reducible refine Below.call ?_ ?_ (by with_reducible assumption)) | (with_reducible refine Below.alloc ?_ ?_ _) | (with_reducible refine Below.drew ?_) | (with_reducible refine below_drewN ?_ _) | (with_reducible refine Below.setCell ?_ ?_ _) | (with_reducible exact Nat.le_refl _) | omega | (simp only [World.size_alloc, World.size_setCell, World.size_drew, World.heap_drewN] at *; omega)))
theorem c_feed_bad (b rb gb n : Nat) (d f last : Int) (R : Nat → Rd) (H : Nat → Bool) (k tk lo hi : Int) (w : World) (hK : KeepAt w b rb gb n d f last R H) (hn : n ≤ 40) (h1 : 0 ≤ k) (h2 : k < (n : Int)) (hr : readErr tk lo hi ≠ 0) :
    Calls Try.prog 41 #[.pointer (some ⟨b, 0, none⟩), .int .i64 k, .agg #[.int .i64 tk, .int .i64 lo, .int .i64 hi]] w fun e w' => e = .returned (.int .i64 (readErr tk lo hi)) ∧ Below w.heap.size w w' := by
  have c2 := hK.r0.cell (i := 2) (by omega)
  have hlt := hK.r0.lt
  simp only [kpF] at c2
  have n0 : ¬ b = w.heap.size := by omega
  have n2 : ¬ w.heap.size = b := by omega
  have x1 : (readErr tk lo hi != 0) = true := by simp [hr]
  have hgen := sgen; have hgen2 := sgen2; have hgen3 := sgen3; go_enter Try.func41, Try.ntmps41
  go_wp2_with (go_at_call 59; (refine (c_srcCheck _ _ _ _).mono ?_); rintro e w1 ⟨rfl, hb⟩; have hz := hb.size; (try simp only [World.size_alloc, World.size_setCell, World.size_drew, World.heap_drewN] at hz); (try have h_w_0 : w.heap.size < w1.heap.size := by omega); (try have e_w_0 : ¬ w.heap.size = w1.heap.size := by omega); (try have d_w_0 : ¬ w1.heap.size = w.heap.size := by omega); (try (refine bcUse (n := w.heap.size) hb ?_ ?_; (focus ((try simp only [World.size_alloc, World.size_setCell, World.size_drew, World.heap_drewN]); omega)); intro _ _)); (try have h_bb_0 : b < w1.heap.size := by omega); (try have e_bb_0 : ¬ b = w1.heap.size := by omega); (try have d_bb_0 : ¬ w1.heap.size = b := by omega); (try (refine bcUse (n := b) hb ?_ ?_; (focus ((try simp only [World.size_alloc, World.size_setCell, World.size_drew, World.heap_drewN]); omega)); intro _ _)))
  go_ret
  refine ⟨rfl, ?_⟩
  (repeat' (first | (with_reducible exact Below.refl _ _) | (with_reducible assumption) | (with_reducible refine Below.call ?_ ?_ (by with_reducible assumption)) | (with_reducible refine Below.alloc ?_ ?_ _) | (with_reducible refine Below.drew ?_) | (with_reducible refine below_drewN ?_ _) | (with_reducible refine Below.setCell ?_ ?_ _) | (with_reducible exact Nat.le_refl _) | omega | (simp only [World.size_alloc, World.size_setCell, World.size_drew, World.heap_drewN] at *; omega)))
theorem c_feed_order (b rb gb n : Nat) (d f last : Int) (R : Nat → Rd) (H : Nat → Bool) (k tk lo hi : Int) (w : World) (hK : KeepAt w b rb gb n d f last R H) (hn : n ≤ 40) (h1 : 0 ≤ k) (h2 : k < (n : Int)) (hr : readErr tk lo hi = 0) (hl : tk < last) :
    Calls Try.prog 41 #[.pointer (some ⟨b, 0, none⟩), .int .i64 k, .agg #[.int .i64 tk, .int .i64 lo, .int .i64 hi]] w fun e w' => e = .returned (.int .i64 9) ∧ Below w.heap.size w w' := by
  have c2 := hK.r0.cell (i := 2) (by omega)
  have c4 := hK.r0.cell (i := 4) (by omega)
  have hlt := hK.r0.lt
  simp only [kpF] at c2 c4
  have n0 : ¬ b = w.heap.size := by omega
  have n2 : ¬ w.heap.size = b := by omega
  have x1 : (readErr tk lo hi != 0) = false := by simp [hr]
  have HR := Lib.hid hr
  clear hr
  have hgen := sgen; have hgen2 := sgen2; have hgen3 := sgen3; go_enter Try.func41, Try.ntmps41
  go_wp2_with (go_at_call 59; (refine (c_srcCheck _ _ _ _).mono ?_); rintro e w1 ⟨rfl, hb⟩; have hz := hb.size; (try simp only [World.size_alloc, World.size_setCell, World.size_drew, World.heap_drewN] at hz); (try have h_w_0 : w.heap.size < w1.heap.size := by omega); (try have e_w_0 : ¬ w.heap.size = w1.heap.size := by omega); (try have d_w_0 : ¬ w1.heap.size = w.heap.size := by omega); (try (refine bcUse (n := w.heap.size) hb ?_ ?_; (focus ((try simp only [World.size_alloc, World.size_setCell, World.size_drew, World.heap_drewN]); omega)); intro _ _)); (try have h_bb_0 : b < w1.heap.size := by omega); (try have e_bb_0 : ¬ b = w1.heap.size := by omega); (try have d_bb_0 : ¬ w1.heap.size = b := by omega); (try (refine bcUse (n := b) hb ?_ ?_; (focus ((try simp only [World.size_alloc, World.size_setCell, World.size_drew, World.heap_drewN]); omega)); intro _ _)))
  go_quiet (fail)
  go_wp2_with fail
  go_ret
  refine ⟨rfl, ?_⟩
  (repeat' (first | (with_reducible exact Below.refl _ _) | (with_reducible assumption) | (with_reducible refine Below.call ?_ ?_ (by with_reducible assumption)) | (with_reducible refine Below.alloc ?_ ?_ _) | (with_reducible refine Below.drew ?_) | (with_reducible refine below_drewN ?_ _) | (with_reducible refine Below.setCell ?_ ?_ _) | (with_reducible exact Nat.le_refl _) | omega | (simp only [World.size_alloc, World.size_setCell, World.size_drew, World.heap_drewN] at *; omega)))
end Go.Proofs.Ytdpddidfdifbhaa
