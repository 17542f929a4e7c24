/- Contracts of the checks of intervals and times. No condition. What the walks know of a slice of api.SeriesTerm that came in. Where element k of a slice of api.SeriesTerm lies. Intervals and sums that lie in blocks of the call's own. Contracts of whole.Div, Down and Mod at a positive divisor. Contracts of the reference's Mul, Mod and SinCos. Contracts of the reference's Part and Arg. -/
import Derived.Test.YtcgnhnmigmdalaaGreatDoorProg
import Derived.Test.YtcgnhnmigmdalaaGreatDoorPlA
import Derived.WalkKit
import Derived.Deep.Draws
import Derived.WalkSmall
import Derived.Lib.Hide
import Derived.Below
import Derived.RegionTactic
import Derived.Deep.QuietTactic
import Derived.BigQuiet
import Derived.Test.YtcgnhnmigmdalaaGreatDoorFltD
import Derived.Laws.BitsLemmas
import Derived.Deep.LoopGhost
set_option linter.unusedVariables false
set_option linter.unusedSimpArgs false
namespace Go.Proofs.YtcgnhnmigmdalaaGreatDoor
section
open Go.RowKit

theorem ret_int {k : IntKind} {a b : Int} (h : a = b) : Ending.returned (.int k a) = .returned (.int k b) := by rw [h]
theorem ret_bool {a b : Bool} (h : a = b) : Ending.returned (.bool a) = .returned (.bool b) := by rw [h]
theorem bcell {W w1 : World} (hb : Below W.heap.size W w1) : (∀ b o, b < W.heap.size → w1.cell? ⟨b, o, none⟩ = W.cell? ⟨b, o, none⟩) ∧ (∀ b o, b < W.heap.size → w1.frozen? ⟨b, o, none⟩ = W.frozen? ⟨b, o, none⟩) :=
  ⟨fun b o h => hb.cell (p := ⟨b, o, none⟩) h, fun b o h => hb.frozen (p := ⟨b, o, none⟩) h⟩
theorem Below.call {B : Nat} {a W w1 : World} (h : Below B a W) (hB : B ≤ W.heap.size) (hb : Below W.heap.size W w1) : Below B a w1 := h.trans (hb.mono hB)
theorem blt {W w1 : World} (hb : Below W.heap.size W w1) : ∀ n, n < W.heap.size → n < w1.heap.size := fun n h => Nat.lt_of_lt_of_le h hb.size
theorem sgen : ∀ (w : World) (k n : Nat), n < w.heap.size → n < w.heap.size + k := fun w k n h => by omega

theorem sgen2 : ∀ (w : World) (n : Nat), n < w.heap.size → n ≤ w.heap.size := fun w n h => by omega

theorem sgen3 : ∀ (w : World) (a b : Addr) (v : Value), ((w.setCell a v).cell? b).isSome = (w.cell? b).isSome := by
  intro w a b v
  by_cases h : a = b
  · subst h
    cases hc : w.cell? a with
    | none =>
      have : (w.setCell a v).cell? a = none := by
        unfold World.cell? World.setCell at *
        simp only [Array.getElem?_modify, if_true]
        cases hb : w.heap[a.block]? with
        | none => simp [hb]
        | some o => cases o <;> simp_all <;> (split <;> simp_all)
      rw [this]
    | some u => rw [World.cell?_setCell_same (h := hc)]; rfl
  · rw [World.cell?_setCell_other (h := h)]
theorem bc {W w1 : World} {n : Nat} (hb : Below W.heap.size W w1) (h : n < W.heap.size) : (∀ o, w1.cell? ⟨n, o, none⟩ = W.cell? ⟨n, o, none⟩) ∧ (∀ o, w1.frozen? ⟨n, o, none⟩ = W.frozen? ⟨n, o, none⟩) :=
  ⟨fun o => hb.cell (p := ⟨n, o, none⟩) h, fun o => hb.frozen (p := ⟨n, o, none⟩) h⟩

theorem szA {w : World} {o : Obj} : (w.alloc o).heap.size = w.heap.size + 1 := World.size_alloc _ _
theorem szS {w : World} {a : Addr} {v : Value} : (w.setCell a v).heap.size = w.heap.size := World.size_setCell _ _ _
theorem szD {w : World} : w.drew.heap.size = w.heap.size := rfl
theorem szN {w : World} {n : Nat} : (w.drewN n).heap = w.heap := rfl
theorem bcA {W w1 : World} {n : Nat} {G : Prop} (hb : Below W.heap.size W w1) (h : n < W.heap.size) (k : n < w1.heap.size → ¬ n = w1.heap.size → ¬ w1.heap.size = n → (∀ o, w1.cell? ⟨n, o, none⟩ = W.cell? ⟨n, o, none⟩) → (∀ o, w1.frozen? ⟨n, o, none⟩ = W.frozen? ⟨n, o, none⟩) → G) : G :=
  k (Nat.lt_of_lt_of_le h hb.size) (Nat.ne_of_lt (Nat.lt_of_lt_of_le h hb.size)) (Nat.ne_of_gt (Nat.lt_of_lt_of_le h hb.size)) (bc hb h).1 (bc hb h).2

/-- A goal of a block's bound or of what is below it, closed by itself. -/
theorem belz {P : Prop} (h : P := by (repeat' (first | (with_reducible (first | exact Below.refl _ _ | assumption | refine Below.call ?_ ?_ (by assumption) | refine Below.alloc ?_ ?_ _ | refine Below.drew ?_ | refine below_drewN ?_ _ | refine Below.setCell ?_ ?_ _ | exact Nat.le_refl _)) | omega | (simp only [szA, szS, szD, szN] at *; omega)))) : P := h
theorem bcB {W w1 : World} {n : Nat} {G : Prop} (hb : Below W.heap.size W w1) (k : n < w1.heap.size → ¬ n = w1.heap.size → ¬ w1.heap.size = n → (∀ o, w1.cell? ⟨n, o, none⟩ = W.cell? ⟨n, o, none⟩) → (∀ o, w1.frozen? ⟨n, o, none⟩ = W.frozen? ⟨n, o, none⟩) → G) (h : n < W.heap.size := by ((try simp only [szA, szS, szD, szN]); omega)) : G := bcA hb h k
theorem bcUse {W w1 : World} {n : Nat} {G : Prop} (hb : Below W.heap.size W w1) (h : n < W.heap.size) (k : (∀ o, w1.cell? ⟨n, o, none⟩ = W.cell? ⟨n, o, none⟩) → (∀ o, w1.frozen? ⟨n, o, none⟩ = W.frozen? ⟨n, o, none⟩) → G) : G :=
  k (bc hb h).1 (bc hb h).2

theorem c_intervalCheck (lo hi : Int) (w : World) : Calls Tryz.prog 87 #[.agg #[.int .i64 lo, .int .i64 hi]] w fun e w' => e = .returned (.int .i64 (spanErr lo hi)) ∧ Below w.heap.size w w' := by
  have i0 : ∀ w, (Instr.index 100 (.agg #[.int .i64 lo, .int .i64 hi]) (.int .i64 0)).run Tryz.prog w = .ok (.int .i64 lo) w := fun _ => by kernel_rfl
  have i1 : ∀ w, (Instr.index 100 (.agg #[.int .i64 lo, .int .i64 hi]) (.int .i64 1)).run Tryz.prog w = .ok (.int .i64 hi) w := fun _ => by kernel_rfl
  go_enter Tryz.func87, Tryz.ntmps87
  go_wp2
  refine wp_loop_rounds 3 ?_; repeat any_goals (rw [rounds_succ]; go_wp2)
  all_goals go_ret
  all_goals exact ⟨ret_int (by unfold spanErr; (repeat' split) <;> first | rfl | omega), (Below.refl _ _).alloc (Nat.le_refl _) _⟩
end
section
open Go.RowKit
def TmSlice (w : World) (a : Option Addr) (l : List Tm) : Prop := ∀ k (h : k < l.length), ∃ b off, a = some ⟨b, off, none⟩ ∧ b < w.heap.size ∧ w.cell? ⟨b, off + k * 3, none⟩ = some (.int .i64 l[k].amp) ∧ w.cell? ⟨b, off + k * 3 + 1, none⟩ = some (.int .i64 l[k].ph) ∧ w.cell? ⟨b, off + k * 3 + 2, none⟩ = some (.int .i64 l[k].rt)
theorem TmSlice.below {B : Nat} {w w' : World} {a : Option Addr} {l : List Tm} (h : TmSlice w a l) (hs : w.heap.size ≤ B) (hb : Below B w w') : TmSlice w' a l := by
  intro k hk
  obtain ⟨b, off, h1, h2, c0, c1, c2⟩ := h k hk
  exact ⟨b, off, h1, Nat.lt_of_lt_of_le h2 hb.size, (hb.cell (p := ⟨b, _, none⟩) (Nat.lt_of_lt_of_le h2 hs)).trans c0, (hb.cell (p := ⟨b, _, none⟩) (Nat.lt_of_lt_of_le h2 hs)).trans c1, (hb.cell (p := ⟨b, _, none⟩) (Nat.lt_of_lt_of_le h2 hs)).trans c2⟩
end
section
open Go.RowKit
theorem ix_Tm {a : Option Addr} {b off len cap k : Nat} (ha : a = some ⟨b, off, none⟩) (hk : k < len) : ∀ w, (Instr.indexAt 84 (.slice a len cap) (.int .i64 k)).run Tryz.prog w = .ok (.pointer (some ⟨b, off + k * 3, none⟩)) w := by
  intro w
  subst ha
  have h1 : (k : Int) < (len : Int) := by omega
  go_simp
end
section
open Go.RowKit
structure SpAt (w : World) (b : Nat) (lo hi : Int) : Prop where
  lt : b < w.heap.size
  c0 : w.cell? ⟨b, 0, none⟩ = some (.int .i64 lo)
  c1 : w.cell? ⟨b, 1, none⟩ = some (.int .i64 hi)
  f0 : w.frozen? ⟨b, 0, none⟩ = false
  f1 : w.frozen? ⟨b, 1, none⟩ = false
theorem SpAt.below {w w' : World} {b : Nat} {lo hi : Int} (h : SpAt w b lo hi) (hb : Below w.heap.size w w') : SpAt w' b lo hi := by
  obtain ⟨h0, h1, h2, h3, h4⟩ := h
  exact ⟨Nat.lt_of_lt_of_le h0 hb.size, (hb.cell h0).trans h1, (hb.cell h0).trans h2, (hb.frozen h0).trans h3, (hb.frozen h0).trans h4⟩
theorem SpAt.set {w : World} {b : Nat} {lo hi : Int} (h : SpAt w b lo hi) (lo' hi' : Int) : SpAt ((w.setCell ⟨b, 0, none⟩ (.int .i64 lo')).setCell ⟨b, 1, none⟩ (.int .i64 hi')) b lo' hi' := by
  obtain ⟨h0, h1, h2, h3, h4⟩ := h
  constructor <;> go_simp
theorem SpAt.setOther {w : World} {b c : Nat} {lo hi : Int} (h : SpAt w b lo hi) (hbc : b ≠ c) (u v : Value) : SpAt ((w.setCell ⟨c, 0, none⟩ u).setCell ⟨c, 1, none⟩ v) b lo hi := by
  obtain ⟨h0, h1, h2, h3, h4⟩ := h
  constructor <;> go_simp
theorem SpAt.setOther1 {w : World} {b c : Nat} {lo hi : Int} (h : SpAt w b lo hi) (hbc : b ≠ c) (v : Value) : SpAt (w.setCell ⟨c, 1, none⟩ v) b lo hi := by
  obtain ⟨h0, h1, h2, h3, h4⟩ := h
  constructor <;> go_simp
theorem SpAt.set1 {w : World} {b : Nat} {lo hi : Int} (h : SpAt w b lo hi) (hi' : Int) : SpAt (w.setCell ⟨b, 1, none⟩ (.int .i64 hi')) b lo hi' := by
  obtain ⟨h0, h1, h2, h3, h4⟩ := h
  constructor <;> go_simp
/-- A sum of terms in a block of the call's own. -/
structure SumAt (w : World) (b : Nat) (m r : Int) (a : Option Addr) (len cap : Nat) (s : Int) : Prop where
  lt : b < w.heap.size
  c0 : w.cell? ⟨b, 0, none⟩ = some (.int .i64 m)
  c1 : w.cell? ⟨b, 1, none⟩ = some (.int .i64 r)
  c2 : w.cell? ⟨b, 2, none⟩ = some (.slice a len cap)
  c3 : w.cell? ⟨b, 3, none⟩ = some (.int .i64 s)
theorem SumAt.below {w w' : World} {b : Nat} {m r : Int} {a : Option Addr} {len cap : Nat} {s : Int} (h : SumAt w b m r a len cap s) (hb : Below w.heap.size w w') : SumAt w' b m r a len cap s :=
  ⟨Nat.lt_of_lt_of_le h.lt hb.size, (hb.cell (p := ⟨b, _, none⟩) h.lt).trans h.c0, (hb.cell (p := ⟨b, _, none⟩) h.lt).trans h.c1, (hb.cell (p := ⟨b, _, none⟩) h.lt).trans h.c2, (hb.cell (p := ⟨b, _, none⟩) h.lt).trans h.c3⟩
theorem SumAt.belowAt {w w' : World} {b B : Nat} {m r : Int} {a : Option Addr} {len cap : Nat} {s : Int} (h : SumAt w b m r a len cap s) (hB : b < B) (hb : Below B w w') : SumAt w' b m r a len cap s :=
  ⟨Nat.lt_of_lt_of_le h.lt hb.size, (hb.cell (p := ⟨b, _, none⟩) hB).trans h.c0, (hb.cell (p := ⟨b, _, none⟩) hB).trans h.c1, (hb.cell (p := ⟨b, _, none⟩) hB).trans h.c2, (hb.cell (p := ⟨b, _, none⟩) hB).trans h.c3⟩
end
section
open Go.RowKit
theorem ret_int3 {a b c a' b' c' : Int} (h1 : a = a') (h2 : b = b') (h3 : c = c') : Ending.returned (.tuple #[.int .i64 a, .int .i64 b, .int .i64 c]) = .returned (.tuple #[.int .i64 a', .int .i64 b', .int .i64 c']) := by rw [h1, h2, h3]
theorem ediv_bd (a b : Int) (hb : 0 < b) (ha1 : -9223372036854775808 ≤ a) (ha2 : a ≤ 9223372036854775807) : -9223372036854775808 ≤ a / b ∧ a / b ≤ 9223372036854775807 ∧ 0 ≤ a % b ∧ a % b < b := by
  have h1 := Int.emod_add_mul_ediv a b
  have h3 := Int.emod_nonneg a (show b ≠ 0 by omega)
  have h4 := Int.emod_lt_of_pos a hb
  refine ⟨?_, ?_, h3, h4⟩
  · rw [Int.le_ediv_iff_mul_le hb]
    have : -9223372036854775808 * b ≤ -9223372036854775808 * 1 := by omega
    omega
  · have : a / b ≤ if 0 ≤ a then a else 0 := by
      split
      · exact Int.ediv_le_self b (by assumption)
      · have := Int.ediv_neg_of_neg_of_pos (show a < 0 by omega) hb; omega
    split at this <;> omega
theorem w64 {x : Int} (h1 : -9223372036854775808 ≤ x) (h2 : x ≤ 9223372036854775807) : wrap64 x = x := IntWalk.wrap64_in x ⟨h1, h2⟩
theorem c_div (a b : Int) (w : World) (hb : 0 < b) (ha1 : -9223372036854775808 ≤ a) (ha2 : a ≤ 9223372036854775807) (hb2 : b ≤ 9223372036854775807) :
    Calls Tryz.prog 107 #[.int .i64 a, .int .i64 b] w fun e w' => e = .returned (.tuple #[.int .i64 (a / b), .int .i64 (a % b), .int .i64 0]) ∧ ∃ n, w' = w.drewN n := by
  have b0 : (b == 0) = false := by simp; omega
  have b1 : (b == -1) = false := by simp; omega
  obtain ⟨d1, d2, d3, d4⟩ := ediv_bd a b hb ha1 ha2
  have u1 := w64 d1 d2
  have u2 : wrap64 (a % b) = a % b := w64 (by omega) (by omega)
  by_cases h : 0 ≤ a
  · obtain ⟨t1, t2⟩ := tdiv_pos a b hb h
    have a0 : (a == -9223372036854775808) = false := by simp; omega
    have b4 : decide (b < 0) = false := by simp; omega
    have b5 : decide (a % b < 0) = false := by simp; omega
    have hgen := sgen; have hgen2 := sgen2; have hgen3 := sgen3; go_enter Tryz.func107, Tryz.ntmps107
    go_wp2
    go_quiet (fail)
    go_wp2
    all_goals go_ret3
    all_goals exact ⟨ret_int3 (by first | rfl | exact u1) (by first | rfl | exact u2 | omega) rfl, _, rfl⟩
  · have h := Int.not_le.1 h
    obtain ⟨t1, t2⟩ := tdiv_neg a b hb h
    have b4 : decide (b < 0) = false := by simp; omega
    by_cases ha : (a == -9223372036854775808) = true
    all_goals
      have hgen := sgen; have hgen2 := sgen2; have hgen3 := sgen3; go_enter Tryz.func107, Tryz.ntmps107
      go_wp2
      go_quiet (fail)
      go_wp2
      all_goals go_ret3
      all_goals exact ⟨ret_int3 (by first | rfl | exact u1 | omega) (by first | rfl | exact u2 | omega) rfl, _, rfl⟩
theorem c_down (a b : Int) (w : World) (hb : 0 < b) (ha1 : -9223372036854775808 ≤ a) (ha2 : a ≤ 9223372036854775807) (hb2 : b ≤ 9223372036854775807) :
    Calls Tryz.prog 75 #[.int .i64 a, .int .i64 b] w fun e w' => e = .returned (.int .i64 (a / b)) ∧ ∃ n, w' = w.drewN n := by
  have hgen := sgen; have hgen2 := sgen2; have hgen3 := sgen3; go_enter Tryz.func75, Tryz.ntmps75
  go_wp2_with (go_at_call 107; refine (c_div a b _ hb ha1 ha2 hb2).mono ?_; rintro e w' ⟨rfl, n, rfl⟩)
  go_ret
  exact ⟨rfl, _, rfl⟩
theorem c_mod (a b : Int) (w : World) (hb : 0 < b) (ha1 : -9223372036854775808 ≤ a) (ha2 : a ≤ 9223372036854775807) (hb2 : b ≤ 9223372036854775807) :
    Calls Tryz.prog 102 #[.int .i64 a, .int .i64 b] w fun e w' => e = .returned (.int .i64 (a % b)) ∧ ∃ n, w' = w.drewN n := by
  have hgen := sgen; have hgen2 := sgen2; have hgen3 := sgen3; go_enter Tryz.func102, Tryz.ntmps102
  go_wp2_with (go_at_call 107; refine (c_div a b _ hb ha1 ha2 hb2).mono ?_; rintro e w' ⟨rfl, n, rfl⟩)
  go_ret
  exact ⟨rfl, _, rfl⟩
end
section
open Go.RowKit
theorem wraps_i64 (n : Int) (h₀ : 0 ≤ n) (h₁ : n < 2 ^ 63) : IntKind.i64.wrap n = n := by rw [IntKind.wrap_i64]; omega
theorem and30 {x : Int} (h₀ : 0 ≤ x) (h₁ : x < 9223372036854775808) : bits .and .i64 x 1073741823 = x % 1073741824 := bits_mask .i64 63 (by decide) wraps_i64 30 (by decide) x h₀ h₁
theorem ret_int2 {a b a' b' : Int} (h1 : a = a') (h2 : b = b') : Ending.returned (.tuple #[.int .i64 a, .int .i64 b]) = .returned (.tuple #[.int .i64 a', .int .i64 b']) := by rw [h1, h2]
set_option maxHeartbeats 1000000 in
theorem c_fMul (a b : Int) (w : World) (a1 : -2305843009213693952 ≤ a) (a2 : a ≤ 2305843009213693952) (b1 : -2305843009213693952 ≤ b) (b2 : b ≤ 2305843009213693952) :
    Calls Tryz.prog 31 #[.int .i64 a, .int .i64 b] w fun e w' => e = .returned (.int .i64 (fm a b)) ∧ w = w' := by
  have key : ∀ p q : Int, 0 ≤ p → p ≤ 2305843009213693952 → 0 ≤ q → q ≤ 2305843009213693952 → ∀ a b : Int, (a < 0 ∧ p = -a ∨ 0 ≤ a ∧ p = a) → (b < 0 ∧ q = -b ∨ 0 ≤ b ∧ q = b) → fm a b = (if a < 0 then -1 else 1) * (if b < 0 then -1 else 1) * fm p q := by
    intro p q _ _ _ _ a b ha hb
    rcases ha with ⟨h1, rfl⟩ | ⟨h1, rfl⟩ <;> rcases hb with ⟨h2, rfl⟩ | ⟨h2, rfl⟩
    · rw [if_pos h1, if_pos h2, fm_neg_l, fm_neg_r]; omega
    · rw [if_pos h1, if_neg (by omega), fm_neg_l]; omega
    · rw [if_neg (by omega), if_pos h2, fm_neg_r]; omega
    · rw [if_neg (by omega), if_neg (by omega)]; omega
  have core : ∀ p q : Int, 0 ≤ p → p ≤ 2305843009213693952 → 0 ≤ q → q ≤ 2305843009213693952 → ∀ a b : Int, -2305843009213693952 ≤ a → a ≤ 2305843009213693952 → -2305843009213693952 ≤ b → b ≤ 2305843009213693952 → (a < 0 ∧ p = -a ∨ 0 ≤ a ∧ p = a) → (b < 0 ∧ q = -b ∨ 0 ≤ b ∧ q = b) → Calls Tryz.prog 31 #[.int .i64 a, .int .i64 b] w fun e w' => e = .returned (.int .i64 (fm a b)) ∧ w = w' := by
    intro p q p0 p1 q0 q1 a b a1 a2 b1 b2 ha hb
    have hk := key p q p0 p1 q0 q1 a b ha hb
    obtain ⟨⟨f1, f2, f3, f4, f5, f6, f7, f8⟩, ⟨g1, g2⟩, ⟨g3, g4⟩, ⟨g5, g6⟩, ⟨g7, g8⟩, he⟩ := fm_parts p0 p1 q0 q1
    have ap := and30 p0 (by omega)
    have aq := and30 q0 (by omega)
    have HE := Lib.hid (show _ = fm p q from he)
    have HK := Lib.hid hk
    clear he hk key
    rcases ha with ⟨h1, rfl⟩ | ⟨h1, rfl⟩ <;> rcases hb with ⟨h2, rfl⟩ | ⟨h2, rfl⟩
    all_goals
      have hgen := sgen; have hgen2 := sgen2; have hgen3 := sgen3; go_enter Tryz.func31, Tryz.ntmps31
      go_wp2
      go_ret
      exact ⟨ret_int (by rw [HK.out, ← HE.out]; (repeat (first | rw [if_pos (by omega)] | rw [if_neg (by omega)])); omega), rfl⟩
  clear key
  rcases (show a < 0 ∨ 0 ≤ a by omega) with ha | ha <;> rcases (show b < 0 ∨ 0 ≤ b by omega) with hb | hb
  · exact core (-a) (-b) (by omega) (by omega) (by omega) (by omega) a b a1 a2 b1 b2 (.inl ⟨ha, rfl⟩) (.inl ⟨hb, rfl⟩)
  · exact core (-a) b (by omega) (by omega) (by omega) (by omega) a b a1 a2 b1 b2 (.inl ⟨ha, rfl⟩) (.inr ⟨hb, rfl⟩)
  · exact core a (-b) (by omega) (by omega) (by omega) (by omega) a b a1 a2 b1 b2 (.inr ⟨ha, rfl⟩) (.inl ⟨hb, rfl⟩)
  · exact core a b (by omega) (by omega) (by omega) (by omega) a b a1 a2 b1 b2 (.inr ⟨ha, rfl⟩) (.inr ⟨hb, rfl⟩)
theorem c_rMod (a m : Int) (w : World) (hm : 0 < m) (hm2 : m ≤ 4611686018427387904) (a1 : -9223372036854775808 ≤ a) (a2 : a ≤ 9223372036854775807) :
    Calls Tryz.prog 33 #[.int .i64 a, .int .i64 m] w fun e w' => e = .returned (.int .i64 (a % m)) ∧ w = w' := by
  have b0 : (m == 0) = false := by simp; omega
  have hnn := Int.emod_nonneg a (show m ≠ 0 by omega)
  have hlt := Int.emod_lt_of_pos a hm
  have ht : a.tmod m = if 0 ≤ a ∨ a % m = 0 then a % m else a % m - m := by
    rw [Int.tmod_eq_emod]
    have hd : m ∣ a ↔ a % m = 0 := Int.dvd_iff_emod_eq_zero
    by_cases q : 0 ≤ a ∨ a % m = 0
    · rw [if_pos q, if_pos (by rwa [hd])]; simp
    · rw [if_neg q, if_neg (by rwa [hd])]; omega
  by_cases h : 0 ≤ a ∨ a % m = 0
  · rw [if_pos h] at ht
    generalize a % m = r at *
    have HT := Lib.hid ht
    have hlo : 0 ≤ a.tmod m := by rw [HT.out]; exact hnn
    have hhi : a.tmod m < m := by rw [HT.out]; exact hlt
    clear ht h hnn hlt
    have hgen := sgen; have hgen2 := sgen2; have hgen3 := sgen3; go_enter Tryz.func33, Tryz.ntmps33
    go_wp2
    go_ret
    exact ⟨ret_int HT.out, rfl⟩
  · rw [if_neg h] at ht
    generalize a % m = r at *
    have r0 : r ≠ 0 := fun q => h (.inr q)
    have HT := Lib.hid ht
    have hlo : a.tmod m < 0 := by rw [HT.out]; omega
    have hhi : -m < a.tmod m := by rw [HT.out]; omega
    clear ht h hnn hlt r0
    have hgen := sgen; have hgen2 := sgen2; have hgen3 := sgen3; go_enter Tryz.func33, Tryz.ntmps33
    go_wp2
    go_ret
    exact ⟨ret_int (by rw [HT.out]; omega), rfl⟩
set_option maxHeartbeats 2000000 in
theorem c_SinCos (a : Int) (w : World) (a1 : -9223372036854775808 ≤ a) (a2 : a ≤ 9223372036854775807) :
    Calls Tryz.prog 34 #[.int .i64 a] w fun e w' => e = .returned (.tuple #[.int .i64 (sc (a % 1000000000000000)).1, .int .i64 (sc (a % 1000000000000000)).2]) ∧ w = w' := by
  have HM := Lib.hid (fun w1 => c_rMod a 1000000000000000 w1 (by omega) (by omega) a1 a2)
  have m0 := Int.emod_nonneg a (show (1000000000000000 : Int) ≠ 0 by omega)
  have m1 := Int.emod_lt_of_pos a (show (0 : Int) < 1000000000000000 by omega)
  generalize a % 1000000000000000 = arg at *
  obtain ⟨x0, x1, x2, x3, x4, x5, x6, x7⟩ := scX_bd m0 (by omega)
  have hxe : scX arg = (arg * 7244 + arg / 1000000 * 19458077 / 1000) / 4096 := rfl
  obtain ⟨⟨q1, q2⟩, ⟨q3, q4⟩, ⟨q5, q6⟩, q7, q8⟩ := scStart_bd x0 x1
  have HB := Lib.hid (fun k hk => sc_bd m0 (show arg ≤ 1000000000000000 by omega) k hk)
  have HS : Hid (scStart (scX arg) = (scX arg - (fm (scX arg) (fm (scX arg) (scX arg))).tdiv 6 + (fm (fm (scX arg) (fm (scX arg) (scX arg))) (fm (scX arg) (scX arg))).tdiv 120, (fm (scX arg) (scX arg)).tdiv 2 - (fm (fm (scX arg) (scX arg)) (fm (scX arg) (scX arg))).tdiv 24)) := Lib.hid rfl
  have HE : Hid (sc arg = ((scIter 12 (scStart (scX arg))).1, U60 - (scIter 12 (scStart (scX arg))).2)) := Lib.hid rfl
  rw [hxe] at *
  clear hxe
  generalize hx : (arg * 7244 + arg / 1000000 * 19458077 / 1000) / 4096 = x at *
  have t1 := Int.tdiv_eq_ediv_of_nonneg (b := 6) q3
  have t2 := Int.tdiv_eq_ediv_of_nonneg (b := 120) q5
  have t3 := Int.tdiv_eq_ediv_of_nonneg (b := 2) q1
  have t4 := Int.tdiv_eq_ediv_of_nonneg (b := 24) q7
  rw [t1, t2, t3, t4] at HS
  clear t1 t2 t3 t4
  have hgen := sgen; have hgen2 := sgen2; have hgen3 := sgen3; go_enter Tryz.func34, Tryz.ntmps34
  go_wp2_with (first | (go_at_call 33; refine (HM.out _).mono ?_; rintro e w' ⟨rfl, rfl⟩) | (go_at_call 31; (with_reducible refine (c_fMul _ _ _ (by omega) (by omega) (by omega) (by omega)).mono ?_); rintro e w' ⟨rfl, rfl⟩))
  go_loopg [6, 7, 41] 12 (fun gk s v i wr => ∃ k : Nat, gk + k = 12 ∧ i = .int .i64 k ∧ s = .int .i64 (scIter k (scStart x)).1 ∧ v = .int .i64 (scIter k (scStart x)).2 ∧ wr = w)
  case atStart => exact ⟨0, by omega, rfl, (by show _ = Value.int .i64 (scStart x).1; rw [HS.out]), (by show _ = Value.int .i64 (scStart x).2; rw [HS.out]), rfl⟩
  case round =>
    obtain ⟨k, hk, rfl, rfl, rfl, rfl⟩ := hrel
    clear HS
    by_cases hlt : k < 12
    · obtain ⟨b1, b2, b3, b4⟩ := HB.out k (by omega)
      have HN := Lib.hid (scIter_succ k (scStart x))
      generalize scIter k (scStart x) = p at *
      have e1 := fm_le (a := p.1) (b := 1152921504606846976 - p.2) (A := 1153000000000000000) (B := 1153000000000000000) (by omega) (by omega) (by omega) (by omega) 1154000000000000000 (by decide)
      have e2 := fm_le (a := p.1) (b := p.1) (A := 1153000000000000000) (B := 1153000000000000000) (by omega) (by omega) (by omega) (by omega) 1154000000000000000 (by decide)
      have e3 := e1.1
      have e4 := e1.2
      have e5 := e2.1
      have e6 := e2.2
      clear e1 e2
      go_wp2_with (go_at_call 31; (with_reducible refine (c_fMul _ _ _ (by omega) (by omega) (by omega) (by omega)).mono ?_); rintro e w' ⟨rfl, rfl⟩)
      go_roundg (12 - (k + 1))
      case measure => omega
      case rel => exact ⟨k + 1, by omega, by go_num, by rw [HN.out]; rfl, by rw [HN.out]; rfl, rfl⟩
    · obtain rfl : k = 12 := by omega
      obtain ⟨b1, b2, b3, b4⟩ := HB.out 12 (by omega)
      go_wp2
      go_ret2
      exact ⟨ret_int2 (by rw [HE.out]) (by rw [HE.out]; rfl), rfl⟩
end
section
open Go.RowKit
theorem c_Part (a v : Int) (w : World) (a1 : -1000000000 ≤ a) (a2 : a ≤ 1000000000) (v1 : -1200000000000000000 ≤ v) (v2 : v ≤ 1200000000000000000) :
    Calls Tryz.prog 53 #[.int .i64 a, .int .i64 v] w fun e w' => e = .returned (.int .i64 (prt a v)) ∧ w = w' := by
  rcases (show v < 0 ∨ 0 ≤ v by omega) with h | h
  · obtain ⟨⟨f1, f2, f3, f4⟩, ⟨g1, g2⟩, ⟨g3, g4⟩, he, g5, g6⟩ := prt_parts (v := -v) a1 a2 (by omega) (by omega)
    have av := and30 (show 0 ≤ -v by omega) (by omega)
    have HE := Lib.hid (show prt a v = -(a * -v / 1099511627776) by unfold prt; rw [if_pos h])
    have HF := Lib.hid he
    rw [← HF.out] at g5 g6
    clear he
    have hgen := sgen; have hgen2 := sgen2; have hgen3 := sgen3; go_enter Tryz.func53, Tryz.ntmps53
    go_wp2
    go_ret
    exact ⟨ret_int (by rw [HE.out, ← HF.out]), rfl⟩
  · obtain ⟨⟨f1, f2, f3, f4⟩, ⟨g1, g2⟩, ⟨g3, g4⟩, he, g5, g6⟩ := prt_parts (v := v) a1 a2 (by omega) (by omega)
    have av := and30 (show 0 ≤ v by omega) (by omega)
    have HE := Lib.hid (show prt a v = (a * v / 1099511627776) by unfold prt; rw [if_neg (by omega)])
    have HF := Lib.hid he
    rw [← HF.out] at g5 g6
    clear he
    have hgen := sgen; have hgen2 := sgen2; have hgen3 := sgen3; go_enter Tryz.func53, Tryz.ntmps53
    go_wp2
    go_ret
    exact ⟨ret_int (by rw [HE.out, ← HF.out]), rfl⟩
theorem and1 {x : Int} (h₀ : 0 ≤ x) (h₁ : x < 9223372036854775808) : bits .and .i64 x 1 = x % 2 := bits_mask .i64 63 (by decide) wraps_i64 1 (by decide) x h₀ h₁
theorem and1_le (x : Int) : 0 ≤ x % 2 ∧ x % 2 ≤ 1 := by omega
set_option maxHeartbeats 4000000 in
theorem arg_core (rate inst R I : Int) (w : World) (hR : (rate < 0 ∧ R = -rate) ∨ (0 ≤ rate ∧ R = rate)) (hI : (inst < 0 ∧ I = -inst) ∨ (0 ≤ inst ∧ I = inst)) (r2 : R ≤ 1000000000000000000) (i2 : I < 2251799813685248) :
    Calls Tryz.prog 71 #[.int .i64 rate, .int .i64 inst] w fun e w' => e = .returned (.int .i64 (argV rate inst)) ∧ w = w' := by
  have r0 : 0 ≤ R := by omega
  have i0 : 0 ≤ I := by omega
  have HE := fun q r h => @arg_end rate inst R I q r hR hI h
  have HS := Lib.hid (@arg_start R I i0 i2)
  rcases hR with ⟨h1, hR⟩ | ⟨h1, hR⟩ <;> rcases hI with ⟨h2, hI⟩ | ⟨h2, hI⟩
  · have d1 : decide (rate < 0) = true := decide_eq_true h1
    have d2 : decide (inst < 0) = true := decide_eq_true h2
    have HZ := Lib.hid (fun q r h => (HE q r h).1 (by rw [d1, d2]))
    clear HE
    have hR1 := hR.symm; have hI1 := hI.symm; clear hR hI; subst hR1 hI1
    have d3 : (((true : Bool) != true) : Bool) = false := rfl
    have hgen := sgen; have hgen2 := sgen2; have hgen3 := sgen3; go_enter Tryz.func71, Tryz.ntmps71
    go_wp2
    go_loopg [6, 7, 8] 51 (fun gk s6 s7 i wr => ∃ m : Nat, ∃ q r : Int, gk = m ∧ m ≤ 51 ∧ i = .int .i64 ((m : Int) - 1) ∧ s6 = .int .i64 q ∧ s7 = .int .i64 r ∧ ArgAt (-rate) (-inst) m q r ∧ wr = w)
    case atStart => exact ⟨51, 0, 0, rfl, by omega, rfl, rfl, rfl, HS.out, rfl⟩
    case round =>
      clear HS
      obtain ⟨m, q, r, rfl, hm, rfl, rfl, rfl, hat, rfl⟩ := hrel
      obtain ⟨q0, q1, r0', r1'⟩ := hat.bd
      rcases gk with _ | b
      · have hz := HZ.out q r hat
        clear hat
        have HF := Lib.hid hz
        clear hz
        rw [show (((0 : Nat) : Int) - 1) = -1 from rfl]
        go_wp2_with (go_at_call 33; (with_reducible refine (c_rMod _ _ _ (by omega) (by omega) (by omega) (by omega)).mono ?_); rintro e w' ⟨rfl, rfl⟩)
        go_ret
        exact ⟨ret_int HF.out, rfl⟩
      · rw [show (((b + 1 : Nat) : Int) - 1) = (b : Int) by omega]
        have st := hat.step
        have p0 : 0 ≤ (-inst) / 2 ^ b := Int.ediv_nonneg (by omega) (Int.pow_nonneg (by omega))
        have p1 : (-inst) / 2 ^ b ≤ (-inst) := Int.ediv_le_self _ (by omega)
        have pm : min b 64 = b := by omega
        have pb := and1 p0 (by omega)
        rcases (show (-inst) / 2 ^ b % 2 = 1 ∨ (-inst) / 2 ^ b % 2 = 0 by omega) with hb | hb
        · have HF := Lib.hid (st.1 hb)
          rw [hb] at pb
          clear st hat hb
          go_wp2
          go_roundg b
          case measure => omega
          case rel => exact ⟨b, _, _, rfl, by omega, rfl, rfl, rfl, HF.out, rfl⟩
        · have HF := Lib.hid (st.2 hb)
          rw [hb] at pb
          clear st hat hb
          go_wp2
          go_roundg b
          case measure => omega
          case rel => exact ⟨b, _, _, rfl, by omega, rfl, rfl, rfl, HF.out, rfl⟩
  · have d1 : decide (rate < 0) = true := decide_eq_true h1
    have d2 : decide (inst < 0) = false := decide_eq_false (by omega)
    have HZ := Lib.hid (fun q r h => (HE q r h).2 (by rw [d1, d2]; decide))
    clear HE
    have hR1 := hR.symm; have hI1 := hI.symm; clear hR hI; subst hR1 hI1
    have d3 : (((true : Bool) != false) : Bool) = true := rfl
    have hgen := sgen; have hgen2 := sgen2; have hgen3 := sgen3; go_enter Tryz.func71, Tryz.ntmps71
    go_wp2
    go_loopg [6, 7, 8] 51 (fun gk s6 s7 i wr => ∃ m : Nat, ∃ q r : Int, gk = m ∧ m ≤ 51 ∧ i = .int .i64 ((m : Int) - 1) ∧ s6 = .int .i64 q ∧ s7 = .int .i64 r ∧ ArgAt (-rate) inst m q r ∧ wr = w)
    case atStart => exact ⟨51, 0, 0, rfl, by omega, rfl, rfl, rfl, HS.out, rfl⟩
    case round =>
      clear HS
      obtain ⟨m, q, r, rfl, hm, rfl, rfl, rfl, hat, rfl⟩ := hrel
      obtain ⟨q0, q1, r0', r1'⟩ := hat.bd
      rcases gk with _ | b
      · have hz := HZ.out q r hat
        clear hat
        rw [show (((0 : Nat) : Int) - 1) = -1 from rfl]
        by_cases hr : 0 < r
        · have HF := Lib.hid (hz.1 hr)
          clear hz
          go_wp2_with (go_at_call 33; (with_reducible refine (c_rMod _ _ _ (by omega) (by omega) (by omega) (by omega)).mono ?_); rintro e w' ⟨rfl, rfl⟩)
          go_ret
          exact ⟨ret_int HF.out, rfl⟩
        · have HF := Lib.hid (hz.2 (by omega))
          clear hz
          go_wp2_with (go_at_call 33; (with_reducible refine (c_rMod _ _ _ (by omega) (by omega) (by omega) (by omega)).mono ?_); rintro e w' ⟨rfl, rfl⟩)
          go_ret
          exact ⟨ret_int HF.out, rfl⟩
      · rw [show (((b + 1 : Nat) : Int) - 1) = (b : Int) by omega]
        have st := hat.step
        have p0 : 0 ≤ inst / 2 ^ b := Int.ediv_nonneg (by omega) (Int.pow_nonneg (by omega))
        have p1 : inst / 2 ^ b ≤ inst := Int.ediv_le_self _ (by omega)
        have pm : min b 64 = b := by omega
        have pb := and1 p0 (by omega)
        rcases (show inst / 2 ^ b % 2 = 1 ∨ inst / 2 ^ b % 2 = 0 by omega) with hb | hb
        · have HF := Lib.hid (st.1 hb)
          rw [hb] at pb
          clear st hat hb
          go_wp2
          go_roundg b
          case measure => omega
          case rel => exact ⟨b, _, _, rfl, by omega, rfl, rfl, rfl, HF.out, rfl⟩
        · have HF := Lib.hid (st.2 hb)
          rw [hb] at pb
          clear st hat hb
          go_wp2
          go_roundg b
          case measure => omega
          case rel => exact ⟨b, _, _, rfl, by omega, rfl, rfl, rfl, HF.out, rfl⟩
  · have d1 : decide (rate < 0) = false := decide_eq_false (by omega)
    have d2 : decide (inst < 0) = true := decide_eq_true h2
    have HZ := Lib.hid (fun q r h => (HE q r h).2 (by rw [d1, d2]; decide))
    clear HE
    have hR1 := hR.symm; have hI1 := hI.symm; clear hR hI; subst hR1 hI1
    have d3 : (((false : Bool) != true) : Bool) = true := rfl
    have hgen := sgen; have hgen2 := sgen2; have hgen3 := sgen3; go_enter Tryz.func71, Tryz.ntmps71
    go_wp2
    go_loopg [6, 7, 8] 51 (fun gk s6 s7 i wr => ∃ m : Nat, ∃ q r : Int, gk = m ∧ m ≤ 51 ∧ i = .int .i64 ((m : Int) - 1) ∧ s6 = .int .i64 q ∧ s7 = .int .i64 r ∧ ArgAt rate (-inst) m q r ∧ wr = w)
    case atStart => exact ⟨51, 0, 0, rfl, by omega, rfl, rfl, rfl, HS.out, rfl⟩
    case round =>
      clear HS
      obtain ⟨m, q, r, rfl, hm, rfl, rfl, rfl, hat, rfl⟩ := hrel
      obtain ⟨q0, q1, r0', r1'⟩ := hat.bd
      rcases gk with _ | b
      · have hz := HZ.out q r hat
        clear hat
        rw [show (((0 : Nat) : Int) - 1) = -1 from rfl]
        by_cases hr : 0 < r
        · have HF := Lib.hid (hz.1 hr)
          clear hz
          go_wp2_with (go_at_call 33; (with_reducible refine (c_rMod _ _ _ (by omega) (by omega) (by omega) (by omega)).mono ?_); rintro e w' ⟨rfl, rfl⟩)
          go_ret
          exact ⟨ret_int HF.out, rfl⟩
        · have HF := Lib.hid (hz.2 (by omega))
          clear hz
          go_wp2_with (go_at_call 33; (with_reducible refine (c_rMod _ _ _ (by omega) (by omega) (by omega) (by omega)).mono ?_); rintro e w' ⟨rfl, rfl⟩)
          go_ret
          exact ⟨ret_int HF.out, rfl⟩
      · rw [show (((b + 1 : Nat) : Int) - 1) = (b : Int) by omega]
        have st := hat.step
        have p0 : 0 ≤ (-inst) / 2 ^ b := Int.ediv_nonneg (by omega) (Int.pow_nonneg (by omega))
        have p1 : (-inst) / 2 ^ b ≤ (-inst) := Int.ediv_le_self _ (by omega)
        have pm : min b 64 = b := by omega
        have pb := and1 p0 (by omega)
        rcases (show (-inst) / 2 ^ b % 2 = 1 ∨ (-inst) / 2 ^ b % 2 = 0 by omega) with hb | hb
        · have HF := Lib.hid (st.1 hb)
          rw [hb] at pb
          clear st hat hb
          go_wp2
          go_roundg b
          case measure => omega
          case rel => exact ⟨b, _, _, rfl, by omega, rfl, rfl, rfl, HF.out, rfl⟩
        · have HF := Lib.hid (st.2 hb)
          rw [hb] at pb
          clear st hat hb
          go_wp2
          go_roundg b
          case measure => omega
          case rel => exact ⟨b, _, _, rfl, by omega, rfl, rfl, rfl, HF.out, rfl⟩
  · have d1 : decide (rate < 0) = false := decide_eq_false (by omega)
    have d2 : decide (inst < 0) = false := decide_eq_false (by omega)
    have HZ := Lib.hid (fun q r h => (HE q r h).1 (by rw [d1, d2]))
    clear HE
    have hR1 := hR.symm; have hI1 := hI.symm; clear hR hI; subst hR1 hI1
    have d3 : (((false : Bool) != false) : Bool) = false := rfl
    have hgen := sgen; have hgen2 := sgen2; have hgen3 := sgen3; go_enter Tryz.func71, Tryz.ntmps71
    go_wp2
    go_loopg [6, 7, 8] 51 (fun gk s6 s7 i wr => ∃ m : Nat, ∃ q r : Int, gk = m ∧ m ≤ 51 ∧ i = .int .i64 ((m : Int) - 1) ∧ s6 = .int .i64 q ∧ s7 = .int .i64 r ∧ ArgAt rate inst m q r ∧ wr = w)
    case atStart => exact ⟨51, 0, 0, rfl, by omega, rfl, rfl, rfl, HS.out, rfl⟩
    case round =>
      clear HS
      obtain ⟨m, q, r, rfl, hm, rfl, rfl, rfl, hat, rfl⟩ := hrel
      obtain ⟨q0, q1, r0', r1'⟩ := hat.bd
      rcases gk with _ | b
      · have hz := HZ.out q r hat
        clear hat
        have HF := Lib.hid hz
        clear hz
        rw [show (((0 : Nat) : Int) - 1) = -1 from rfl]
        go_wp2_with (go_at_call 33; (with_reducible refine (c_rMod _ _ _ (by omega) (by omega) (by omega) (by omega)).mono ?_); rintro e w' ⟨rfl, rfl⟩)
        go_ret
        exact ⟨ret_int HF.out, rfl⟩
      · rw [show (((b + 1 : Nat) : Int) - 1) = (b : Int) by omega]
        have st := hat.step
        have p0 : 0 ≤ inst / 2 ^ b := Int.ediv_nonneg (by omega) (Int.pow_nonneg (by omega))
        have p1 : inst / 2 ^ b ≤ inst := Int.ediv_le_self _ (by omega)
        have pm : min b 64 = b := by omega
        have pb := and1 p0 (by omega)
        rcases (show inst / 2 ^ b % 2 = 1 ∨ inst / 2 ^ b % 2 = 0 by omega) with hb | hb
        · have HF := Lib.hid (st.1 hb)
          rw [hb] at pb
          clear st hat hb
          go_wp2
          go_roundg b
          case measure => omega
          case rel => exact ⟨b, _, _, rfl, by omega, rfl, rfl, rfl, HF.out, rfl⟩
        · have HF := Lib.hid (st.2 hb)
          rw [hb] at pb
          clear st hat hb
          go_wp2
          go_roundg b
          case measure => omega
          case rel => exact ⟨b, _, _, rfl, by omega, rfl, rfl, rfl, HF.out, rfl⟩
theorem c_Arg (rate inst : Int) (w : World) (r1 : -1000000000000000000 ≤ rate) (r2 : rate ≤ 1000000000000000000) (i1 : -2251799813685248 < inst) (i2 : inst < 2251799813685248) :
    Calls Tryz.prog 71 #[.int .i64 rate, .int .i64 inst] w fun e w' => e = .returned (.int .i64 (argV rate inst)) ∧ w = w' := by
  by_cases h1 : rate < 0 <;> by_cases h2 : inst < 0
  · exact arg_core rate inst (-rate) (-inst) w (.inl ⟨h1, rfl⟩) (.inl ⟨h2, rfl⟩) (by omega) (by omega)
  · exact arg_core rate inst (-rate) inst w (.inl ⟨h1, rfl⟩) (.inr ⟨by omega, rfl⟩) (by omega) (by omega)
  · exact arg_core rate inst rate (-inst) w (.inr ⟨by omega, rfl⟩) (.inl ⟨h2, rfl⟩) (by omega) (by omega)
  · exact arg_core rate inst rate inst w (.inr ⟨by omega, rfl⟩) (.inr ⟨by omega, rfl⟩) (by omega) (by omega)
end
end Go.Proofs.YtcgnhnmigmdalaaGreatDoor
