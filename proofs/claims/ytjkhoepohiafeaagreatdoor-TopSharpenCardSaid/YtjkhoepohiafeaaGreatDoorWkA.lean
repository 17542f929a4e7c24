/- Contracts of the checks of intervals and times. No condition. What the walks know of a slice of api.SeriesTerm that came in. Where element k of a slice of api.SeriesTerm lies. Intervals and sums that lie in blocks of the call's own. Contracts of whole.Div, Down and Mod at a positive divisor. Contracts of the reference's Mul, Mod and SinCos. Contracts of the reference's Part and Arg. -/
import Derived.Test.YtjkhoepohiafeaaGreatDoorProg
import Derived.Test.YtjkhoepohiafeaaGreatDoorPlA
import Derived.WalkKit
import Derived.Deep.Draws
import Derived.WalkSmall
import Derived.Lib.Hide
import Derived.Below
import Derived.RegionTactic
import Derived.Deep.QuietTactic
import Derived.BigQuiet
import Derived.Test.YtjkhoepohiafeaaGreatDoorFltD
import Derived.Laws.BitsLemmas
import Derived.Deep.LoopGhost
set_option linter.unusedVariables false
set_option linter.unusedSimpArgs false
namespace Go.Proofs.YtjkhoepohiafeaaGreatDoor
section
open Go.RowKit

theorem ret_int {k : IntKind} {a b : Int} (h : a = b) : Ending.returned (.int k a) = .returned (.int k b) := by rw [h]
theorem ret_bool {a b : Bool} (h : a = b) : Ending.returned (.bool a) = .returned (.bool b) := by rw [h]
theorem bcell {W w1 : World} (hb : Below W.heap.size W w1) : (∀ b o, b < W.heap.size → w1.cell? ⟨b, o, none⟩ = W.cell? ⟨b, o, none⟩) ∧ (∀ b o, b < W.heap.size → w1.frozen? ⟨b, o, none⟩ = W.frozen? ⟨b, o, none⟩) :=
  ⟨fun b o h => hb.cell (p := ⟨b, o, none⟩) h, fun b o h => hb.frozen (p := ⟨b, o, none⟩) h⟩
theorem Below.call {B : Nat} {a W w1 : World} (h : Below B a W) (hB : B ≤ W.heap.size) (hb : Below W.heap.size W w1) : Below B a w1 := h.trans (hb.mono hB)
theorem blt {W w1 : World} (hb : Below W.heap.size W w1) : ∀ n, n < W.heap.size → n < w1.heap.size := fun n h => Nat.lt_of_lt_of_le h hb.size
theorem sgen : ∀ (w : World) (k n : Nat), n < w.heap.size → n < w.heap.size + k := fun w k n h => by omega

theorem sgen2 : ∀ (w : World) (n : Nat), n < w.heap.size → n ≤ w.heap.size := fun w n h => by omega

theorem sgen3 : ∀ (w : World) (a b : Addr) (v : Value), ((w.setCell a v).cell? b).isSome = (w.cell? b).isSome := by
  intro w a b v
  by_cases h : a = b
  · subst h
    cases hc : w.cell? a with
    | none =>
      have : (w.setCell a v).cell? a = none := by
        unfold World.cell? World.setCell at *
        simp only [Array.getElem?_modify, if_true]
        cases hb : w.heap[a.block]? with
        | none => simp [hb]
        | some o => cases o <;> simp_all <;> (split <;> simp_all)
      rw [this]
    | some u => rw [World.cell?_setCell_same (h := hc)]; rfl
  · rw [World.cell?_setCell_other (h := h)]
theorem bc {W w1 : World} {n : Nat} (hb : Below W.heap.size W w1) (h : n < W.heap.size) : (∀ o, w1.cell? ⟨n, o, none⟩ = W.cell? ⟨n, o, none⟩) ∧ (∀ o, w1.frozen? ⟨n, o, none⟩ = W.frozen? ⟨n, o, none⟩) :=
  ⟨fun o => hb.cell (p := ⟨n, o, none⟩) h, fun o => hb.frozen (p := ⟨n, o, none⟩) h⟩

theorem szA {w : World} {o : Obj} : (w.alloc o).heap.size = w.heap.size + 1 := World.size_alloc _ _
theorem szS {w : World} {a : Addr} {v : Value} : (w.setCell a v).heap.size = w.heap.size := World.size_setCell _ _ _
theorem szD {w : World} : w.drew.heap.size = w.heap.size := rfl
theorem szN {w : World} {n : Nat} : (w.drewN n).heap = w.heap := rfl
theorem bcA {W w1 : World} {n : Nat} {G : Prop} (hb : Below W.heap.size W w1) (h : n < W.heap.size) (k : n < w1.heap.size → ¬ n = w1.heap.size → ¬ w1.heap.size = n → (∀ o, w1.cell? ⟨n, o, none⟩ = W.cell? ⟨n, o, none⟩) → (∀ o, w1.frozen? ⟨n, o, none⟩ = W.frozen? ⟨n, o, none⟩) → G) : G :=
  k (Nat.lt_of_lt_of_le h hb.size) (Nat.ne_of_lt (Nat.lt_of_lt_of_le h hb.size)) (Nat.ne_of_gt (Nat.lt_of_lt_of_le h hb.size)) (bc hb h).1 (bc hb h).2

/-- A goal of a block's bound or of what is below it, closed by itself. -/
theorem belz {P : Prop} (h : P := by (repeat' (first | (with_reducible (first | exact Below.refl _ _ | assumption | refine Below.call ?_ ?_ (by assumption) | refine Below.alloc ?_ ?_ _ | refine Below.drew ?_ | refine below_drewN ?_ _ | refine Below.setCell ?_ ?_ _ | exact Nat.le_refl _)) | omega | (simp only [szA, szS, szD, szN] at *; omega)))) : P := h
theorem bcB {W w1 : World} {n : Nat} {G : Prop} (hb : Below W.heap.size W w1) (k : n < w1.heap.size → ¬ n = w1.heap.size → ¬ w1.heap.size = n → (∀ o, w1.cell? ⟨n, o, none⟩ = W.cell? ⟨n, o, none⟩) → (∀ o, w1.frozen? ⟨n, o, none⟩ = W.frozen? ⟨n, o, none⟩) → G) (h : n < W.heap.size := by ((try simp only [szA, szS, szD, szN]); omega)) : G := bcA hb h k
theorem bcUse {W w1 : World} {n : Nat} {G : Prop} (hb : Below W.heap.size W w1) (h : n < W.heap.size) (k : (∀ o, w1.cell? ⟨n, o, none⟩ = W.cell? ⟨n, o, none⟩) → (∀ o, w1.frozen? ⟨n, o, none⟩ = W.frozen? ⟨n, o, none⟩) → G) : G :=
  k (bc hb h).1 (bc hb h).2

theorem c_intervalCheck (lo hi : Int) (w : World) : Calls Tryz.prog 59 #[.agg #[.int .i64 lo, .int .i64 hi]] w fun e w' => e = .returned (.int .i64 (spanErr lo hi)) ∧ Below w.heap.size w w' := by
  have i0 : ∀ w, (Instr.index 60 (.agg #[.int .i64 lo, .int .i64 hi]) (.int .i64 0)).run Tryz.prog w = .ok (.int .i64 lo) w := fun _ => by kernel_rfl
  have i1 : ∀ w, (Instr.index 60 (.agg #[.int .i64 lo, .int .i64 hi]) (.int .i64 1)).run Tryz.prog w = .ok (.int .i64 hi) w := fun _ => by kernel_rfl
  go_enter Tryz.func59, Tryz.ntmps59
  go_wp2
  refine wp_loop_rounds 3 ?_; repeat any_goals (rw [rounds_succ]; go_wp2)
  all_goals go_ret
  all_goals exact ⟨ret_int (by unfold spanErr; (repeat' split) <;> first | rfl | omega), (Below.refl _ _).alloc (Nat.le_refl _) _⟩
end
section
open Go.RowKit
def TmSlice (w : World) (a : Option Addr) (l : List Tm) : Prop := ∀ k (h : k < l.length), ∃ b off, a = some ⟨b, off, none⟩ ∧ b < w.heap.size ∧ w.cell? ⟨b, off + k * 3, none⟩ = some (.int .i64 l[k].amp) ∧ w.cell? ⟨b, off + k * 3 + 1, none⟩ = some (.int .i64 l[k].ph) ∧ w.cell? ⟨b, off + k * 3 + 2, none⟩ = some (.int .i64 l[k].rt)
theorem TmSlice.below {B : Nat} {w w' : World} {a : Option Addr} {l : List Tm} (h : TmSlice w a l) (hs : w.heap.size ≤ B) (hb : Below B w w') : TmSlice w' a l := by
  intro k hk
  obtain ⟨b, off, h1, h2, c0, c1, c2⟩ := h k hk
  exact ⟨b, off, h1, Nat.lt_of_lt_of_le h2 hb.size, (hb.cell (p := ⟨b, _, none⟩) (Nat.lt_of_lt_of_le h2 hs)).trans c0, (hb.cell (p := ⟨b, _, none⟩) (Nat.lt_of_lt_of_le h2 hs)).trans c1, (hb.cell (p := ⟨b, _, none⟩) (Nat.lt_of_lt_of_le h2 hs)).trans c2⟩
end
section
open Go.RowKit
theorem ix_Tm {a : Option Addr} {b off len cap k : Nat} (ha : a = some ⟨b, off, none⟩) (hk : k < len) : ∀ w, (Instr.indexAt 50 (.slice a len cap) (.int .i64 k)).run Tryz.prog w = .ok (.pointer (some ⟨b, off + k * 3, none⟩)) w := by
  intro w
  subst ha
  have h1 : (k : Int) < (len : Int) := by omega
  go_simp
end
section
open Go.RowKit
structure SpAt (w : World) (b : Nat) (lo hi : Int) : Prop where
  lt : b < w.heap.size
  c0 : w.cell? ⟨b, 0, none⟩ = some (.int .i64 lo)
  c1 : w.cell? ⟨b, 1, none⟩ = some (.int .i64 hi)
  f0 : w.frozen? ⟨b, 0, none⟩ = false
  f1 : w.frozen? ⟨b, 1, none⟩ = false
theorem SpAt.below {w w' : World} {b : Nat} {lo hi : Int} (h : SpAt w b lo hi) (hb : Below w.heap.size w w') : SpAt w' b lo hi := by
  obtain ⟨h0, h1, h2, h3, h4⟩ := h
  exact ⟨Nat.lt_of_lt_of_le h0 hb.size, (hb.cell h0).trans h1, (hb.cell h0).trans h2, (hb.frozen h0).trans h3, (hb.frozen h0).trans h4⟩
theorem SpAt.set {w : World} {b : Nat} {lo hi : Int} (h : SpAt w b lo hi) (lo' hi' : Int) : SpAt ((w.setCell ⟨b, 0, none⟩ (.int .i64 lo')).setCell ⟨b, 1, none⟩ (.int .i64 hi')) b lo' hi' := by
  obtain ⟨h0, h1, h2, h3, h4⟩ := h
  constructor <;> go_simp
theorem SpAt.setOther {w : World} {b c : Nat} {lo hi : Int} (h : SpAt w b lo hi) (hbc : b ≠ c) (u v : Value) : SpAt ((w.setCell ⟨c, 0, none⟩ u).setCell ⟨c, 1, none⟩ v) b lo hi := by
  obtain ⟨h0, h1, h2, h3, h4⟩ := h
  constructor <;> go_simp
theorem SpAt.setOther1 {w : World} {b c : Nat} {lo hi : Int} (h : SpAt w b lo hi) (hbc : b ≠ c) (v : Value) : SpAt (w.setCell ⟨c, 1, none⟩ v) b lo hi := by
  obtain ⟨h0, h1, h2, h3, h4⟩ := h
  constructor <;> go_simp
theorem SpAt.set1 {w : World} {b : Nat} {lo hi : Int} (h : SpAt w b lo hi) (hi' : Int) : SpAt (w.setCell ⟨b, 1, none⟩ (.int .i64 hi')) b lo hi' := by
  obtain ⟨h0, h1, h2, h3, h4⟩ := h
  constructor <;> go_simp
/-- A sum of terms in a block of the call's own. -/
structure SumAt (w : World) (b : Nat) (m r : Int) (a : Option Addr) (len cap : Nat) (s : Int) : Prop where
  lt : b < w.heap.size
  c0 : w.cell? ⟨b, 0, none⟩ = some (.int .i64 m)
  c1 : w.cell? ⟨b, 1, none⟩ = some (.int .i64 r)
  c2 : w.cell? ⟨b, 2, none⟩ = some (.slice a len cap)
  c3 : w.cell? ⟨b, 3, none⟩ = some (.int .i64 s)
theorem SumAt.below {w w' : World} {b : Nat} {m r : Int} {a : Option Addr} {len cap : Nat} {s : Int} (h : SumAt w b m r a len cap s) (hb : Below w.heap.size w w') : SumAt w' b m r a len cap s :=
  ⟨Nat.lt_of_lt_of_le h.lt hb.size, (hb.cell (p := ⟨b, _, none⟩) h.lt).trans h.c0, (hb.cell (p := ⟨b, _, none⟩) h.lt).trans h.c1, (hb.cell (p := ⟨b, _, none⟩) h.lt).trans h.c2, (hb.cell (p := ⟨b, _, none⟩) h.lt).trans h.c3⟩
theorem SumAt.belowAt {w w' : World} {b B : Nat} {m r : Int} {a : Option Addr} {len cap : Nat} {s : Int} (h : SumAt w b m r a len cap s) (hB : b < B) (hb : Below B w w') : SumAt w' b m r a len cap s :=
  ⟨Nat.lt_of_lt_of_le h.lt hb.size, (hb.cell (p := ⟨b, _, none⟩) hB).trans h.c0, (hb.cell (p := ⟨b, _, none⟩) hB).trans h.c1, (hb.cell (p := ⟨b, _, none⟩) hB).trans h.c2, (hb.cell (p := ⟨b, _, none⟩) hB).trans h.c3⟩
end
section
open Go.RowKit
theorem ret_int3 {a b c a' b' c' : Int} (h1 : a = a') (h2 : b = b') (h3 : c = c') : Ending.returned (.tuple #[.int .i64 a, .int .i64 b, .int .i64 c]) = .returned (.tuple #[.int .i64 a', .int .i64 b', .int .i64 c']) := by rw [h1, h2, h3]
theorem ediv_bd (a b : Int) (hb : 0 < b) (ha1 : -9223372036854775808 ≤ a) (ha2 : a ≤ 9223372036854775807) : -9223372036854775808 ≤ a / b ∧ a / b ≤ 9223372036854775807 ∧ 0 ≤ a % b ∧ a % b < b := by
  have h1 := Int.emod_add_mul_ediv a b
  have h3 := Int.emod_nonneg a (show b ≠ 0 by omega)
  have h4 := Int.emod_lt_of_pos a hb
  refine ⟨?_, ?_, h3, h4⟩
  · rw [Int.le_ediv_iff_mul_le hb]
    have : -9223372036854775808 * b ≤ -9223372036854775808 * 1 := by omega
    omega
  · have : a / b ≤ if 0 ≤ a then a else 0 := by
      split
      · exact Int.ediv_le_self b (by assumption)
      · have := Int.ediv_neg_of_neg_of_pos (show a < 0 by omega) hb; omega
    split at this <;> omega
theorem w64 {x : Int} (h1 : -9223372036854775808 ≤ x) (h2 : x ≤ 9223372036854775807) : wrap64 x = x := IntWalk.wrap64_in x ⟨h1, h2⟩
theorem c_div (a b : Int) (w : World) (hb : 0 < b) (ha1 : -9223372036854775808 ≤ a) (ha2 : a ≤ 9223372036854775807) (hb2 : b ≤ 9223372036854775807) :
    Calls Tryz.prog 50 #[.int .i64 a, .int .i64 b] w fun e w' => e = .returned (.tuple #[.int .i64 (a / b), .int .i64 (a % b), .int .i64 0]) ∧ ∃ n, w' = w.drewN n := by
  have b0 : (b == 0) = false := by simp; omega
  have b1 : (b == -1) = false := by simp; omega
  obtain ⟨d1, d2, d3, d4⟩ := ediv_bd a b hb ha1 ha2
  have u1 := w64 d1 d2
  have u2 : wrap64 (a % b) = a % b := w64 (by omega) (by omega)
  by_cases h : 0 ≤ a
  · obtain ⟨t1, t2⟩ := tdiv_pos a b hb h
    have a0 : (a == -9223372036854775808) = false := by simp; omega
    have b4 : decide (b < 0) = false := by simp; omega
    have b5 : decide (a % b < 0) = false := by simp; omega
    have hgen := sgen; have hgen2 := sgen2; have hgen3 := sgen3; go_enter Tryz.func50, Tryz.ntmps50
    go_wp2
    go_quiet (fail)
    go_wp2
    all_goals go_ret3
    all_goals exact ⟨ret_int3 (by first | rfl | exact u1) (by first | rfl | exact u2 | omega) rfl, _, rfl⟩
  · have h := Int.not_le.1 h
    obtain ⟨t1, t2⟩ := tdiv_neg a b hb h
    have b4 : decide (b < 0) = false := by simp; omega
    by_cases ha : (a == -9223372036854775808) = true
    all_goals
      have hgen := sgen; have hgen2 := sgen2; have hgen3 := sgen3; go_enter Tryz.func50, Tryz.ntmps50
      go_wp2
      go_quiet (fail)
      go_wp2
      all_goals go_ret3
      all_goals exact ⟨ret_int3 (by first | rfl | exact u1 | omega) (by first | rfl | exact u2 | omega) rfl, _, rfl⟩
theorem c_down (a b : Int) (w : World) (hb : 0 < b) (ha1 : -9223372036854775808 ≤ a) (ha2 : a ≤ 9223372036854775807) (hb2 : b ≤ 9223372036854775807) :
    Calls Tryz.prog 37 #[.int .i64 a, .int .i64 b] w fun e w' => e = .returned (.int .i64 (a / b)) ∧ ∃ n, w' = w.drewN n := by
  have hgen := sgen; have hgen2 := sgen2; have hgen3 := sgen3; go_enter Tryz.func37, Tryz.ntmps37
  go_wp2_with (go_at_call 50; refine (c_div a b _ hb ha1 ha2 hb2).mono ?_; rintro e w' ⟨rfl, n, rfl⟩)
  go_ret
  exact ⟨rfl, _, rfl⟩
theorem c_mod (a b : Int) (w : World) (hb : 0 < b) (ha1 : -9223372036854775808 ≤ a) (ha2 : a ≤ 9223372036854775807) (hb2 : b ≤ 9223372036854775807) :
    Calls Tryz.prog 36 #[.int .i64 a, .int .i64 b] w fun e w' => e = .returned (.int .i64 (a % b)) ∧ ∃ n, w' = w.drewN n := by
  have hgen := sgen; have hgen2 := sgen2; have hgen3 := sgen3; go_enter Tryz.func36, Tryz.ntmps36
  go_wp2_with (go_at_call 50; refine (c_div a b _ hb ha1 ha2 hb2).mono ?_; rintro e w' ⟨rfl, n, rfl⟩)
  go_ret
  exact ⟨rfl, _, rfl⟩
end
section
open Go.RowKit
theorem wraps_i64 (n : Int) (h₀ : 0 ≤ n) (h₁ : n < 2 ^ 63) : IntKind.i64.wrap n = n := by rw [IntKind.wrap_i64]; omega
theorem and30 {x : Int} (h₀ : 0 ≤ x) (h₁ : x < 9223372036854775808) : bits .and .i64 x 1073741823 = x % 1073741824 := bits_mask .i64 63 (by decide) wraps_i64 30 (by decide) x h₀ h₁
theorem ret_int2 {a b a' b' : Int} (h1 : a = a') (h2 : b = b') : Ending.returned (.tuple #[.int .i64 a, .int .i64 b]) = .returned (.tuple #[.int .i64 a', .int .i64 b']) := by rw [h1, h2]
end
section
open Go.RowKit
theorem and1 {x : Int} (h₀ : 0 ≤ x) (h₁ : x < 9223372036854775808) : bits .and .i64 x 1 = x % 2 := bits_mask .i64 63 (by decide) wraps_i64 1 (by decide) x h₀ h₁
theorem and1_le (x : Int) : 0 ≤ x % 2 ∧ x % 2 ≤ 1 := by omega
end
end Go.Proofs.YtjkhoepohiafeaaGreatDoor
