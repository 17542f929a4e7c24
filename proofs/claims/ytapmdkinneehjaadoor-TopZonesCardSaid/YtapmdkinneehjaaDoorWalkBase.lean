/- Contracts of the checks of intervals and times. No condition. -/
import Derived.Test.YtapmdkinneehjaaDoorProg
import Derived.Test.YtapmdkinneehjaaDoorPlain1
import Derived.WalkKit
import Derived.Deep.Draws
import Derived.WalkSmall
import Derived.Lib.Hide
set_option linter.unusedVariables false
set_option linter.unusedSimpArgs false
namespace Go.Proofs.YtapmdkinneehjaaDoor
open Go.RowKit

theorem ret_int {k : IntKind} {a b : Int} (h : a = b) : Ending.returned (.int k a) = .returned (.int k b) := by rw [h]
theorem ret_bool {a b : Bool} (h : a = b) : Ending.returned (.bool a) = .returned (.bool b) := by rw [h]
theorem bcell {W w1 : World} (hb : Below W.heap.size W w1) : (∀ b o, b < W.heap.size → w1.cell? ⟨b, o, none⟩ = W.cell? ⟨b, o, none⟩) ∧ (∀ b o, b < W.heap.size → w1.frozen? ⟨b, o, none⟩ = W.frozen? ⟨b, o, none⟩) :=
  ⟨fun b o h => hb.cell (p := ⟨b, o, none⟩) h, fun b o h => hb.frozen (p := ⟨b, o, none⟩) h⟩
theorem Below.call {B : Nat} {a W w1 : World} (h : Below B a W) (hB : B ≤ W.heap.size) (hb : Below W.heap.size W w1) : Below B a w1 := h.trans (hb.mono hB)
theorem blt {W w1 : World} (hb : Below W.heap.size W w1) : ∀ n, n < W.heap.size → n < w1.heap.size := fun n h => Nat.lt_of_lt_of_le h hb.size
theorem sgen : ∀ (w : World) (k n : Nat), n < w.heap.size → n < w.heap.size + k := fun w k n h => by omega

theorem sgen2 : ∀ (w : World) (n : Nat), n < w.heap.size → n ≤ w.heap.size := fun w n h => by omega

theorem sgen3 : ∀ (w : World) (a b : Addr) (v : Value), ((w.setCell a v).cell? b).isSome = (w.cell? b).isSome := by
  intro w a b v
  by_cases h : a = b
  · subst h
    cases hc : w.cell? a with
    | none =>
      have : (w.setCell a v).cell? a = none := by
        unfold World.cell? World.setCell at *
        simp only [Array.getElem?_modify, if_true]
        cases hb : w.heap[a.block]? with
        | none => simp [hb]
        | some o => cases o <;> simp_all <;> (split <;> simp_all)
      rw [this]
    | some u => rw [World.cell?_setCell_same (h := hc)]; rfl
  · rw [World.cell?_setCell_other (h := h)]
theorem bc {W w1 : World} {n : Nat} (hb : Below W.heap.size W w1) (h : n < W.heap.size) : (∀ o, w1.cell? ⟨n, o, none⟩ = W.cell? ⟨n, o, none⟩) ∧ (∀ o, w1.frozen? ⟨n, o, none⟩ = W.frozen? ⟨n, o, none⟩) :=
  ⟨fun o => hb.cell (p := ⟨n, o, none⟩) h, fun o => hb.frozen (p := ⟨n, o, none⟩) h⟩

theorem szA {w : World} {o : Obj} : (w.alloc o).heap.size = w.heap.size + 1 := World.size_alloc _ _
theorem szS {w : World} {a : Addr} {v : Value} : (w.setCell a v).heap.size = w.heap.size := World.size_setCell _ _ _
theorem szD {w : World} : w.drew.heap.size = w.heap.size := rfl
theorem szN {w : World} {n : Nat} : (w.drewN n).heap = w.heap := rfl
theorem bcA {W w1 : World} {n : Nat} {G : Prop} (hb : Below W.heap.size W w1) (h : n < W.heap.size) (k : n < w1.heap.size → ¬ n = w1.heap.size → ¬ w1.heap.size = n → (∀ o, w1.cell? ⟨n, o, none⟩ = W.cell? ⟨n, o, none⟩) → (∀ o, w1.frozen? ⟨n, o, none⟩ = W.frozen? ⟨n, o, none⟩) → G) : G :=
  k (Nat.lt_of_lt_of_le h hb.size) (Nat.ne_of_lt (Nat.lt_of_lt_of_le h hb.size)) (Nat.ne_of_gt (Nat.lt_of_lt_of_le h hb.size)) (bc hb h).1 (bc hb h).2

/-- A goal of a block's bound or of what is below it, closed by itself. -/
theorem belz {P : Prop} (h : P := by (repeat' (first | (with_reducible (first | exact Below.refl _ _ | assumption | refine Below.call ?_ ?_ (by assumption) | refine Below.alloc ?_ ?_ _ | refine Below.drew ?_ | refine below_drewN ?_ _ | refine Below.setCell ?_ ?_ _ | exact Nat.le_refl _)) | omega | (simp only [szA, szS, szD, szN] at *; omega)))) : P := h
theorem bcB {W w1 : World} {n : Nat} {G : Prop} (hb : Below W.heap.size W w1) (k : n < w1.heap.size → ¬ n = w1.heap.size → ¬ w1.heap.size = n → (∀ o, w1.cell? ⟨n, o, none⟩ = W.cell? ⟨n, o, none⟩) → (∀ o, w1.frozen? ⟨n, o, none⟩ = W.frozen? ⟨n, o, none⟩) → G) (h : n < W.heap.size := by ((try simp only [szA, szS, szD, szN]); omega)) : G := bcA hb h k
theorem bcUse {W w1 : World} {n : Nat} {G : Prop} (hb : Below W.heap.size W w1) (h : n < W.heap.size) (k : (∀ o, w1.cell? ⟨n, o, none⟩ = W.cell? ⟨n, o, none⟩) → (∀ o, w1.frozen? ⟨n, o, none⟩ = W.frozen? ⟨n, o, none⟩) → G) : G :=
  k (bc hb h).1 (bc hb h).2

end Go.Proofs.YtapmdkinneehjaaDoor
