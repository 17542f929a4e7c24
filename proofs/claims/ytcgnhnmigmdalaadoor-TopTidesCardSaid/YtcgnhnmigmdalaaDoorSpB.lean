/- The Lean type of api.Span. What the walks know of a slice of api.Span that came in. The cells of a list of intervals. Where element k of a slice of api.Span lies. -/
import Derived.Below
import Derived.Test.YtcgnhnmigmdalaaDoorProg
import Derived.WalkKit
import Derived.WalkSmall
set_option linter.unusedVariables false
set_option linter.unusedSimpArgs false
namespace Go.Proofs.YtcgnhnmigmdalaaDoor
section
structure Sp where
  lo : Int
  hi : Int
instance : Inhabited Sp := ⟨⟨0, 0⟩⟩
end
section
open Go.RowKit
def SpSlice (w : World) (a : Option Addr) (l : List Sp) : Prop := ∀ k (h : k < l.length), ∃ b off, a = some ⟨b, off, none⟩ ∧ b < w.heap.size ∧ w.cell? ⟨b, off + k * 2, none⟩ = some (.int .i64 l[k].lo) ∧ w.cell? ⟨b, off + k * 2 + 1, none⟩ = some (.int .i64 l[k].hi)
theorem SpSlice.below {B : Nat} {w w' : World} {a : Option Addr} {l : List Sp} (h : SpSlice w a l) (hs : w.heap.size ≤ B) (hb : Below B w w') : SpSlice w' a l := by
  intro k hk
  obtain ⟨b, off, h1, h2, c0, c1⟩ := h k hk
  exact ⟨b, off, h1, Nat.lt_of_lt_of_le h2 hb.size, (hb.cell (p := ⟨b, _, none⟩) (Nat.lt_of_lt_of_le h2 hs)).trans c0, (hb.cell (p := ⟨b, _, none⟩) (Nat.lt_of_lt_of_le h2 hs)).trans c1⟩
end
section
open Go.RowKit
def spCells (l : List Sp) : List Value := l.flatMap fun s => [.int .i64 s.lo, .int .i64 s.hi]
theorem spCells_length (l : List Sp) : (spCells l).length = l.length * 2 := by
  unfold spCells
  induction l with
  | nil => rfl
  | cons a l ih => simp only [List.flatMap_cons, List.length_append, ih, List.length_cons, List.length_nil]; omega
theorem spCells_append (l m : List Sp) : spCells (l ++ m) = spCells l ++ spCells m := by simp [spCells]
theorem spCells_get (l : List Sp) (k : Nat) (h : k < l.length) : (spCells l)[k * 2]? = some (.int .i64 l[k].lo) ∧ (spCells l)[k * 2 + 1]? = some (.int .i64 l[k].hi) := by
  induction l generalizing k with
  | nil => simp at h
  | cons a l ih =>
    cases k with
    | zero => simp [spCells]
    | succ k =>
      have := ih k (by simpa using h)
      have e : spCells (a :: l) = .int .i64 a.lo :: .int .i64 a.hi :: spCells l := by simp [spCells]
      rw [e, show (k + 1) * 2 = k * 2 + 1 + 1 by omega]
      simpa using this
theorem info_span : (Tryd.prog.info? 24).map (fun i => (i.zero, i.size, i.bytes)) = some (some (.agg #[.int .i64 0, .int .i64 0]), 2, 16) := by kernel_rfl
end
section
open Go.RowKit
theorem ix_Sp {a : Option Addr} {b off len cap k : Nat} (ha : a = some ⟨b, off, none⟩) (hk : k < len) : ∀ w, (Instr.indexAt 67 (.slice a len cap) (.int .i64 k)).run Tryd.prog w = .ok (.pointer (some ⟨b, off + k * 2, none⟩)) w := by
  intro w
  subst ha
  have h1 : (k : Int) < (len : Int) := by omega
  go_simp
end
end Go.Proofs.YtcgnhnmigmdalaaDoor
