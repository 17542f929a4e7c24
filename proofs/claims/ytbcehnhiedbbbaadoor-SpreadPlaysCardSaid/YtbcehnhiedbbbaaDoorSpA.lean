/- The Lean types of api.NoticeText and of [2]int. What the walks know of a slice of api.NoticeText and of a slice of [2]int that came in. -/
import Derived.Test.YtbcehnhiedbbbaaDoorProg
import Derived.Below
import Derived.WalkKit
set_option linter.unusedVariables false
set_option linter.unusedSimpArgs false
namespace Go.Proofs.YtbcehnhiedbbbaaDoor
section
structure Nt where
  au : Int
  no : Int
  tx : ByteArray
  sm : Int
instance : Inhabited Nt := ⟨⟨0, 0, ⟨#[]⟩, 0⟩⟩
structure Ed where
  p : Int
  q : Int
instance : Inhabited Ed := ⟨⟨0, 0⟩⟩
end
section
open Go.RowKit
def NtSlice (w : World) (a : Option Addr) (l : List Nt) : Prop := ∀ k (h : k < l.length), ∃ b off, a = some ⟨b, off, none⟩ ∧ b < w.heap.size ∧ w.cell? ⟨b, off + k * 4, none⟩ = some (.int .i64 l[k].au) ∧ w.cell? ⟨b, off + k * 4 + 1, none⟩ = some (.int .i64 l[k].no) ∧ w.cell? ⟨b, off + k * 4 + 2, none⟩ = some (.string l[k].tx) ∧ w.cell? ⟨b, off + k * 4 + 3, none⟩ = some (.int .i64 l[k].sm)
theorem NtSlice.below {B : Nat} {w w' : World} {a : Option Addr} {l : List Nt} (h : NtSlice w a l) (hs : w.heap.size ≤ B) (hb : Below B w w') : NtSlice w' a l := by
  intro k hk
  obtain ⟨b, off, h1, h2, c0, c1, c2, c3⟩ := h k hk
  exact ⟨b, off, h1, Nat.lt_of_lt_of_le h2 hb.size, (hb.cell (p := ⟨b, _, none⟩) (Nat.lt_of_lt_of_le h2 hs)).trans c0, (hb.cell (p := ⟨b, _, none⟩) (Nat.lt_of_lt_of_le h2 hs)).trans c1, (hb.cell (p := ⟨b, _, none⟩) (Nat.lt_of_lt_of_le h2 hs)).trans c2, (hb.cell (p := ⟨b, _, none⟩) (Nat.lt_of_lt_of_le h2 hs)).trans c3⟩
theorem ix_Nt {a : Option Addr} {b off len cap k : Nat} (ha : a = some ⟨b, off, none⟩) (hk : k < len) : ∀ w, (Instr.indexAt 41 (.slice a len cap) (.int .i64 k)).run Tryd.prog w = .ok (.pointer (some ⟨b, off + k * 4, none⟩)) w := by
  intro w
  subst ha
  have h1 : (k : Int) < (len : Int) := by omega
  go_simp
def EdSlice (w : World) (a : Option Addr) (l : List Ed) : Prop := ∀ k (h : k < l.length), ∃ b off, a = some ⟨b, off, none⟩ ∧ b < w.heap.size ∧ w.cell? ⟨b, off + k * 2, none⟩ = some (.int .i64 l[k].p) ∧ w.cell? ⟨b, off + k * 2 + 1, none⟩ = some (.int .i64 l[k].q)
theorem EdSlice.below {B : Nat} {w w' : World} {a : Option Addr} {l : List Ed} (h : EdSlice w a l) (hs : w.heap.size ≤ B) (hb : Below B w w') : EdSlice w' a l := by
  intro k hk
  obtain ⟨b, off, h1, h2, c0, c1⟩ := h k hk
  exact ⟨b, off, h1, Nat.lt_of_lt_of_le h2 hb.size, (hb.cell (p := ⟨b, _, none⟩) (Nat.lt_of_lt_of_le h2 hs)).trans c0, (hb.cell (p := ⟨b, _, none⟩) (Nat.lt_of_lt_of_le h2 hs)).trans c1⟩
theorem ix_Ed {a : Option Addr} {b off len cap k : Nat} (ha : a = some ⟨b, off, none⟩) (hk : k < len) : ∀ w, (Instr.indexAt 40 (.slice a len cap) (.int .i64 k)).run Tryd.prog w = .ok (.pointer (some ⟨b, off + k * 2, none⟩)) w := by
  intro w
  subst ha
  have h1 : (k : Int) < (len : Int) := by omega
  go_simp
end
end Go.Proofs.YtbcehnhiedbbbaaDoor
