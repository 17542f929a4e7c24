/- Intervals and sums that lie in blocks of the call's own. -/
import Derived.Test.YtffnmfcaoldlhaaDoorWalkBase
import Derived.Test.YtffnmfcaoldlhaaDoorSliceTerm
set_option linter.unusedVariables false
set_option linter.unusedSimpArgs false
namespace Go.Proofs.YtffnmfcaoldlhaaDoor
open Go.RowKit
structure SpAt (w : World) (b : Nat) (lo hi : Int) : Prop where
  lt : b < w.heap.size
  c0 : w.cell? ⟨b, 0, none⟩ = some (.int .i64 lo)
  c1 : w.cell? ⟨b, 1, none⟩ = some (.int .i64 hi)
  f0 : w.frozen? ⟨b, 0, none⟩ = false
  f1 : w.frozen? ⟨b, 1, none⟩ = false
theorem SpAt.below {w w' : World} {b : Nat} {lo hi : Int} (h : SpAt w b lo hi) (hb : Below w.heap.size w w') : SpAt w' b lo hi := by
  obtain ⟨h0, h1, h2, h3, h4⟩ := h
  exact ⟨Nat.lt_of_lt_of_le h0 hb.size, (hb.cell h0).trans h1, (hb.cell h0).trans h2, (hb.frozen h0).trans h3, (hb.frozen h0).trans h4⟩
theorem SpAt.set {w : World} {b : Nat} {lo hi : Int} (h : SpAt w b lo hi) (lo' hi' : Int) : SpAt ((w.setCell ⟨b, 0, none⟩ (.int .i64 lo')).setCell ⟨b, 1, none⟩ (.int .i64 hi')) b lo' hi' := by
  obtain ⟨h0, h1, h2, h3, h4⟩ := h
  constructor <;> go_simp
theorem SpAt.setOther {w : World} {b c : Nat} {lo hi : Int} (h : SpAt w b lo hi) (hbc : b ≠ c) (u v : Value) : SpAt ((w.setCell ⟨c, 0, none⟩ u).setCell ⟨c, 1, none⟩ v) b lo hi := by
  obtain ⟨h0, h1, h2, h3, h4⟩ := h
  constructor <;> go_simp
theorem SpAt.setOther1 {w : World} {b c : Nat} {lo hi : Int} (h : SpAt w b lo hi) (hbc : b ≠ c) (v : Value) : SpAt (w.setCell ⟨c, 1, none⟩ v) b lo hi := by
  obtain ⟨h0, h1, h2, h3, h4⟩ := h
  constructor <;> go_simp
theorem SpAt.set1 {w : World} {b : Nat} {lo hi : Int} (h : SpAt w b lo hi) (hi' : Int) : SpAt (w.setCell ⟨b, 1, none⟩ (.int .i64 hi')) b lo hi' := by
  obtain ⟨h0, h1, h2, h3, h4⟩ := h
  constructor <;> go_simp
/-- A sum of terms in a block of the call's own. -/
structure SumAt (w : World) (b : Nat) (m r : Int) (a : Option Addr) (len cap : Nat) (s : Int) : Prop where
  lt : b < w.heap.size
  c0 : w.cell? ⟨b, 0, none⟩ = some (.int .i64 m)
  c1 : w.cell? ⟨b, 1, none⟩ = some (.int .i64 r)
  c2 : w.cell? ⟨b, 2, none⟩ = some (.slice a len cap)
  c3 : w.cell? ⟨b, 3, none⟩ = some (.int .i64 s)
theorem SumAt.below {w w' : World} {b : Nat} {m r : Int} {a : Option Addr} {len cap : Nat} {s : Int} (h : SumAt w b m r a len cap s) (hb : Below w.heap.size w w') : SumAt w' b m r a len cap s :=
  ⟨Nat.lt_of_lt_of_le h.lt hb.size, (hb.cell (p := ⟨b, _, none⟩) h.lt).trans h.c0, (hb.cell (p := ⟨b, _, none⟩) h.lt).trans h.c1, (hb.cell (p := ⟨b, _, none⟩) h.lt).trans h.c2, (hb.cell (p := ⟨b, _, none⟩) h.lt).trans h.c3⟩
theorem SumAt.belowAt {w w' : World} {b B : Nat} {m r : Int} {a : Option Addr} {len cap : Nat} {s : Int} (h : SumAt w b m r a len cap s) (hB : b < B) (hb : Below B w w') : SumAt w' b m r a len cap s :=
  ⟨Nat.lt_of_lt_of_le h.lt hb.size, (hb.cell (p := ⟨b, _, none⟩) hB).trans h.c0, (hb.cell (p := ⟨b, _, none⟩) hB).trans h.c1, (hb.cell (p := ⟨b, _, none⟩) hB).trans h.c2, (hb.cell (p := ⟨b, _, none⟩) hB).trans h.c3⟩
end Go.Proofs.YtffnmfcaoldlhaaDoor
