/- An array of six fractions that came in, opened. -/
import Derived.Test.YtbcehnhiedbbbaaDoorOpenFg
import Derived.Test.YtbcehnhiedbbbaaDoorPlainMap
set_option linter.unusedVariables false
set_option linter.unusedSimpArgs false
set_option maxRecDepth 100000
namespace Go.Proofs.YtbcehnhiedbbbaaDoor
open Go.ChangeShapes Go.WideShapes Go.ChangeAt Go.RowKit Go.Deep
theorem cells_A6 : Tryd.prog.cellsOf 77 = 12 := by kernel_rfl
theorem read_A6 {H : Type} {enc : TypeId × Value → H} {w : World} {base : Nat} {spare : Nat → Bool} {held : Bool} {fuel : Nat} {cs : List Value} {x : DataW H × List MemPlace} (h : DataW.trod enc Tryd.prog w base spare held fuel 77 cs = some x) : ∃ m : M6, cs = [.int .i64 (m 0).1, .int .i64 (m 0).2, .int .i64 (m 1).1, .int .i64 (m 1).2, .int .i64 (m 2).1, .int .i64 (m 2).2, .int .i64 (m 3).1, .int .i64 (m 3).2, .int .i64 (m 4).1, .int .i64 (m 4).2, .int .i64 (m 5).1, .int .i64 (m 5).2] := by
  obtain ⟨xs, n, _, _, hl, hlen, hf⟩ := DataW.trod_array Tryd.underlying77 h
  rw [cells_A6] at hl
  rw [cells_frac] at hf
  match cs, hl, xs, hlen with
  | [c0, c1, c2, c3, c4, c5, c6, c7, c8, c9, c10, c11], _, [y0, y1, y2, y3, y4, y5], _ =>
    obtain ⟨n0, d0, e0, -, -⟩ := read_frac (show _ = some y0 from hf 0 (by omega))
    obtain ⟨n1, d1, e1, -, -⟩ := read_frac (show _ = some y1 from hf 1 (by omega))
    obtain ⟨n2, d2, e2, -, -⟩ := read_frac (show _ = some y2 from hf 2 (by omega))
    obtain ⟨n3, d3, e3, -, -⟩ := read_frac (show _ = some y3 from hf 3 (by omega))
    obtain ⟨n4, d4, e4, -, -⟩ := read_frac (show _ = some y4 from hf 4 (by omega))
    obtain ⟨n5, d5, e5, -, -⟩ := read_frac (show _ = some y5 from hf 5 (by omega))
    simp at e0 e1 e2 e3 e4 e5
    exact ⟨fun | 0 => (n0, d0) | 1 => (n1, d1) | 2 => (n2, d2) | 3 => (n3, d3) | 4 => (n4, d4) | _ => (n5, d5), by simp [e0, e1, e2, e3, e4, e5]⟩
theorem open_map6 {r : Reach} {b0 : Nat} {w : World} {v : Value} {H : Type} {enc : TypeId × Value → H} {base : Nat} {spare : Nat → Bool} {held : Bool} {d : DataW H} {p : List MemPlace}
    (hv : Value.okWide Tryd.prog w r b0 77 v) (h : DataW.Trod enc Tryd.prog w base spare held 77 v d p) :
    ∃ m : M6, v = .agg #[.int .i64 (m 0).1, .int .i64 (m 0).2, .int .i64 (m 1).1, .int .i64 (m 1).2, .int .i64 (m 2).1, .int .i64 (m 2).2, .int .i64 (m 3).1, .int .i64 (m 3).2, .int .i64 (m 4).1, .int .i64 (m 4).2, .int .i64 (m 5).1, .int .i64 (m 5).2] := by
  obtain ⟨fuel, hf⟩ := h
  obtain ⟨m, e⟩ := read_A6 hf
  refine ⟨m, ?_⟩
  simp only [Value.okWide, Tryd.underlying77] at hv
  obtain ⟨cs, rfl, -⟩ := hv
  obtain ⟨l⟩ := cs
  simp [Value.cells] at e
  subst e
  rfl
end Go.Proofs.YtbcehnhiedbbbaaDoor
