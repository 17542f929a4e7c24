/- How a slice of exchanges that came in reads. No condition. -/
import Derived.Test.YtpjgoojaahbglaaRows
import Derived.Test.YtpjgoojaahbglaaWalk3
import Derived.ProofKit
import Derived.OpenShut
import Derived.Deep.Slices
namespace Go.Proofs.Ytpjgoojaahbglaa
open Go.ChangeShapes Go.WideShapes Go.ChangeAt Go.RowKit Go.Deep
theorem cells_int : Try.prog.cellsOf 3 = 1 := by kernel_rfl
theorem cells_span : Try.prog.cellsOf 25 = 2 := by kernel_rfl
theorem cells_ex : Try.prog.cellsOf 30 = 4 := by kernel_rfl
def wf64 (n : Int) : Prop := -9223372036854775808 ≤ n ∧ n ≤ 9223372036854775807
theorem wf64_of {n : Int} (h : (Lit.int .i64 n).wf = true) : wf64 n := by
  simpa [wf64, Lit.wf, IntKind.min, IntKind.max, IntKind.signed, IntKind.bits] using h

section
variable {H : Type} {enc : TypeId × Value → H} {w : World} {base : Nat} {spare : Nat → Bool} {held : Bool} {fuel : Nat} {cs : List Value} {x : DataW H × List MemPlace}
theorem read_int (h : DataW.trod enc Try.prog w base spare held fuel 3 cs = some x) : ∃ n : Int, cs = [.int .i64 n] ∧ wf64 n := by
  obtain ⟨n, h1, _, h2⟩ := DataW.trod_int Try.underlying3 h
  exact ⟨n, h1, wf64_of h2⟩
theorem read_span (h : DataW.trod enc Try.prog w base spare held fuel 25 cs = some x) : ∃ lo hi : Int, cs = [.int .i64 lo, .int .i64 hi] ∧ wf64 lo ∧ wf64 hi := by
  obtain ⟨xs, n, _, _, hl, hlen, hf⟩ := DataW.trod_struct Try.underlying25 h
  rw [cells_span] at hl
  match cs, hl, xs, hlen with
  | [c0, c1], _, [y0, y1], _ =>
    have g0 := hf 0 _ rfl; change DataW.trod enc Try.prog w base spare held n 3 (List.take (Try.prog.cellsOf 3) _) = _ at g0; rw [cells_int] at g0; obtain ⟨a, e0, w0⟩ := read_int g0
    have g1 := hf 1 _ rfl; change DataW.trod enc Try.prog w base spare held n 3 (List.take (Try.prog.cellsOf 3) _) = _ at g1; rw [cells_int] at g1; obtain ⟨b, e1, w1⟩ := read_int g1
    simp at e0 e1
    exact ⟨a, b, by simp [e0, e1], w0, w1⟩
theorem read_ex (h : DataW.trod enc Try.prog w base spare held fuel 30 cs = some x) : ∃ y : Ex, cs = [.int .i64 y.se, .int .i64 y.re, .int .i64 y.ol, .int .i64 y.oh] ∧ wf64 y.se ∧ wf64 y.re ∧ wf64 y.ol ∧ wf64 y.oh := by
  obtain ⟨xs, n, _, _, hl, hlen, hf⟩ := DataW.trod_struct Try.underlying30 h
  rw [cells_ex] at hl
  match cs, hl, xs, hlen with
  | [c0, c1, c2, c3], _, [y0, y1, y2], _ =>
    have g0 := hf 0 _ rfl; change DataW.trod enc Try.prog w base spare held n 3 (List.take (Try.prog.cellsOf 3) _) = _ at g0; rw [cells_int] at g0; obtain ⟨a, e0, w0⟩ := read_int g0
    have g1 := hf 1 _ rfl; change DataW.trod enc Try.prog w base spare held n 3 (List.take (Try.prog.cellsOf 3) _) = _ at g1; rw [cells_int] at g1; obtain ⟨b, e1, w1⟩ := read_int g1
    have g2 := hf 2 _ rfl; change DataW.trod enc Try.prog w base spare held n 25 (List.take (Try.prog.cellsOf 25) _) = _ at g2; rw [cells_span] at g2; obtain ⟨c, d, e2, w2, w3⟩ := read_span g2
    simp at e0 e1 e2
    exact ⟨⟨a, b, c, d⟩, by simp [e0, e1, e2], w0, w1, w2, w3⟩
end
instance : Inhabited Ex := ⟨⟨0, 0, 0, 0⟩⟩
/-- A slice of exchanges that came in. -/
theorem open_ex {H : Type} {enc : TypeId × Value → H} {w : World} {a : Option Addr} {len cap : Nat} {d : DataW H} {p : List MemPlace}
    (h : DataW.Trod enc Try.prog w 0 (fun _ => true) true 22 (.slice a len cap) d p) :
    ∃ l : List Ex, l.length = len ∧ len ≤ cap ∧ cap ≤ maxLen ∧ ExSlice w a l ∧ ∀ y ∈ l, wf64 y.se ∧ wf64 y.re ∧ wf64 y.ol ∧ wf64 y.oh := by
  obtain ⟨fuel, hf⟩ := h
  rcases open_slice Try.underlying22 hf with ⟨hcs, _⟩ | ⟨a', len', cap', m, n, D, Pl, hcs, _, hl, hm, hmm, _, hx⟩
  · simp [Value.cells] at hcs
    obtain ⟨rfl, rfl, rfl⟩ := hcs
    exact ⟨[], rfl, Nat.le_refl _, by unfold maxLen; omega, .inl rfl, by simp⟩
  · simp [Value.cells] at hcs
    obtain ⟨rfl, rfl, rfl⟩ := hcs
    rw [cells_ex] at hx
    have hmc : m = cap := by simpa using hmm
    subst hmc
    obtain ⟨f, hfn⟩ := choose_lt (α := Ex) (n := len) (p := fun i y => ∀ j, j < 4 → w.cell? ((a'.add (i * 4)).add j) = [Value.int .i64 y.se, .int .i64 y.re, .int .i64 y.ol, .int .i64 y.oh][j]? ∧ wf64 y.se ∧ wf64 y.re ∧ wf64 y.ol ∧ wf64 y.oh) (fun i hi => by
      obtain ⟨cs', h1, h2⟩ := hx i (by omega)
      obtain ⟨y, rfl, hw⟩ := read_ex h2
      obtain ⟨_, _, h3⟩ := World.cells?_some h1
      exact ⟨y, fun j hj => ⟨h3 j hj, hw⟩⟩)
    refine ⟨(List.range len).map f, by simp, hl, hm, ?_, ?_⟩
    · by_cases h0 : len = 0
      · left; simp [h0]
      · right
        obtain ⟨b, off, spot⟩ := a'
        have h00 := (hfn 0 (by omega) 0 (by omega)).1
        have hspot : spot = none := by simpa [Addr.add] using World.cell?_spot h00
        subst hspot
        refine ⟨b, off, rfl, ?_, ?_⟩
        · have := h00
          simp [Addr.add, World.cell?] at this
          cases hb : w.heap[b]? with
          | none => simp [hb] at this
          | some o => exact (Array.getElem?_eq_some_iff.1 hb).1
        · intro k hk
          have hk' : k < len := by simpa using hk
          have g0 := (hfn k hk' 0 (by omega)).1
          have g1 := (hfn k hk' 1 (by omega)).1
          have g2 := (hfn k hk' 2 (by omega)).1
          have g3 := (hfn k hk' 3 (by omega)).1
          rw [add_add] at g0 g1 g2 g3
          simp only [add_plain] at g0 g1 g2 g3
          simp at g0 g1 g2 g3 ⊢
          exact ⟨g0, by rw [Nat.add_assoc]; exact g1, by rw [Nat.add_assoc]; exact g2, by rw [Nat.add_assoc]; exact g3⟩
    · intro y hy
      obtain ⟨i, hi, rfl⟩ := List.mem_map.1 hy
      exact (hfn i (by simpa using hi) 0 (by omega)).2
end Go.Proofs.Ytpjgoojaahbglaa
