/- How a slice of api.TideTerm that came in reads. How a slice of arrays of three ints that came in reads (a list of triples), and an array of three ints. Where element k of a slice of arrays of three ints lies. -/
import Derived.Test.YtcgnhnmigmdalaaDoorOpA
import Derived.Test.YtcgnhnmigmdalaaDoorWkA
import Derived.Test.YtcgnhnmigmdalaaDoorProg
import Derived.WalkKit
set_option linter.unusedVariables false
set_option linter.unusedSimpArgs false
namespace Go.Proofs.YtcgnhnmigmdalaaDoor
section
set_option maxRecDepth 100000
open Go.ChangeShapes Go.WideShapes Go.ChangeAt Go.RowKit Go.Deep
theorem cells_Td : Tryd.prog.cellsOf 65 = 3 := by kernel_rfl
section
variable {H : Type} {enc : TypeId × Value → H} {w : World} {base : Nat} {spare : Nat → Bool} {held : Bool} {fuel : Nat} {cs : List Value} {x : DataW H × List MemPlace}
theorem read_Td (h : DataW.trod enc Tryd.prog w base spare held fuel 65 cs = some x) : ∃ y : Tm, cs = [Value.int .i64 y.amp, Value.int .i64 y.ph, Value.int .i64 y.rt] ∧ wf64 y.amp ∧ wf64 y.ph ∧ wf64 y.rt := by
  obtain ⟨xs, n, _, _, hl, hlen, hf⟩ := DataW.trod_struct Tryd.underlying65 h
  rw [cells_Td] at hl
  match cs, hl, xs, hlen with
  | [c0, c1, c2], _, [y0, y1, y2], _ =>
    have g0 := hf 0 _ rfl
    change DataW.trod enc Tryd.prog w base spare held n 3 (List.take (Tryd.prog.cellsOf 3) _) = _ at g0
    rw [cells_int] at g0
    obtain ⟨v0, e0, w0⟩ := read_int g0
    have g1 := hf 1 _ rfl
    change DataW.trod enc Tryd.prog w base spare held n 3 (List.take (Tryd.prog.cellsOf 3) _) = _ at g1
    rw [cells_int] at g1
    obtain ⟨v1, e1, w1⟩ := read_int g1
    have g2 := hf 2 _ rfl
    change DataW.trod enc Tryd.prog w base spare held n 3 (List.take (Tryd.prog.cellsOf 3) _) = _ at g2
    rw [cells_int] at g2
    obtain ⟨v2, e2, w2⟩ := read_int g2
    simp at e0 e1 e2
    exact ⟨⟨v0, v1, v2⟩, by simp [e0, e1, e2], w0, w1, w2⟩
end
theorem open_Td {H : Type} {enc : TypeId × Value → H} {w : World} {a : Option Addr} {len cap : Nat} {d : DataW H} {p : List MemPlace}
    (h : DataW.Trod enc Tryd.prog w 0 (fun _ => true) true 61 (.slice a len cap) d p) :
    ∃ l : List Tm, l.length = len ∧ len ≤ cap ∧ cap ≤ maxLen ∧ TmSlice w a l ∧ ∀ y ∈ l, wf64 y.amp ∧ wf64 y.ph ∧ wf64 y.rt := by
  obtain ⟨fuel, hf⟩ := h
  rcases open_slice Tryd.underlying61 hf with ⟨hcs, _⟩ | ⟨a', len', cap', m, n, D, Pl, hcs, _, hl, hm, hmm, _, hx⟩
  · simp [Value.cells] at hcs
    obtain ⟨rfl, rfl, rfl⟩ := hcs
    exact ⟨[], rfl, Nat.le_refl _, by unfold maxLen; omega, fun k hk => absurd hk (by simp), by simp⟩
  · simp [Value.cells] at hcs
    obtain ⟨rfl, rfl, rfl⟩ := hcs
    rw [cells_Td] at hx
    have hmc : m = cap := by simpa using hmm
    subst hmc
    obtain ⟨f, hfn⟩ := choose_lt (α := Tm) (n := len) (p := fun i y => ∀ j, j < 3 → w.cell? ((a'.add (i * 3)).add j) = [Value.int .i64 y.amp, Value.int .i64 y.ph, Value.int .i64 y.rt][j]? ∧ wf64 y.amp ∧ wf64 y.ph ∧ wf64 y.rt) (fun i hi => by
      obtain ⟨cs', h1, h2⟩ := hx i (by omega)
      obtain ⟨y, rfl, hw⟩ := read_Td h2
      obtain ⟨_, _, h3⟩ := World.cells?_some h1
      exact ⟨y, fun j hj => ⟨h3 j hj, hw⟩⟩)
    refine ⟨(List.range len).map f, by simp, hl, hm, ?_, ?_⟩
    · intro k hk
      have hk' : k < len := by simpa using hk
      obtain ⟨b, off, spot⟩ := a'
      have g0 := (hfn k hk' 0 (by omega)).1
      have g1 := (hfn k hk' 1 (by omega)).1
      have g2 := (hfn k hk' 2 (by omega)).1
      have hspot : spot = none := by
        by_cases h0 : k = 0
        · subst h0; simpa [Addr.add] using World.cell?_spot g0
        · have := hfn 0 (by omega) 0 (by omega)
          simpa [Addr.add] using World.cell?_spot this.1
      subst hspot
      rw [add_add] at g0 g1 g2
      simp only [add_plain] at g0 g1 g2
      simp at g0 g1 g2 ⊢
      refine ⟨b, off, ⟨rfl, rfl⟩, ?_, g0, by rw [Nat.add_assoc]; exact g1, by rw [Nat.add_assoc]; exact g2⟩
      have := g0
      simp only [World.cell?] at this
      cases hb : w.heap[b]? with
      | none => simp [hb] at this
      | some o => exact (Array.getElem?_eq_some_iff.1 hb).1
    · intro y hy
      obtain ⟨i, hi, rfl⟩ := List.mem_map.1 hy
      exact (hfn i (by simpa using hi) 0 (by omega)).2
end
section
set_option maxRecDepth 100000
open Go.ChangeShapes Go.WideShapes Go.ChangeAt Go.RowKit Go.Deep
theorem cells_A3 : Tryd.prog.cellsOf 63 = 3 := by kernel_rfl
section
variable {H : Type} {enc : TypeId × Value → H} {w : World} {base : Nat} {spare : Nat → Bool} {held : Bool} {fuel : Nat} {cs : List Value} {x : DataW H × List MemPlace}
theorem read_A3 (h : DataW.trod enc Tryd.prog w base spare held fuel 63 cs = some x) : ∃ y : Tm, cs = [Value.int .i64 y.amp, Value.int .i64 y.ph, Value.int .i64 y.rt] ∧ wf64 y.amp ∧ wf64 y.ph ∧ wf64 y.rt := by
  obtain ⟨xs, n, _, _, hl, hlen, hf⟩ := DataW.trod_array Tryd.underlying63 h
  rw [cells_A3] at hl
  rw [cells_int] at hf
  match cs, hl, xs, hlen with
  | [c0, c1, c2], _, [y0, y1, y2], _ =>
    obtain ⟨v0, e0, w0⟩ := read_int (show _ = some y0 from hf 0 (by omega))
    obtain ⟨v1, e1, w1⟩ := read_int (show _ = some y1 from hf 1 (by omega))
    obtain ⟨v2, e2, w2⟩ := read_int (show _ = some y2 from hf 2 (by omega))
    simp at e0 e1 e2
    exact ⟨⟨v0, v1, v2⟩, by simp [e0, e1, e2], w0, w1, w2⟩
end
theorem open_A3 {H : Type} {enc : TypeId × Value → H} {w : World} {a : Option Addr} {len cap : Nat} {d : DataW H} {p : List MemPlace}
    (h : DataW.Trod enc Tryd.prog w 0 (fun _ => true) true 62 (.slice a len cap) d p) :
    ∃ l : List Tm, l.length = len ∧ len ≤ cap ∧ cap ≤ maxLen ∧ TmSlice w a l ∧ ∀ y ∈ l, wf64 y.amp ∧ wf64 y.ph ∧ wf64 y.rt := by
  obtain ⟨fuel, hf⟩ := h
  rcases open_slice Tryd.underlying62 hf with ⟨hcs, _⟩ | ⟨a', len', cap', m, n, D, Pl, hcs, _, hl, hm, hmm, _, hx⟩
  · simp [Value.cells] at hcs
    obtain ⟨rfl, rfl, rfl⟩ := hcs
    exact ⟨[], rfl, Nat.le_refl _, by unfold maxLen; omega, fun k hk => absurd hk (by simp), by simp⟩
  · simp [Value.cells] at hcs
    obtain ⟨rfl, rfl, rfl⟩ := hcs
    rw [cells_A3] at hx
    have hmc : m = cap := by simpa using hmm
    subst hmc
    obtain ⟨f, hfn⟩ := choose_lt (α := Tm) (n := len) (p := fun i y => ∀ j, j < 3 → w.cell? ((a'.add (i * 3)).add j) = [Value.int .i64 y.amp, Value.int .i64 y.ph, Value.int .i64 y.rt][j]? ∧ wf64 y.amp ∧ wf64 y.ph ∧ wf64 y.rt) (fun i hi => by
      obtain ⟨cs', h1, h2⟩ := hx i (by omega)
      obtain ⟨y, rfl, hw⟩ := read_A3 h2
      obtain ⟨_, _, h3⟩ := World.cells?_some h1
      exact ⟨y, fun j hj => ⟨h3 j hj, hw⟩⟩)
    refine ⟨(List.range len).map f, by simp, hl, hm, ?_, ?_⟩
    · intro k hk
      have hk' : k < len := by simpa using hk
      obtain ⟨b, off, spot⟩ := a'
      have g0 := (hfn k hk' 0 (by omega)).1
      have g1 := (hfn k hk' 1 (by omega)).1
      have g2 := (hfn k hk' 2 (by omega)).1
      have hspot : spot = none := by
        by_cases h0 : k = 0
        · subst h0; simpa [Addr.add] using World.cell?_spot g0
        · have := hfn 0 (by omega) 0 (by omega)
          simpa [Addr.add] using World.cell?_spot this.1
      subst hspot
      rw [add_add] at g0 g1 g2
      simp only [add_plain] at g0 g1 g2
      simp at g0 g1 g2 ⊢
      refine ⟨b, off, ⟨rfl, rfl⟩, ?_, g0, by rw [Nat.add_assoc]; exact g1, by rw [Nat.add_assoc]; exact g2⟩
      have := g0
      simp only [World.cell?] at this
      cases hb : w.heap[b]? with
      | none => simp [hb] at this
      | some o => exact (Array.getElem?_eq_some_iff.1 hb).1
    · intro y hy
      obtain ⟨i, hi, rfl⟩ := List.mem_map.1 hy
      exact (hfn i (by simpa using hi) 0 (by omega)).2
theorem open_arr3 {r : Reach} {b0 : Nat} {w : World} {v : Value} {H : Type} {enc : TypeId × Value → H} {base : Nat} {spare : Nat → Bool} {held : Bool} {d : DataW H} {p : List MemPlace}
    (hv : Value.okWide Tryd.prog w r b0 63 v) (h : DataW.Trod enc Tryd.prog w base spare held 63 v d p) :
    ∃ y : Tm, v = .agg #[.int .i64 y.amp, .int .i64 y.ph, .int .i64 y.rt] ∧ wf64 y.amp ∧ wf64 y.ph ∧ wf64 y.rt := by
  obtain ⟨fuel, hf⟩ := h
  obtain ⟨y, e, hw⟩ := read_A3 hf
  refine ⟨y, ?_, hw⟩
  simp only [Value.okWide, Tryd.underlying63] at hv
  obtain ⟨cs, rfl, -⟩ := hv
  obtain ⟨l⟩ := cs
  simp [Value.cells] at e
  subst e
  rfl
end
section
open Go.RowKit
theorem ix_A3 {a : Option Addr} {b off len cap k : Nat} (ha : a = some ⟨b, off, none⟩) (hk : k < len) : ∀ w, (Instr.indexAt 62 (.slice a len cap) (.int .i64 k)).run Tryd.prog w = .ok (.pointer (some ⟨b, off + k * 3, none⟩)) w := by
  intro w
  subst ha
  have h1 : (k : Int) < (len : Int) := by omega
  go_simp
end
end Go.Proofs.YtcgnhnmigmdalaaDoor
