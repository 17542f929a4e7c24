/- How a slice of slices of int that came in reads. -/
import Derived.Test.YtbcehnhiedbbbaaDoorFgI
import Derived.Test.YtbcehnhiedbbbaaDoorWalkMat2
set_option linter.unusedVariables false
set_option linter.unusedSimpArgs false
set_option maxRecDepth 100000
namespace Go.Proofs.YtbcehnhiedbbbaaDoor
open Go.ChangeShapes Go.WideShapes Go.ChangeAt Go.RowKit Go.Deep
theorem cells_row : Tryd.prog.cellsOf 39 = 1 := by kernel_rfl
theorem read_row {H : Type} {enc : TypeId × Value → H} {w : World} {fuel : Nat} {cs : List Value} {x : DataW H × List MemPlace} (h : DataW.trod enc Tryd.prog w 0 (fun _ => true) true fuel 39 cs = some x) : ∃ q : Value × List Int, cs = [q.1] ∧ RowAt w q.1 q.2 ∧ ∀ y ∈ q.2, wf64 y := by
  rcases open_slice Tryd.underlying39 h with ⟨hcs, _⟩ | ⟨a', len', cap', m, n, D, Pl, hcs, -⟩
  · exact ⟨(.slice none 0 0, []), hcs, ⟨none, 0, rfl, Nat.le_refl _, fun k hk => absurd hk (by simp)⟩, by simp⟩
  · subst hcs
    obtain ⟨l, h1, h2, -, h4, h5⟩ := open_Int (a := some a') (len := len') (cap := cap') (d := x.1) (p := x.2) (enc := enc) ⟨fuel, h⟩
    exact ⟨(.slice (some a') len' cap', l), rfl, ⟨some a', cap', by rw [h1], by show l.length ≤ cap'; omega, h4⟩, h5⟩
theorem open_Mat {H : Type} {enc : TypeId × Value → H} {w : World} {a : Option Addr} {len cap : Nat} {d : DataW H} {p : List MemPlace}
    (h : DataW.Trod enc Tryd.prog w 0 (fun _ => true) true 55 (.slice a len cap) d p) :
    ∃ L : List (List Int), L.length = len ∧ len ≤ cap ∧ cap ≤ maxLen ∧ MatSlice w a L ∧ ∀ r ∈ L, ∀ y ∈ r, wf64 y := by
  obtain ⟨fuel, hf⟩ := h
  rcases open_slice Tryd.underlying55 hf with ⟨hcs, _⟩ | ⟨a', len', cap', m, n, D, Pl, hcs, _, hl, hm, hmm, _, hx⟩
  · simp [Value.cells] at hcs
    obtain ⟨rfl, rfl, rfl⟩ := hcs
    exact ⟨[], rfl, Nat.le_refl _, by unfold maxLen; omega, fun k hk => absurd hk (by simp), by simp⟩
  · simp [Value.cells] at hcs
    obtain ⟨rfl, rfl, rfl⟩ := hcs
    rw [cells_row] at hx
    have hmc : m = cap := by simpa using hmm
    subst hmc
    obtain ⟨f, hfn⟩ := choose_lt (α := Value × List Int) (n := len) (p := fun i q => w.cell? ((a'.add (i * 1)).add 0) = some q.1 ∧ RowAt w q.1 q.2 ∧ ∀ y ∈ q.2, wf64 y) (fun i hi => by
      obtain ⟨cs', h1, h2⟩ := hx i (by omega)
      obtain ⟨q, rfl, hw⟩ := read_row h2
      obtain ⟨_, _, h3⟩ := World.cells?_some h1
      exact ⟨q, h3 0 (by omega), hw⟩)
    refine ⟨(List.range len).map (fun i => (f i).2), by simp, hl, hm, ?_, ?_⟩
    · intro k hk
      have hk' : k < len := by simpa using hk
      obtain ⟨b, off, spot⟩ := a'
      have g0 := (hfn k hk').1
      have hspot : spot = none := by
        by_cases h0 : k = 0
        · subst h0; simpa [Addr.add] using World.cell?_spot g0
        · have := hfn 0 (by omega)
          simpa [Addr.add] using World.cell?_spot this.1
      subst hspot
      rw [add_add] at g0
      simp only [add_plain] at g0
      simp at g0 ⊢
      refine ⟨b, off, ⟨rfl, rfl⟩, ?_, (f k).1, g0, (hfn k hk').2.1⟩
      have := g0
      simp only [World.cell?] at this
      cases hb : w.heap[b]? with
      | none => simp [hb] at this
      | some o => exact (Array.getElem?_eq_some_iff.1 hb).1
    · intro r hr
      obtain ⟨i, hi, rfl⟩ := List.mem_map.1 hr
      exact (hfn i (by simpa using hi)).2.2
end Go.Proofs.YtbcehnhiedbbbaaDoor
