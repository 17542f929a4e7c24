/- The Lean type of int. What the walks know of a slice of int that came in. How a slice of int that came in reads. Where element k of a slice of int lies. -/
import Derived.Below
import Derived.Test.YtapmdkinneehjaaDoorOpen0
import Derived.Test.YtapmdkinneehjaaDoorProg
import Derived.WalkKit
set_option linter.unusedVariables false
set_option linter.unusedSimpArgs false
namespace Go.Proofs.YtapmdkinneehjaaDoor
section

end
section
open Go.RowKit
def IntSlice (w : World) (a : Option Addr) (l : List Int) : Prop := ∀ k (h : k < l.length), ∃ b off, a = some ⟨b, off, none⟩ ∧ b < w.heap.size ∧ w.cell? ⟨b, off + k, none⟩ = some (.int .i64 l[k])
theorem IntSlice.below {B : Nat} {w w' : World} {a : Option Addr} {l : List Int} (h : IntSlice w a l) (hs : w.heap.size ≤ B) (hb : Below B w w') : IntSlice w' a l := by
  intro k hk
  obtain ⟨b, off, h1, h2, c0⟩ := h k hk
  exact ⟨b, off, h1, Nat.lt_of_lt_of_le h2 hb.size, (hb.cell (p := ⟨b, _, none⟩) (Nat.lt_of_lt_of_le h2 hs)).trans c0⟩
end
section
open Go.ChangeShapes Go.WideShapes Go.ChangeAt Go.RowKit Go.Deep
theorem open_Int {H : Type} {enc : TypeId × Value → H} {w : World} {a : Option Addr} {len cap : Nat} {d : DataW H} {p : List MemPlace}
    (h : DataW.Trod enc Tryd.prog w 0 (fun _ => true) true 32 (.slice a len cap) d p) :
    ∃ l : List Int, l.length = len ∧ len ≤ cap ∧ cap ≤ maxLen ∧ IntSlice w a l ∧ ∀ y ∈ l, wf64 y := by
  obtain ⟨fuel, hf⟩ := h
  rcases open_slice Tryd.underlying32 hf with ⟨hcs, _⟩ | ⟨a', len', cap', m, n, D, Pl, hcs, _, hl, hm, hmm, _, hx⟩
  · simp [Value.cells] at hcs
    obtain ⟨rfl, rfl, rfl⟩ := hcs
    exact ⟨[], rfl, Nat.le_refl _, by unfold maxLen; omega, fun k hk => absurd hk (by simp), by simp⟩
  · simp [Value.cells] at hcs
    obtain ⟨rfl, rfl, rfl⟩ := hcs
    rw [cells_int] at hx
    have hmc : m = cap := by simpa using hmm
    subst hmc
    obtain ⟨f, hfn⟩ := choose_lt (α := Int) (n := len) (p := fun i y => ∀ j, j < 1 → w.cell? ((a'.add (i * 1)).add j) = [Value.int .i64 y][j]? ∧ wf64 y) (fun i hi => by
      obtain ⟨cs', h1, h2⟩ := hx i (by omega)
      obtain ⟨y, rfl, hw⟩ := read_int h2
      obtain ⟨_, _, h3⟩ := World.cells?_some h1
      exact ⟨y, fun j hj => ⟨h3 j hj, hw⟩⟩)
    refine ⟨(List.range len).map f, by simp, hl, hm, ?_, ?_⟩
    · intro k hk
      have hk' : k < len := by simpa using hk
      obtain ⟨b, off, spot⟩ := a'
      have g0 := (hfn k hk' 0 (by omega)).1
      have hspot : spot = none := by
        by_cases h0 : k = 0
        · subst h0; simpa [Addr.add] using World.cell?_spot g0
        · have := hfn 0 (by omega) 0 (by omega)
          simpa [Addr.add] using World.cell?_spot this.1
      subst hspot
      rw [add_add] at g0
      simp only [add_plain] at g0
      simp at g0 ⊢
      refine ⟨b, off, ⟨rfl, rfl⟩, ?_, g0⟩
      have := g0
      simp only [World.cell?] at this
      cases hb : w.heap[b]? with
      | none => simp [hb] at this
      | some o => exact (Array.getElem?_eq_some_iff.1 hb).1
    · intro y hy
      obtain ⟨i, hi, rfl⟩ := List.mem_map.1 hy
      exact (hfn i (by simpa using hi) 0 (by omega)).2
end
section
open Go.RowKit
theorem ix_Int {a : Option Addr} {b off len cap k : Nat} (ha : a = some ⟨b, off, none⟩) (hk : k < len) : ∀ w, (Instr.indexAt 32 (.slice a len cap) (.int .i64 k)).run Tryd.prog w = .ok (.pointer (some ⟨b, off + k, none⟩)) w := by
  intro w
  subst ha
  have h1 : (k : Int) < (len : Int) := by omega
  go_simp
end
end Go.Proofs.YtapmdkinneehjaaDoor
