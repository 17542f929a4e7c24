/- How a slice of api.ZoneChange, and a zone, that came in read. -/
import Derived.Test.YtapmdkinneehjaaDoorOpen0
import Derived.Test.YtapmdkinneehjaaDoorZnA
import Derived.ChangeArms
import Derived.Lib.SmallJoins
set_option linter.unusedVariables false
set_option linter.unusedSimpArgs false
set_option maxRecDepth 100000
namespace Go.Proofs.YtapmdkinneehjaaDoor
open Go.ChangeShapes Go.WideShapes Go.ChangeAt Go.RowKit Go.Deep Go.Joins
theorem cells_Zc : Tryd.prog.cellsOf 50 = 3 := by kernel_rfl
theorem cells_strZ : Tryd.prog.cellsOf 9 = 1 := by kernel_rfl
theorem cells_zone : Tryd.prog.cellsOf 24 = 3 := by kernel_rfl
section
variable {H : Type} {enc : TypeId × Value → H} {w : World} {base : Nat} {spare : Nat → Bool} {held : Bool} {fuel : Nat} {cs : List Value} {x : DataW H × List MemPlace}
theorem read_Zc (h : DataW.trod enc Tryd.prog w base spare held fuel 50 cs = some x) : ∃ y : Zc, cs = [Value.int .i64 y.t, Value.int .i64 y.o, Value.string y.lb] ∧ wf64 y.t ∧ wf64 y.o ∧ y.lb.size ≤ maxLen := by
  obtain ⟨xs, n, _, _, hl, hlen, hf⟩ := DataW.trod_struct Tryd.underlying50 h
  rw [cells_Zc] at hl
  match cs, hl, xs, hlen with
  | [c0, c1, c2], _, [y0, y1, y2], _ =>
    have g0 := hf 0 _ rfl
    change DataW.trod enc Tryd.prog w base spare held n 3 (List.take (Tryd.prog.cellsOf 3) _) = _ at g0
    rw [cells_int] at g0
    obtain ⟨v0, e0, w0⟩ := read_int g0
    have g1 := hf 1 _ rfl
    change DataW.trod enc Tryd.prog w base spare held n 3 (List.take (Tryd.prog.cellsOf 3) _) = _ at g1
    rw [cells_int] at g1
    obtain ⟨v1, e1, w1⟩ := read_int g1
    have g2 := hf 2 _ rfl
    change DataW.trod enc Tryd.prog w base spare held n 9 (List.take (Tryd.prog.cellsOf 9) _) = _ at g2
    rw [cells_strZ] at g2
    obtain ⟨v2, e2, _, w2⟩ := DataW.trod_string Tryd.underlying9 g2
    simp at e0 e1 e2
    exact ⟨⟨v0, v1, v2⟩, by simp [e0, e1, e2], w0, w1, w2⟩
end
theorem open_Zc {H : Type} {enc : TypeId × Value → H} {w : World} {a : Option Addr} {len cap : Nat} {d : DataW H} {p : List MemPlace}
    (h : DataW.Trod enc Tryd.prog w 0 (fun _ => true) true 22 (.slice a len cap) d p) :
    ∃ l : List Zc, l.length = len ∧ len ≤ cap ∧ cap ≤ maxLen ∧ ZcSlice w a l ∧ ∀ y ∈ l, wf64 y.t ∧ wf64 y.o ∧ y.lb.size ≤ maxLen := by
  obtain ⟨fuel, hf⟩ := h
  rcases open_slice Tryd.underlying22 hf with ⟨hcs, _⟩ | ⟨a', len', cap', m, n, D, Pl, hcs, _, hl, hm, hmm, _, hx⟩
  · simp [Value.cells] at hcs
    obtain ⟨rfl, rfl, rfl⟩ := hcs
    exact ⟨[], rfl, Nat.le_refl _, by unfold maxLen; omega, fun k hk => absurd hk (by simp), by simp⟩
  · simp [Value.cells] at hcs
    obtain ⟨rfl, rfl, rfl⟩ := hcs
    rw [cells_Zc] at hx
    have hmc : m = cap := by simpa using hmm
    subst hmc
    obtain ⟨f, hfn⟩ := choose_lt (α := Zc) (n := len) (p := fun i y => ∀ j, j < 3 → w.cell? ((a'.add (i * 3)).add j) = [Value.int .i64 y.t, Value.int .i64 y.o, Value.string y.lb][j]? ∧ wf64 y.t ∧ wf64 y.o ∧ y.lb.size ≤ maxLen) (fun i hi => by
      obtain ⟨cs', h1, h2⟩ := hx i (by omega)
      obtain ⟨y, rfl, hw⟩ := read_Zc h2
      obtain ⟨_, _, h3⟩ := World.cells?_some h1
      exact ⟨y, fun j hj => ⟨h3 j hj, hw⟩⟩)
    refine ⟨(List.range len).map f, by simp, hl, hm, ?_, ?_⟩
    · intro k hk
      have hk' : k < len := by simpa using hk
      obtain ⟨b, off, spot⟩ := a'
      have g0 := (hfn k hk' 0 (by omega)).1
      have g1 := (hfn k hk' 1 (by omega)).1
      have g2 := (hfn k hk' 2 (by omega)).1
      have hspot : spot = none := by
        by_cases h0 : k = 0
        · subst h0; simpa [Addr.add] using World.cell?_spot g0
        · have := hfn 0 (by omega) 0 (by omega)
          simpa [Addr.add] using World.cell?_spot this.1
      subst hspot
      rw [add_add] at g0 g1 g2
      simp only [add_plain] at g0 g1
      simp at g0 g1 g2 ⊢
      refine ⟨b, off, ⟨rfl, rfl⟩, ?_, g0, by rw [Nat.add_assoc]; exact g1, by rw [Nat.add_assoc]; exact g2⟩
      have := g0
      simp only [World.cell?] at this
      cases hb : w.heap[b]? with
      | none => simp [hb] at this
      | some o => exact (Array.getElem?_eq_some_iff.1 hb).1
    · intro y hy
      obtain ⟨i, hi, rfl⟩ := List.mem_map.1 hy
      exact (hfn i (by simpa using hi) 0 (by omega)).2
theorem open_zone {H : Type} {enc : TypeId × Value → H} {w : World} {b0 : Nat} {v : Value} {d : DataW H} {p : List MemPlace} (hv : Value.okWide Tryd.prog w .any b0 24 v) (h : DataW.Trod enc Tryd.prog w 0 (fun _ => true) true 24 v d p) :
    ∃ (nm : ByteArray) (f : Int) (a : Option Addr) (cap : Nat) (l : List Zc), v = .agg #[.string nm, .int .i64 f, .slice a l.length cap] ∧ l.length ≤ cap ∧ nm.size ≤ maxLen ∧ wf64 f ∧ ZcSlice w a l ∧ ∀ y ∈ l, wf64 y.t ∧ wf64 y.o ∧ y.lb.size ≤ maxLen := by
  obtain ⟨c0, c1, c2, y0, y1, y2, n, rfl, rfl, rfl, h0, h1, h2⟩ := open_agg3 Tryd.underlying24 (by kernel_rfl) cells_zone hv h
  obtain ⟨v0, e0, _, w0⟩ := DataW.trod_string Tryd.underlying9 h0
  obtain ⟨v1, e1, _, w1⟩ := DataW.trod_int Tryd.underlying3 h1
  obtain ⟨a, la, ca, e2⟩ := slice_form Tryd.underlying22 h2
  simp at e0 e1 e2
  subst e0 e1 e2
  obtain ⟨l, l1, l2, _, l4, l5⟩ := open_Zc (d := y2.1) (p := y2.2) ⟨n, by simpa [Value.cells] using h2⟩
  subst l1
  exact ⟨v0, v1, a, ca, l, rfl, l2, w0, wf64_of w1, l4, l5⟩
end Go.Proofs.YtapmdkinneehjaaDoor
