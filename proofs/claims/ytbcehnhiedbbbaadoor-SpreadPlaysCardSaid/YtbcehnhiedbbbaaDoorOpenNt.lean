/- How a slice of api.NoticeText and a slice of [2]int that came in read. -/
import Derived.Test.YtbcehnhiedbbbaaDoorOpen0
import Derived.Test.YtbcehnhiedbbbaaDoorSpA
import Derived.ChangeArms
set_option linter.unusedVariables false
set_option linter.unusedSimpArgs false
set_option maxRecDepth 100000
namespace Go.Proofs.YtbcehnhiedbbbaaDoor
open Go.ChangeShapes Go.WideShapes Go.ChangeAt Go.RowKit Go.Deep
theorem cells_Nt : Tryd.prog.cellsOf 23 = 4 := by kernel_rfl
theorem cells_str : Tryd.prog.cellsOf 9 = 1 := by kernel_rfl
theorem cells_Ed : Tryd.prog.cellsOf 45 = 2 := by kernel_rfl
section
variable {H : Type} {enc : TypeId × Value → H} {w : World} {base : Nat} {spare : Nat → Bool} {held : Bool} {fuel : Nat} {cs : List Value} {x : DataW H × List MemPlace}
theorem read_Nt (h : DataW.trod enc Tryd.prog w base spare held fuel 23 cs = some x) : ∃ y : Nt, cs = [Value.int .i64 y.au, Value.int .i64 y.no, Value.string y.tx, Value.int .i64 y.sm] ∧ wf64 y.au ∧ wf64 y.no ∧ y.tx.size ≤ maxLen ∧ wf64 y.sm := by
  obtain ⟨xs, n, _, _, hl, hlen, hf⟩ := DataW.trod_struct Tryd.underlying23 h
  rw [cells_Nt] at hl
  match cs, hl, xs, hlen with
  | [c0, c1, c2, c3], _, [y0, y1, y2, y3], _ =>
    have g0 := hf 0 _ rfl
    change DataW.trod enc Tryd.prog w base spare held n 3 (List.take (Tryd.prog.cellsOf 3) _) = _ at g0
    rw [cells_int] at g0
    obtain ⟨v0, e0, w0⟩ := read_int g0
    have g1 := hf 1 _ rfl
    change DataW.trod enc Tryd.prog w base spare held n 3 (List.take (Tryd.prog.cellsOf 3) _) = _ at g1
    rw [cells_int] at g1
    obtain ⟨v1, e1, w1⟩ := read_int g1
    have g2 := hf 2 _ rfl
    change DataW.trod enc Tryd.prog w base spare held n 9 (List.take (Tryd.prog.cellsOf 9) _) = _ at g2
    rw [cells_str] at g2
    obtain ⟨v2, e2, _, w2⟩ := DataW.trod_string Tryd.underlying9 g2
    have g3 := hf 3 _ rfl
    change DataW.trod enc Tryd.prog w base spare held n 3 (List.take (Tryd.prog.cellsOf 3) _) = _ at g3
    rw [cells_int] at g3
    obtain ⟨v3, e3, w3⟩ := read_int g3
    simp at e0 e1 e2 e3
    exact ⟨⟨v0, v1, v2, v3⟩, by simp [e0, e1, e2, e3], w0, w1, w2, w3⟩
theorem read_Ed (h : DataW.trod enc Tryd.prog w base spare held fuel 45 cs = some x) : ∃ y : Ed, cs = [Value.int .i64 y.p, Value.int .i64 y.q] ∧ wf64 y.p ∧ wf64 y.q := by
  obtain ⟨xs, n, _, _, hl, hlen, hf⟩ := DataW.trod_array Tryd.underlying45 h
  rw [cells_Ed] at hl
  rw [cells_int] at hf
  match cs, hl, xs, hlen with
  | [c0, c1], _, [y0, y1], _ =>
    obtain ⟨v0, e0, w0⟩ := read_int (show _ = some y0 from hf 0 (by omega))
    obtain ⟨v1, e1, w1⟩ := read_int (show _ = some y1 from hf 1 (by omega))
    simp at e0 e1
    exact ⟨⟨v0, v1⟩, by simp [e0, e1], w0, w1⟩
end
theorem open_Nt {H : Type} {enc : TypeId × Value → H} {w : World} {a : Option Addr} {len cap : Nat} {d : DataW H} {p : List MemPlace}
    (h : DataW.Trod enc Tryd.prog w 0 (fun _ => true) true 41 (.slice a len cap) d p) :
    ∃ l : List Nt, l.length = len ∧ len ≤ cap ∧ cap ≤ maxLen ∧ NtSlice w a l ∧ ∀ y ∈ l, wf64 y.au ∧ wf64 y.no ∧ y.tx.size ≤ maxLen ∧ wf64 y.sm := by
  obtain ⟨fuel, hf⟩ := h
  rcases open_slice Tryd.underlying41 hf with ⟨hcs, _⟩ | ⟨a', len', cap', m, n, D, Pl, hcs, _, hl, hm, hmm, _, hx⟩
  · simp [Value.cells] at hcs
    obtain ⟨rfl, rfl, rfl⟩ := hcs
    exact ⟨[], rfl, Nat.le_refl _, by unfold maxLen; omega, fun k hk => absurd hk (by simp), by simp⟩
  · simp [Value.cells] at hcs
    obtain ⟨rfl, rfl, rfl⟩ := hcs
    rw [cells_Nt] at hx
    have hmc : m = cap := by simpa using hmm
    subst hmc
    obtain ⟨f, hfn⟩ := choose_lt (α := Nt) (n := len) (p := fun i y => ∀ j, j < 4 → w.cell? ((a'.add (i * 4)).add j) = [Value.int .i64 y.au, Value.int .i64 y.no, Value.string y.tx, Value.int .i64 y.sm][j]? ∧ wf64 y.au ∧ wf64 y.no ∧ y.tx.size ≤ maxLen ∧ wf64 y.sm) (fun i hi => by
      obtain ⟨cs', h1, h2⟩ := hx i (by omega)
      obtain ⟨y, rfl, hw⟩ := read_Nt h2
      obtain ⟨_, _, h3⟩ := World.cells?_some h1
      exact ⟨y, fun j hj => ⟨h3 j hj, hw⟩⟩)
    refine ⟨(List.range len).map f, by simp, hl, hm, ?_, ?_⟩
    · intro k hk
      have hk' : k < len := by simpa using hk
      obtain ⟨b, off, spot⟩ := a'
      have g0 := (hfn k hk' 0 (by omega)).1
      have g1 := (hfn k hk' 1 (by omega)).1
      have g2 := (hfn k hk' 2 (by omega)).1
      have g3 := (hfn k hk' 3 (by omega)).1
      have hspot : spot = none := by
        by_cases h0 : k = 0
        · subst h0; simpa [Addr.add] using World.cell?_spot g0
        · have := hfn 0 (by omega) 0 (by omega)
          simpa [Addr.add] using World.cell?_spot this.1
      subst hspot
      rw [add_add] at g0 g1 g2 g3
      simp only [add_plain] at g0 g1 g2
      simp at g0 g1 g2 g3 ⊢
      refine ⟨b, off, ⟨rfl, rfl⟩, ?_, g0, by rw [Nat.add_assoc]; exact g1, by rw [Nat.add_assoc]; exact g2, by rw [Nat.add_assoc]; exact g3⟩
      have := g0
      simp only [World.cell?] at this
      cases hb : w.heap[b]? with
      | none => simp [hb] at this
      | some o => exact (Array.getElem?_eq_some_iff.1 hb).1
    · intro y hy
      obtain ⟨i, hi, rfl⟩ := List.mem_map.1 hy
      exact (hfn i (by simpa using hi) 0 (by omega)).2
theorem open_Ed {H : Type} {enc : TypeId × Value → H} {w : World} {a : Option Addr} {len cap : Nat} {d : DataW H} {p : List MemPlace}
    (h : DataW.Trod enc Tryd.prog w 0 (fun _ => true) true 40 (.slice a len cap) d p) :
    ∃ l : List Ed, l.length = len ∧ len ≤ cap ∧ cap ≤ maxLen ∧ EdSlice w a l ∧ ∀ y ∈ l, wf64 y.p ∧ wf64 y.q := by
  obtain ⟨fuel, hf⟩ := h
  rcases open_slice Tryd.underlying40 hf with ⟨hcs, _⟩ | ⟨a', len', cap', m, n, D, Pl, hcs, _, hl, hm, hmm, _, hx⟩
  · simp [Value.cells] at hcs
    obtain ⟨rfl, rfl, rfl⟩ := hcs
    exact ⟨[], rfl, Nat.le_refl _, by unfold maxLen; omega, fun k hk => absurd hk (by simp), by simp⟩
  · simp [Value.cells] at hcs
    obtain ⟨rfl, rfl, rfl⟩ := hcs
    rw [cells_Ed] at hx
    have hmc : m = cap := by simpa using hmm
    subst hmc
    obtain ⟨f, hfn⟩ := choose_lt (α := Ed) (n := len) (p := fun i y => ∀ j, j < 2 → w.cell? ((a'.add (i * 2)).add j) = [Value.int .i64 y.p, Value.int .i64 y.q][j]? ∧ wf64 y.p ∧ wf64 y.q) (fun i hi => by
      obtain ⟨cs', h1, h2⟩ := hx i (by omega)
      obtain ⟨y, rfl, hw⟩ := read_Ed h2
      obtain ⟨_, _, h3⟩ := World.cells?_some h1
      exact ⟨y, fun j hj => ⟨h3 j hj, hw⟩⟩)
    refine ⟨(List.range len).map f, by simp, hl, hm, ?_, ?_⟩
    · intro k hk
      have hk' : k < len := by simpa using hk
      obtain ⟨b, off, spot⟩ := a'
      have g0 := (hfn k hk' 0 (by omega)).1
      have g1 := (hfn k hk' 1 (by omega)).1
      have hspot : spot = none := by
        by_cases h0 : k = 0
        · subst h0; simpa [Addr.add] using World.cell?_spot g0
        · have := hfn 0 (by omega) 0 (by omega)
          simpa [Addr.add] using World.cell?_spot this.1
      subst hspot
      rw [add_add] at g0 g1
      simp only [add_plain] at g0
      simp at g0 g1 ⊢
      refine ⟨b, off, ⟨rfl, rfl⟩, ?_, g0, by rw [Nat.add_assoc]; exact g1⟩
      have := g0
      simp only [World.cell?] at this
      cases hb : w.heap[b]? with
      | none => simp [hb] at this
      | some o => exact (Array.getElem?_eq_some_iff.1 hb).1
    · intro y hy
      obtain ⟨i, hi, rfl⟩ := List.mem_map.1 hy
      exact (hfn i (by simpa using hi) 0 (by omega)).2
end Go.Proofs.YtbcehnhiedbbbaaDoor
