/- The Lean type of api.FigurePoint. What the walks know of a slice of api.FigurePoint. How a slice of api.FigurePoint that came in reads. Where element k of a slice of api.FigurePoint lies. -/
import Derived.Below
import Derived.Test.YtbcehnhiedbbbaaDoorOpen0
import Derived.Test.YtbcehnhiedbbbaaDoorProg
import Derived.WalkKit
set_option linter.unusedVariables false
set_option linter.unusedSimpArgs false
namespace Go.Proofs.YtbcehnhiedbbbaaDoor
section
structure Fp where
  xn : Int
  xd : Int
  yn : Int
  yd : Int
instance : Inhabited Fp := ⟨⟨0, 0, 0, 0⟩⟩
end
section
open Go.RowKit
def FpSlice (w : World) (a : Option Addr) (l : List Fp) : Prop := ∀ k (h : k < l.length), ∃ b off, a = some ⟨b, off, none⟩ ∧ b < w.heap.size ∧ w.cell? ⟨b, off + k * 4, none⟩ = some (.int .i64 l[k].xn) ∧ w.cell? ⟨b, off + k * 4 + 1, none⟩ = some (.int .i64 l[k].xd) ∧ w.cell? ⟨b, off + k * 4 + 2, none⟩ = some (.int .i64 l[k].yn) ∧ w.cell? ⟨b, off + k * 4 + 3, none⟩ = some (.int .i64 l[k].yd)
theorem FpSlice.below {B : Nat} {w w' : World} {a : Option Addr} {l : List Fp} (h : FpSlice w a l) (hs : w.heap.size ≤ B) (hb : Below B w w') : FpSlice w' a l := by
  intro k hk
  obtain ⟨b, off, h1, h2, c0, c1, c2, c3⟩ := h k hk
  exact ⟨b, off, h1, Nat.lt_of_lt_of_le h2 hb.size, (hb.cell (p := ⟨b, _, none⟩) (Nat.lt_of_lt_of_le h2 hs)).trans c0, (hb.cell (p := ⟨b, _, none⟩) (Nat.lt_of_lt_of_le h2 hs)).trans c1, (hb.cell (p := ⟨b, _, none⟩) (Nat.lt_of_lt_of_le h2 hs)).trans c2, (hb.cell (p := ⟨b, _, none⟩) (Nat.lt_of_lt_of_le h2 hs)).trans c3⟩
end
section
set_option maxRecDepth 100000
open Go.ChangeShapes Go.WideShapes Go.ChangeAt Go.RowKit Go.Deep
theorem cells_Fp : Tryd.prog.cellsOf 63 = 4 := by kernel_rfl
theorem cells_frac : Tryd.prog.cellsOf 61 = 2 := by kernel_rfl
section
variable {H : Type} {enc : TypeId × Value → H} {w : World} {base : Nat} {spare : Nat → Bool} {held : Bool} {fuel : Nat} {cs : List Value} {x : DataW H × List MemPlace}
theorem read_frac (h : DataW.trod enc Tryd.prog w base spare held fuel 61 cs = some x) : ∃ n d : Int, cs = [Value.int .i64 n, Value.int .i64 d] ∧ wf64 n ∧ wf64 d := by
  obtain ⟨xs, n, _, _, hl, hlen, hf⟩ := DataW.trod_struct Tryd.underlying61 h
  rw [cells_frac] at hl
  match cs, hl, xs, hlen with
  | [c0, c1], _, [y0, y1], _ =>
    have g0 := hf 0 _ rfl
    change DataW.trod enc Tryd.prog w base spare held n 3 (List.take (Tryd.prog.cellsOf 3) _) = _ at g0
    rw [cells_int] at g0
    obtain ⟨v0, e0, w0⟩ := read_int g0
    have g1 := hf 1 _ rfl
    change DataW.trod enc Tryd.prog w base spare held n 3 (List.take (Tryd.prog.cellsOf 3) _) = _ at g1
    rw [cells_int] at g1
    obtain ⟨v1, e1, w1⟩ := read_int g1
    simp at e0 e1
    exact ⟨v0, v1, by simp [e0, e1], w0, w1⟩
theorem read_Fp (h : DataW.trod enc Tryd.prog w base spare held fuel 63 cs = some x) : ∃ y : Fp, cs = [Value.int .i64 y.xn, Value.int .i64 y.xd, Value.int .i64 y.yn, Value.int .i64 y.yd] ∧ wf64 y.xn ∧ wf64 y.xd ∧ wf64 y.yn ∧ wf64 y.yd := by
  obtain ⟨xs, n, _, _, hl, hlen, hf⟩ := DataW.trod_struct Tryd.underlying63 h
  rw [cells_Fp] at hl
  match cs, hl, xs, hlen with
  | [c0, c1, c2, c3], _, [y0, y1], _ =>
    have g0 := hf 0 _ rfl
    change DataW.trod enc Tryd.prog w base spare held n 61 (List.take (Tryd.prog.cellsOf 61) _) = _ at g0
    rw [cells_frac] at g0
    obtain ⟨v0a, v0b, e0, w0, w0b⟩ := read_frac g0
    have g1 := hf 1 _ rfl
    change DataW.trod enc Tryd.prog w base spare held n 61 (List.take (Tryd.prog.cellsOf 61) _) = _ at g1
    rw [cells_frac] at g1
    obtain ⟨v1a, v1b, e1, w1, w1b⟩ := read_frac g1
    simp at e0 e1
    exact ⟨⟨v0a, v0b, v1a, v1b⟩, by simp [e0, e1], w0, w0b, w1, w1b⟩
end
theorem open_Fp {H : Type} {enc : TypeId × Value → H} {w : World} {a : Option Addr} {len cap : Nat} {d : DataW H} {p : List MemPlace}
    (h : DataW.Trod enc Tryd.prog w 0 (fun _ => true) true 54 (.slice a len cap) d p) :
    ∃ l : List Fp, l.length = len ∧ len ≤ cap ∧ cap ≤ maxLen ∧ FpSlice w a l ∧ ∀ y ∈ l, wf64 y.xn ∧ wf64 y.xd ∧ wf64 y.yn ∧ wf64 y.yd := by
  obtain ⟨fuel, hf⟩ := h
  rcases open_slice Tryd.underlying54 hf with ⟨hcs, _⟩ | ⟨a', len', cap', m, n, D, Pl, hcs, _, hl, hm, hmm, _, hx⟩
  · simp [Value.cells] at hcs
    obtain ⟨rfl, rfl, rfl⟩ := hcs
    exact ⟨[], rfl, Nat.le_refl _, by unfold maxLen; omega, fun k hk => absurd hk (by simp), by simp⟩
  · simp [Value.cells] at hcs
    obtain ⟨rfl, rfl, rfl⟩ := hcs
    rw [cells_Fp] at hx
    have hmc : m = cap := by simpa using hmm
    subst hmc
    obtain ⟨f, hfn⟩ := choose_lt (α := Fp) (n := len) (p := fun i y => ∀ j, j < 4 → w.cell? ((a'.add (i * 4)).add j) = [Value.int .i64 y.xn, Value.int .i64 y.xd, Value.int .i64 y.yn, Value.int .i64 y.yd][j]? ∧ wf64 y.xn ∧ wf64 y.xd ∧ wf64 y.yn ∧ wf64 y.yd) (fun i hi => by
      obtain ⟨cs', h1, h2⟩ := hx i (by omega)
      obtain ⟨y, rfl, hw⟩ := read_Fp h2
      obtain ⟨_, _, h3⟩ := World.cells?_some h1
      exact ⟨y, fun j hj => ⟨h3 j hj, hw⟩⟩)
    refine ⟨(List.range len).map f, by simp, hl, hm, ?_, ?_⟩
    · intro k hk
      have hk' : k < len := by simpa using hk
      obtain ⟨b, off, spot⟩ := a'
      have g0 := (hfn k hk' 0 (by omega)).1
      have g1 := (hfn k hk' 1 (by omega)).1
      have g2 := (hfn k hk' 2 (by omega)).1
      have g3 := (hfn k hk' 3 (by omega)).1
      have hspot : spot = none := by
        by_cases h0 : k = 0
        · subst h0; simpa [Addr.add] using World.cell?_spot g0
        · have := hfn 0 (by omega) 0 (by omega)
          simpa [Addr.add] using World.cell?_spot this.1
      subst hspot
      rw [add_add] at g0 g1 g2 g3
      simp only [add_plain] at g0 g1 g2
      simp at g0 g1 g2 g3 ⊢
      refine ⟨b, off, ⟨rfl, rfl⟩, ?_, g0, by rw [Nat.add_assoc]; exact g1, by rw [Nat.add_assoc]; exact g2, by rw [Nat.add_assoc]; exact g3⟩
      have := g0
      simp only [World.cell?] at this
      cases hb : w.heap[b]? with
      | none => simp [hb] at this
      | some o => exact (Array.getElem?_eq_some_iff.1 hb).1
    · intro y hy
      obtain ⟨i, hi, rfl⟩ := List.mem_map.1 hy
      exact (hfn i (by simpa using hi) 0 (by omega)).2
end
section
open Go.RowKit
theorem ix_Fp {a : Option Addr} {b off len cap k : Nat} (ha : a = some ⟨b, off, none⟩) (hk : k < len) : ∀ w, (Instr.indexAt 54 (.slice a len cap) (.int .i64 k)).run Tryd.prog w = .ok (.pointer (some ⟨b, off + k * 4, none⟩)) w := by
  intro w
  subst ha
  have h1 : (k : Int) < (len : Int) := by omega
  go_simp
end
end Go.Proofs.YtbcehnhiedbbbaaDoor
