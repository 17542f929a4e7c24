/- How integers and intervals that came in read. How a slice of api.SeriesTerm that came in reads. How a sum of terms that came in reads. What the rows' condition on the tables of math.Sin gives a walk; a world that meets it. -/
import Derived.Test.YtcgnhnmigmdalaaGreatDoorProg
import Derived.ProofKit
import Derived.OpenShut
import Derived.Deep.Slices
import Derived.Test.YtcgnhnmigmdalaaGreatDoorWkA
import Derived.Test.YtcgnhnmigmdalaaGreatDoorWkD
import Derived.Lib.SmallJoins
import Derived.Test.YtcgnhnmigmdalaaGreatDoorRows
import Derived.Test.YtcgnhnmigmdalaaGreatDoorWkC
import Derived.LaidLaws
set_option linter.unusedVariables false
set_option linter.unusedSimpArgs false
namespace Go.Proofs.YtcgnhnmigmdalaaGreatDoor
section
set_option maxRecDepth 100000
open Go.ChangeShapes Go.WideShapes Go.ChangeAt Go.RowKit Go.Deep
theorem cells_int : Tryz.prog.cellsOf 3 = 1 := by kernel_rfl
theorem cells_span : Tryz.prog.cellsOf 27 = 2 := by kernel_rfl
def wf64 (n : Int) : Prop := -9223372036854775808 ≤ n ∧ n ≤ 9223372036854775807
theorem wf64_of {n : Int} (h : (Lit.int .i64 n).wf = true) : wf64 n := by
  simpa [wf64, Lit.wf, IntKind.min, IntKind.max, IntKind.signed, IntKind.bits] using h
section
variable {H : Type} {enc : TypeId × Value → H} {w : World} {base : Nat} {spare : Nat → Bool} {held : Bool} {fuel : Nat} {cs : List Value} {x : DataW H × List MemPlace}
theorem read_int (h : DataW.trod enc Tryz.prog w base spare held fuel 3 cs = some x) : ∃ n : Int, cs = [.int .i64 n] ∧ wf64 n := by
  obtain ⟨n, h1, _, h2⟩ := DataW.trod_int Tryz.underlying3 h
  exact ⟨n, h1, wf64_of h2⟩
theorem read_span (h : DataW.trod enc Tryz.prog w base spare held fuel 27 cs = some x) : ∃ lo hi : Int, cs = [.int .i64 lo, .int .i64 hi] ∧ wf64 lo ∧ wf64 hi := by
  obtain ⟨xs, n, _, _, hl, hlen, hf⟩ := DataW.trod_struct Tryz.underlying27 h
  rw [cells_span] at hl
  match cs, hl, xs, hlen with
  | [c0, c1], _, [y0, y1], _ =>
    have g0 := hf 0 _ rfl
    change DataW.trod enc Tryz.prog w base spare held n 3 (List.take (Tryz.prog.cellsOf 3) _) = _ at g0
    rw [cells_int] at g0
    obtain ⟨a, e0, w0⟩ := read_int g0
    have g1 := hf 1 _ rfl
    change DataW.trod enc Tryz.prog w base spare held n 3 (List.take (Tryz.prog.cellsOf 3) _) = _ at g1
    rw [cells_int] at g1
    obtain ⟨b, e1, w1⟩ := read_int g1
    simp at e0 e1
    exact ⟨a, b, by simp [e0, e1], w0, w1⟩
end
end
section
set_option maxRecDepth 100000
open Go.ChangeShapes Go.WideShapes Go.ChangeAt Go.RowKit Go.Deep
theorem cells_Tm : Tryz.prog.cellsOf 105 = 3 := by kernel_rfl
section
variable {H : Type} {enc : TypeId × Value → H} {w : World} {base : Nat} {spare : Nat → Bool} {held : Bool} {fuel : Nat} {cs : List Value} {x : DataW H × List MemPlace}
theorem read_Tm (h : DataW.trod enc Tryz.prog w base spare held fuel 105 cs = some x) : ∃ y : Tm, cs = [Value.int .i64 y.amp, Value.int .i64 y.ph, Value.int .i64 y.rt] ∧ wf64 y.amp ∧ wf64 y.ph ∧ wf64 y.rt := by
  obtain ⟨xs, n, _, _, hl, hlen, hf⟩ := DataW.trod_struct Tryz.underlying105 h
  rw [cells_Tm] at hl
  match cs, hl, xs, hlen with
  | [c0, c1, c2], _, [y0, y1, y2], _ =>
    have g0 := hf 0 _ rfl
    change DataW.trod enc Tryz.prog w base spare held n 3 (List.take (Tryz.prog.cellsOf 3) _) = _ at g0
    rw [cells_int] at g0
    obtain ⟨v0, e0, w0⟩ := read_int g0
    have g1 := hf 1 _ rfl
    change DataW.trod enc Tryz.prog w base spare held n 3 (List.take (Tryz.prog.cellsOf 3) _) = _ at g1
    rw [cells_int] at g1
    obtain ⟨v1, e1, w1⟩ := read_int g1
    have g2 := hf 2 _ rfl
    change DataW.trod enc Tryz.prog w base spare held n 3 (List.take (Tryz.prog.cellsOf 3) _) = _ at g2
    rw [cells_int] at g2
    obtain ⟨v2, e2, w2⟩ := read_int g2
    simp at e0 e1 e2
    exact ⟨⟨v0, v1, v2⟩, by simp [e0, e1, e2], w0, w1, w2⟩
end
theorem open_Tm {H : Type} {enc : TypeId × Value → H} {w : World} {a : Option Addr} {len cap : Nat} {d : DataW H} {p : List MemPlace}
    (h : DataW.Trod enc Tryz.prog w 0 (fun _ => true) true 84 (.slice a len cap) d p) :
    ∃ l : List Tm, l.length = len ∧ len ≤ cap ∧ cap ≤ maxLen ∧ TmSlice w a l ∧ ∀ y ∈ l, wf64 y.amp ∧ wf64 y.ph ∧ wf64 y.rt := by
  obtain ⟨fuel, hf⟩ := h
  rcases open_slice Tryz.underlying84 hf with ⟨hcs, _⟩ | ⟨a', len', cap', m, n, D, Pl, hcs, _, hl, hm, hmm, _, hx⟩
  · simp [Value.cells] at hcs
    obtain ⟨rfl, rfl, rfl⟩ := hcs
    exact ⟨[], rfl, Nat.le_refl _, by unfold maxLen; omega, fun k hk => absurd hk (by simp), by simp⟩
  · simp [Value.cells] at hcs
    obtain ⟨rfl, rfl, rfl⟩ := hcs
    rw [cells_Tm] at hx
    have hmc : m = cap := by simpa using hmm
    subst hmc
    obtain ⟨f, hfn⟩ := choose_lt (α := Tm) (n := len) (p := fun i y => ∀ j, j < 3 → w.cell? ((a'.add (i * 3)).add j) = [Value.int .i64 y.amp, Value.int .i64 y.ph, Value.int .i64 y.rt][j]? ∧ wf64 y.amp ∧ wf64 y.ph ∧ wf64 y.rt) (fun i hi => by
      obtain ⟨cs', h1, h2⟩ := hx i (by omega)
      obtain ⟨y, rfl, hw⟩ := read_Tm h2
      obtain ⟨_, _, h3⟩ := World.cells?_some h1
      exact ⟨y, fun j hj => ⟨h3 j hj, hw⟩⟩)
    refine ⟨(List.range len).map f, by simp, hl, hm, ?_, ?_⟩
    · intro k hk
      have hk' : k < len := by simpa using hk
      obtain ⟨b, off, spot⟩ := a'
      have g0 := (hfn k hk' 0 (by omega)).1
      have g1 := (hfn k hk' 1 (by omega)).1
      have g2 := (hfn k hk' 2 (by omega)).1
      have hspot : spot = none := by
        by_cases h0 : k = 0
        · subst h0; simpa [Addr.add] using World.cell?_spot g0
        · have := hfn 0 (by omega) 0 (by omega)
          simpa [Addr.add] using World.cell?_spot this.1
      subst hspot
      rw [add_add] at g0 g1 g2
      simp only [add_plain] at g0 g1 g2
      simp at g0 g1 g2 ⊢
      refine ⟨b, off, ⟨rfl, rfl⟩, ?_, g0, by rw [Nat.add_assoc]; exact g1, by rw [Nat.add_assoc]; exact g2⟩
      have := g0
      simp only [World.cell?] at this
      cases hb : w.heap[b]? with
      | none => simp [hb] at this
      | some o => exact (Array.getElem?_eq_some_iff.1 hb).1
    · intro y hy
      obtain ⟨i, hi, rfl⟩ := List.mem_map.1 hy
      exact (hfn i (by simpa using hi) 0 (by omega)).2
end
section
set_option maxRecDepth 100000
open Go.ChangeShapes Go.WideShapes Go.ChangeAt Go.RowKit Go.Joins
theorem cells_sum : Tryz.prog.cellsOf 86 = 4 := by kernel_rfl
theorem open_sum {H : Type} {enc : TypeId × Value → H} {w : World} {b0 : Nat} {v : Value} {d : DataW H} {p : List MemPlace} (hv : Value.okWide Tryz.prog w .any b0 86 v) (h : DataW.Trod enc Tryz.prog w 0 (fun _ => true) true 86 v d p) :
    ∃ (m r : Int) (a : Option Addr) (len cap : Nat) (s : Int) (l : List Tm), v = sumV m r a len cap s ∧ l.length = len ∧ len ≤ cap ∧ TmSlice w a l := by
  obtain ⟨c0, c1, c2, c3, y0, y1, y2, y3, n, rfl, rfl, rfl, h0, h1, h2, h3⟩ := open_agg4 Tryz.underlying86 (by kernel_rfl) cells_sum hv h
  obtain ⟨m, e0, _, _⟩ := DataW.trod_int Tryz.underlying3 h0
  obtain ⟨r, e1, _, _⟩ := DataW.trod_int Tryz.underlying3 h1
  obtain ⟨s, e3, _, _⟩ := DataW.trod_int Tryz.underlying3 h3
  obtain ⟨a, len, cap, e2⟩ := slice_form Tryz.underlying84 h2
  simp at e0 e1 e2 e3
  subst e0 e1 e2 e3
  obtain ⟨l, l1, l2, _, l4, _⟩ := open_Tm (d := y2.1) (p := y2.2) ⟨n, by simpa [Value.cells] using h2⟩
  exact ⟨m, r, a, len, cap, s, l, rfl, l1, l2, l4⟩
end
section
open Go.ChangeShapes Go.WideShapes Go.ChangeAt Go.RowKit
theorem cells_flt : Tryz.prog.cellsOf 97 = 1 := by kernel_rfl
set_option maxRecDepth 100000 in
theorem read_flt {H : Type} {enc : TypeId × Value → H} {w : World} {base : Nat} {spare : Nat → Bool} {held : Bool} {fuel : Nat} {cs : List Value} {x : DataW H × List MemPlace} (h : DataW.trod enc Tryz.prog w base spare held fuel 97 cs = some x) : ∃ b, cs = [.float .f64 b] ∧ x = (.lit (.float .f64 b), []) := by
  cases fuel with
  | zero => simp [DataW.trod] at h
  | succ n =>
    unfold DataW.trod at h
    rw [Tryz.underlying97] at h
    split at h <;> simp_all
theorem read_six {w : World} {fuel : Nat} {cs : List Value} {p : List MemPlace} {b0 b1 b2 b3 b4 b5 : Nat} (h : DataW.trod (fun _ => ()) Tryz.prog w 0 (fun _ => true) false fuel 135 cs = some (.agg [.lit (.float .f64 b0), .lit (.float .f64 b1), .lit (.float .f64 b2), .lit (.float .f64 b3), .lit (.float .f64 b4), .lit (.float .f64 b5)], p)) :
    cs = [.float .f64 b0, .float .f64 b1, .float .f64 b2, .float .f64 b3, .float .f64 b4, .float .f64 b5] := by
  obtain ⟨xs, m, _, hx, hl, hlen, hf⟩ := DataW.trod_array Tryz.underlying135 h
  rw [show Tryz.prog.cellsOf 135 = 6 by kernel_rfl] at hl
  rw [cells_flt] at hf
  match cs, hl, xs, hlen with
  | [c0, c1, c2, c3, c4, c5], _, [y0, y1, y2, y3, y4, y5], _ =>
    obtain ⟨v0, e0, f0⟩ := read_flt (show _ = some y0 from hf 0 (by omega))
    obtain ⟨v1, e1, f1⟩ := read_flt (show _ = some y1 from hf 1 (by omega))
    obtain ⟨v2, e2, f2⟩ := read_flt (show _ = some y2 from hf 2 (by omega))
    obtain ⟨v3, e3, f3⟩ := read_flt (show _ = some y3 from hf 3 (by omega))
    obtain ⟨v4, e4, f4⟩ := read_flt (show _ = some y4 from hf 4 (by omega))
    obtain ⟨v5, e5, f5⟩ := read_flt (show _ = some y5 from hf 5 (by omega))
    subst f0 f1 f2 f3 f4 f5
    simp at e0 e1 e2 e3 e4 e5 hx
    obtain ⟨⟨rfl, rfl, rfl, rfl, rfl, rfl⟩, _⟩ := hx
    simp [e0, e1, e2, e3, e4, e5]
theorem name_sin : Tryz.prog.globalNamed "math._sin" = some 3 := by kernel_rfl
theorem name_cos : Tryz.prog.globalNamed "math._cos" = some 2 := by kernel_rfl
theorem type_sin : (Tryz.prog.globals[(3 : Nat)]?).map (·.type) = some 135 := by kernel_rfl
theorem type_cos : (Tryz.prog.globals[(2 : Nat)]?).map (·.type) = some 135 := by kernel_rfl
/-- The tables, from the row's condition (whatever is listed behind them). -/
theorem tab_of_laid {W : World} {l : List (String × DataW Unit)} (h : laidMet Tryz.prog (("math._sin", Rows.laid_math_sin) :: ("math._cos", Rows.laid_math_cos) :: l) W) : Tab W := by
  obtain ⟨ps, ⟨g, t, cs, fuel, p, q, hg, ht, hvar, hd, ⟨g', t', cs', fuel', p', q', hg', ht', hvar', hd', _, _⟩, _⟩, _⟩ := h
  obtain rfl := Option.some.inj (name_sin.symm.trans hg)
  obtain rfl := Option.some.inj (type_sin.symm.trans ht)
  obtain rfl := Option.some.inj (name_cos.symm.trans hg')
  obtain rfl := Option.some.inj (type_cos.symm.trans ht')
  have e1 := read_six hd
  have e2 := read_six hd'
  have c := fun o => World.var?_cell hg hvar o
  have c' := fun o => World.var?_cell hg' hvar' o
  obtain ⟨ls⟩ := cs
  obtain ⟨lc⟩ := cs'
  simp only at e1 e2
  subst e1 e2
  constructor
  · exact c' 0
  · exact c' 1
  · exact c' 2
  · exact c' 3
  · exact c' 4
  · exact c' 5
  · exact c 0
  · exact c 1
  · exact c 2
  · exact c 3
  · exact c 4
  · exact c 5
/-- A world in which the tables hold what the program's text lays. -/
noncomputable def laidWorld (os : Os) : World :=
  let w0 := World.holding Tryz.prog os ⟨#[], #[], []⟩
  { w0 with heap := ((w0.heap.modify 3 fun
      | .cells _ t frozen => .cells #[.float .f64 4460209587652500685, .float .f64 13716528389658582877, .float .f64 4523617212962785441, .float .f64 13774824197404483331, .float .f64 4575957461383575504, .float .f64 13818544856648471880] t frozen
      | o => o).modify 2 fun
      | .cells _ t frozen => .cells #[.float .f64 13666448263388469915, .float .f64 4477121864728985349, .float .f64 13732177093698800582, .float .f64 4537941361668146421, .float .f64 13787419979223748497, .float .f64 4586165620538955083] t frozen
      | o => o).modify 6 fun
      | .cells _ t frozen => .cells #[.int .u64 1, .int .u64 5040379952546458195, .int .u64 17892431488136887169, .int .u64 13169980181085364355, .int .u64 18204331823439776451, .int .u64 7946843935494350272, .int .u64 905889640498799673, .int .u64 18175356263134875261, .int .u64 15061281708168349961, .int .u64 15220161563773041794, .int .u64 8296664548579374057, .int .u64 4109744767560208502, .int .u64 4607516669194743839, .int .u64 16023283104648321598, .int .u64 15739233654134936430, .int .u64 11424645774684705882, .int .u64 16883842788696515318, .int .u64 8795094592981902804, .int .u64 15561835991111744016, .int .u64 12395701187267450711] t frozen
      | o => o }
theorem laid_met (os : Os) (args : Array Value) : laidMet Tryz.prog [("math._sin", Rows.laid_math_sin), ("math._cos", Rows.laid_math_cos), ("math.mPi4", Rows.laid_math_mPi4)] ((laidWorld os).forCall (fun _ _ => 0) ⟨#[], args, []⟩).memory :=
  laidMet_of_run' 8 (by kernel_rfl) (by kernel_rfl)
end
end Go.Proofs.YtcgnhnmigmdalaaGreatDoor
