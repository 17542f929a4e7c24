/- What the row's condition on riseset.limits gives a walk. -/
import Derived.Test.YtcgnhnmigmdalaaGreatDoorOpA
import Derived.Test.YtcgnhnmigmdalaaGreatDoorRsA
set_option linter.unusedVariables false
set_option linter.unusedSimpArgs false
set_option maxRecDepth 100000
namespace Go.Proofs.YtcgnhnmigmdalaaGreatDoor
open Go.ChangeShapes Go.WideShapes Go.ChangeAt Go.RowKit
theorem cells_li : Tryz.prog.cellsOf 3 = 1 := by kernel_rfl
theorem cells_l2 : Tryz.prog.cellsOf 100 = 2 := by kernel_rfl
theorem name_lim : Tryz.prog.globalNamed "ephemeris/riseset.limits" = some 0 := by kernel_rfl
theorem type_lim : (Tryz.prog.globals[(0 : Nat)]?).map (·.type) = some 100 := by kernel_rfl
theorem read_lim {w : World} {fuel : Nat} {cs : List Value} {p : List MemPlace} (h : DataW.trod (fun _ => ()) Tryz.prog w 0 (fun _ => true) false fuel 100 cs = some (Rows.laid_ephemeris_riseset_limits, p)) : cs = [.int .i64 (-14543900), .int .i64 2182000] := by
  obtain ⟨xs, m, _, hx, hl, hlen, hf⟩ := DataW.trod_array Tryz.underlying100 h
  rw [cells_l2] at hl
  rw [cells_li] at hf
  match cs, hl, xs, hlen with
  | [c0, c1], _, [(y0, z0), (y1, z1)], _ =>
    simp [Rows.laid_ephemeris_riseset_limits] at hx
    obtain ⟨⟨g0, g1⟩, _⟩ := hx
    subst g0 g1
    have f0 := hf 0 (by omega)
    have f1 := hf 1 (by omega)
    simp at f0 f1
    obtain ⟨i0, e0, k0, _⟩ := DataW.trod_int Tryz.underlying3 f0
    obtain ⟨i1, e1, k1, _⟩ := DataW.trod_int Tryz.underlying3 f1
    simp at e0 e1 k0 k1
    simp [*]
theorem ltab_of_laid {W : World} {a b c : String × DataW Unit} (h : laidMet Tryz.prog [a, b, c, ("ephemeris/riseset.limits", Rows.laid_ephemeris_riseset_limits)] W) : LTab W := by
  obtain ⟨ps, ⟨_, _, _, _, _, _, _, _, _, _, ⟨_, _, _, _, _, _, _, _, _, _, ⟨_, _, _, _, _, _, _, _, _, _, ⟨g, t, cs, fuel, p, q, hg, ht, hvar, hd, _⟩, _⟩, _⟩, _⟩, _⟩ := h
  obtain rfl := Option.some.inj (name_lim.symm.trans hg)
  obtain rfl := Option.some.inj (type_lim.symm.trans ht)
  have e1 := read_lim hd
  have cc := fun o => World.var?_cell hg hvar o
  obtain ⟨ls⟩ := cs
  simp only at e1
  subst e1
  have c0 := cc 0
  have c1 := cc 1
  refine ⟨?_, c0, c1⟩
  by_cases hq : 0 < W.heap.size
  · exact hq
  · exfalso
    have : W.cell? ⟨0, 0, none⟩ = none := by
      unfold World.cell?
      simp [Array.getElem?_eq_none (Nat.not_lt.1 hq)]
    rw [this] at c0
    cases c0
/-- A world in which the tables hold what the program's text lays. -/
noncomputable def laidWorldR (os : Os) : World :=
  let w0 := World.holding Tryz.prog os ⟨#[], #[], []⟩
  { w0 with heap := (((w0.heap.modify 3 fun
      | .cells _ t frozen => .cells #[.float .f64 4460209587652500685, .float .f64 13716528389658582877, .float .f64 4523617212962785441, .float .f64 13774824197404483331, .float .f64 4575957461383575504, .float .f64 13818544856648471880] t frozen
      | o => o).modify 2 fun
      | .cells _ t frozen => .cells #[.float .f64 13666448263388469915, .float .f64 4477121864728985349, .float .f64 13732177093698800582, .float .f64 4537941361668146421, .float .f64 13787419979223748497, .float .f64 4586165620538955083] t frozen
      | o => o).modify 6 fun
      | .cells _ t frozen => .cells #[.int .u64 1, .int .u64 5040379952546458195, .int .u64 17892431488136887169, .int .u64 13169980181085364355, .int .u64 18204331823439776451, .int .u64 7946843935494350272, .int .u64 905889640498799673, .int .u64 18175356263134875261, .int .u64 15061281708168349961, .int .u64 15220161563773041794, .int .u64 8296664548579374057, .int .u64 4109744767560208502, .int .u64 4607516669194743839, .int .u64 16023283104648321598, .int .u64 15739233654134936430, .int .u64 11424645774684705882, .int .u64 16883842788696515318, .int .u64 8795094592981902804, .int .u64 15561835991111744016, .int .u64 12395701187267450711] t frozen
      | o => o).modify 0 fun
      | .cells _ t frozen => .cells #[.int .i64 (-14543900), .int .i64 2182000] t frozen
      | o => o }
theorem laid_metR (os : Os) (args : Array Value) : laidMet Tryz.prog [("math._sin", Rows.laid_math_sin), ("math._cos", Rows.laid_math_cos), ("math.mPi4", Rows.laid_math_mPi4), ("ephemeris/riseset.limits", Rows.laid_ephemeris_riseset_limits)] ((laidWorldR os).forCall (fun _ _ => 0) ⟨#[], args, []⟩).memory :=
  laidMet_of_run' 8 (by kernel_rfl) (by kernel_rfl)
end Go.Proofs.YtcgnhnmigmdalaaGreatDoor
