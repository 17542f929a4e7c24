/- What the row's condition on star.table gives a walk. -/
import Derived.Test.YtcgnhnmigmdalaaDoorOpA
import Derived.Test.YtcgnhnmigmdalaaDoorStA
set_option linter.unusedVariables false
set_option linter.unusedSimpArgs false
set_option maxRecDepth 100000
namespace Go.Proofs.YtcgnhnmigmdalaaDoor
open Go.ChangeShapes Go.WideShapes Go.ChangeAt Go.RowKit
theorem cells_rw : Tryd.prog.cellsOf 92 = 3 := by kernel_rfl
theorem cells_tb : Tryd.prog.cellsOf 93 = 24 := by kernel_rfl
theorem cells_str : Tryd.prog.cellsOf 9 = 1 := by kernel_rfl
theorem cells_in : Tryd.prog.cellsOf 3 = 1 := by kernel_rfl
theorem name_st : Tryd.prog.globalNamed "ephemeris/star.table" = some 0 := by kernel_rfl
theorem type_st : (Tryd.prog.globals[(0 : Nat)]?).map (·.type) = some 93 := by kernel_rfl
theorem read_row {w : World} {fuel : Nat} {cs : List Value} {bs : List UInt8} {a b : Int} {p : List MemPlace} (h : DataW.trod (fun _ => ()) Tryd.prog w 0 (fun _ => true) false fuel 92 cs = some (.agg [.lit (.string bs), .lit (.int .i64 a), .lit (.int .i64 b)], p)) :
    cs = [.string ⟨⟨bs⟩⟩, .int .i64 a, .int .i64 b] := by
  obtain ⟨xs, n, _, hx, hl, hlen, hf⟩ := DataW.trod_struct Tryd.underlying92 h
  rw [cells_rw] at hl
  match cs, hl, xs, hlen with
  | [c0, c1, c2], _, [y0, y1, y2], _ =>
    have f0 := hf 0 _ rfl
    have f1 := hf 1 _ rfl
    have f2 := hf 2 _ rfl
    simp [cells_str, cells_in] at f0 f1 f2
    obtain ⟨s, e0, g0, _⟩ := DataW.trod_string Tryd.underlying9 f0
    obtain ⟨i1, e1, g1, _⟩ := DataW.trod_int Tryd.underlying3 f1
    obtain ⟨i2, e2, g2, _⟩ := DataW.trod_int Tryd.underlying3 f2
    subst g0 g1 g2
    simp at e0 e1 e2 hx
    obtain ⟨⟨hs, h1, h2⟩, _⟩ := hx
    subst e0 e1 e2 h1 h2
    have hs2 : s = ⟨⟨bs⟩⟩ := by cases s with | mk d => cases d with | mk l => simp_all
    rw [hs2]
theorem read_tb {w : World} {fuel : Nat} {cs : List Value} {p : List MemPlace} (h : DataW.trod (fun _ => ()) Tryd.prog w 0 (fun _ => true) false fuel 93 cs = some (Rows.laid_ephemeris_star_table, p)) : cs.toArray = stCells := by
  obtain ⟨xs, m, _, hx, hl, hlen, hf⟩ := DataW.trod_array Tryd.underlying93 h
  rw [cells_tb] at hl
  rw [cells_rw] at hf
  match xs, hlen with
  | [(y0, z0), (y1, z1), (y2, z2), (y3, z3), (y4, z4), (y5, z5), (y6, z6), (y7, z7)], _ =>
    simp [Rows.laid_ephemeris_star_table] at hx
    obtain ⟨⟨g0, g1, g2, g3, g4, g5, g6, g7⟩, _⟩ := hx
    subst g0 g1 g2 g3 g4 g5 g6 g7
    have r0 := read_row (hf 0 (by omega))
    have r1 := read_row (hf 1 (by omega))
    have r2 := read_row (hf 2 (by omega))
    have r3 := read_row (hf 3 (by omega))
    have r4 := read_row (hf 4 (by omega))
    have r5 := read_row (hf 5 (by omega))
    have r6 := read_row (hf 6 (by omega))
    have r7 := read_row (hf 7 (by omega))
    have e : cs = (cs.drop (0 * 3)).take 3 ++ ((cs.drop (1 * 3)).take 3 ++ ((cs.drop (2 * 3)).take 3 ++ ((cs.drop (3 * 3)).take 3 ++ ((cs.drop (4 * 3)).take 3 ++ ((cs.drop (5 * 3)).take 3 ++ ((cs.drop (6 * 3)).take 3 ++ ((cs.drop (7 * 3)).take 3))))))) := by
      match cs, hl with
      | [c0, c1, c2, c3, c4, c5, c6, c7, c8, c9, c10, c11, c12, c13, c14, c15, c16, c17, c18, c19, c20, c21, c22, c23], _ => rfl
    rw [e, r0, r1, r2, r3, r4, r5, r6, r7]
    rfl
theorem stab_of_laid {W : World} {a b c : String × DataW Unit} (h : laidMet Tryd.prog [a, b, c, ("ephemeris/star.table", Rows.laid_ephemeris_star_table)] W) : STab W := by
  obtain ⟨ps, ⟨_, _, _, _, _, _, _, _, _, _, ⟨_, _, _, _, _, _, _, _, _, _, ⟨_, _, _, _, _, _, _, _, _, _, ⟨g, t, cs, fuel, p, q, hg, ht, hvar, hd, _⟩, _⟩, _⟩, _⟩, _⟩ := h
  obtain rfl := Option.some.inj (name_st.symm.trans hg)
  obtain rfl := Option.some.inj (type_st.symm.trans ht)
  have e1 := read_tb hd
  simp only [World.var?, name_st, Option.bind_some] at hvar
  split at hvar
  · rename_i cs' t' fr' hh
    have : cs' = stCells := by
      have := Option.some.inj hvar
      rw [this]; simpa using e1
    subst this
    exact ⟨t', fr', hh⟩
  · cases hvar
/-- A world in which the tables hold what the program's text lays. -/
noncomputable def laidWorld4 (os : Os) : World :=
  let w0 := World.holding Tryd.prog os ⟨#[], #[], []⟩
  { w0 with heap := (((w0.heap.modify 5 fun
      | .cells _ t frozen => .cells #[.float .f64 4460209587652500685, .float .f64 13716528389658582877, .float .f64 4523617212962785441, .float .f64 13774824197404483331, .float .f64 4575957461383575504, .float .f64 13818544856648471880] t frozen
      | o => o).modify 4 fun
      | .cells _ t frozen => .cells #[.float .f64 13666448263388469915, .float .f64 4477121864728985349, .float .f64 13732177093698800582, .float .f64 4537941361668146421, .float .f64 13787419979223748497, .float .f64 4586165620538955083] t frozen
      | o => o).modify 6 fun
      | .cells _ t frozen => .cells #[.int .u64 1, .int .u64 5040379952546458195, .int .u64 17892431488136887169, .int .u64 13169980181085364355, .int .u64 18204331823439776451, .int .u64 7946843935494350272, .int .u64 905889640498799673, .int .u64 18175356263134875261, .int .u64 15061281708168349961, .int .u64 15220161563773041794, .int .u64 8296664548579374057, .int .u64 4109744767560208502, .int .u64 4607516669194743839, .int .u64 16023283104648321598, .int .u64 15739233654134936430, .int .u64 11424645774684705882, .int .u64 16883842788696515318, .int .u64 8795094592981902804, .int .u64 15561835991111744016, .int .u64 12395701187267450711] t frozen
      | o => o).modify 0 fun
      | .cells _ t frozen => .cells stCells t frozen
      | o => o }
theorem laid_met4 (os : Os) (args : Array Value) : laidMet Tryd.prog [("math._sin", Rows.laid_math_sin), ("math._cos", Rows.laid_math_cos), ("math.mPi4", Rows.laid_math_mPi4), ("ephemeris/star.table", Rows.laid_ephemeris_star_table)] ((laidWorld4 os).forCall (fun _ _ => 0) ⟨#[], args, []⟩).memory :=
  laidMet_of_run' 8 (by kernel_rfl) (by kernel_rfl)
end Go.Proofs.YtcgnhnmigmdalaaDoor
