/- The walk through gauge.solve: Cramer's rule, divided by the greatest common divisor. The contracts of gauge.Fit and gauge.Residual. -/
import Derived.Test.YtcgnhnmigmdalaaDoorGgD
import Derived.Test.YtcgnhnmigmdalaaDoorGgC
import Derived.Test.YtcgnhnmigmdalaaDoorGgB
set_option linter.unusedVariables false
set_option linter.unusedSimpArgs false
namespace Go.Proofs.YtcgnhnmigmdalaaDoor
section
open Go.RowKit
theorem rowL_col (M : Nat → Nat → Int) (V : Nat → Int) (n k i : Nat) : (rowL M n i).set k (.int .i64 (V i)) = rowL (colM M V k) n i := by
  apply List.ext_getElem
  · simp [rowL]
  · intro j h1 h2
    simp only [List.getElem_set, rowL, List.getElem_map, List.getElem_range]
    by_cases e : k = j
    · subst e; rw [if_pos rfl]; unfold colM; rw [if_pos rfl]
    · rw [if_neg e]; unfold colM; rw [if_neg (fun h => e h.symm)]
/-- A struct of a list of numbers and a denominator, in memory. -/
structure FitAt (w : World) (b : Nat) (v : Value) (d : Int) : Prop where
  lt : b < w.heap.size
  c0 : w.cell? ⟨b, 0, none⟩ = some v
  c1 : w.cell? ⟨b, 1, none⟩ = some (.int .i64 d)
  fr : ∀ o, w.frozen? ⟨b, o, none⟩ = false
theorem FitAt.below {B b : Nat} {w w' : World} {v : Value} {d : Int} (h : FitAt w b v d) (hb : b < B) (hs : Below B w w') : FitAt w' b v d :=
  ⟨Nat.lt_of_lt_of_le h.lt hs.size, (hs.cell (p := ⟨b, 0, none⟩) hb).trans h.c0, (hs.cell (p := ⟨b, 1, none⟩) hb).trans h.c1, fun o => (hs.frozen (p := ⟨b, o, none⟩) hb).trans (h.fr o)⟩
theorem FitAt.blk {w w' : World} {b : Nat} {v : Value} {d : Int} (h : FitAt w b v d) (hs : w.heap.size ≤ w'.heap.size) (e : w'.heap[b]? = w.heap[b]?) : FitAt w' b v d :=
  ⟨Nat.lt_of_lt_of_le h.lt hs, (World.cell?_of_block (a := ⟨b, 0, none⟩) e).trans h.c0, (World.cell?_of_block (a := ⟨b, 1, none⟩) e).trans h.c1, fun o => (World.frozen?_of_block (a := ⟨b, o, none⟩) e).trans (h.fr o)⟩
theorem FitAt.set0 {w : World} {b : Nat} {v : Value} {d : Int} (h : FitAt w b v d) (u : Value) : FitAt (w.setCell ⟨b, 0, none⟩ u) b u d := by
  have h0 := h.c0
  have h1 := h.c1
  have h2 := h.fr
  have h3 := h.lt
  refine ⟨by simpa using h3, ?_, ?_, fun o => ?_⟩
  · go_simp
  · go_simp
  · go_simp
theorem FitAt.set1 {w : World} {b : Nat} {v : Value} {d : Int} (h : FitAt w b v d) (e : Int) : FitAt (w.setCell ⟨b, 1, none⟩ (.int .i64 e)) b v e := by
  have h0 := h.c0
  have h1 := h.c1
  have h2 := h.fr
  have h3 := h.lt
  refine ⟨by simpa using h3, ?_, ?_, fun o => ?_⟩
  · go_simp
  · go_simp
  · go_simp
def SolveIs (w : World) (n : Nat) (D : Int) (F : Nat → Int) (e : Ending) (w' : World) : Prop :=
  ∃ g c, e = .returned (.tuple #[.agg #[.slice (some ⟨g, 0, none⟩) n c, .int .i64 (D / (gN D F n : Int))], .int .i64 0]) ∧ n ≤ c ∧ w.heap.size ≤ g ∧ g < w'.heap.size ∧ (∀ j, j < n → w'.cell? ⟨g, j, none⟩ = some (.int .i64 (F j / (gN D F n : Int)))) ∧ Below w.heap.size w w'
def numL (F : Nat → Int) (n : Nat) : List Value := (List.range n).map fun j => .int .i64 (F j)
theorem numL_length (F : Nat → Int) (n : Nat) : (numL F n).length = n := by simp [numL]
theorem numL_snoc (F : Nat → Int) (n : Nat) : numL F (n + 1) = numL F n ++ [.int .i64 (F n)] := by simp [numL, List.range_succ]
theorem numL_get (F : Nat → Int) (n j : Nat) (h : j < n) : (numL F n)[j]? = some (.int .i64 (F j)) := by simp [numL, h]
theorem row_full {w : World} {base n q : Nat} {M : Nat → Nat → Int} {v : Value} (hn : 1 ≤ n) (h : w.ownsRow base 3 1 v n (rowL M n q)) :
    ∃ g c, v = .slice (some ⟨g, 0, none⟩) n c ∧ n ≤ c ∧ base ≤ g ∧ g < w.heap.size ∧ (∀ j, j < n → w.cell? ⟨g, j, none⟩ = some (.int .i64 (M q j))) ∧ (∀ o, w.frozen? ⟨g, o, none⟩ = false) ∧ Hid (w.ownsRow base 3 1 (.slice (some ⟨g, 0, none⟩) n c) n (rowL M n q)) := by
  rcases own_form h with ⟨_, h2⟩ | ⟨g, cap, h1, h2, h3, h4, h5, h6, h7⟩
  · omega
  · subst h1
    exact ⟨g, cap, rfl, h2, h4, h5, fun j hj => by rw [h6 j (by omega), rowL_get _ _ _ _ hj], h7, Lib.hid h⟩
theorem c_solve_zero (n : Nat) (n1 : 1 ≤ n) (n3 : n ≤ 3) (bm cm br cr : Nat) (M : Nat → Nat → Int) (w : World) (hcm : n ≤ cm) (hM : MatV w bm n M) (hB : RB n M) (hD : detF n M = 0) :
    Calls Tryd.prog 60 #[.slice (some ⟨bm, 0, none⟩) n cm, .slice (some ⟨br, 0, none⟩) n cr] w fun e w' => e = .returned (.tuple #[.agg #[.slice none 0 0, .int .i64 0], .int .i64 6]) ∧ Below w.heap.size w w' := by
  have HC := Lib.hid (fun w1 (h : Below w.heap.size w w1) => c_det n n1 n3 w1 bm cm M hcm (hM.below h) hB)
  rw [hD] at HC
  have hl := hM.lt
  clear hM hB
  have hgen := sgen; have hgen2 := sgen2; have hgen3 := sgen3; go_enter Tryd.func60, Tryd.ntmps60
  go_wp2_with (go_at_call 80; (with_reducible refine (HC.out _ (by exact belz)).mono ?_); rintro e w1 ⟨rfl, hb⟩; have hz := hb.size; (try simp only [szA, szS, szD, szN] at hz); (try (refine bcB (n := w.heap.size) hb ?_; intro h_w_0 e_w_0 d_w_0 _ _)))
  refine bodyPost_ret (v := .tuple #[.agg #[.slice none 0 0, .int .i64 0], .int .i64 6]) (by simp only [results, Tryd.results60]; go_simp) rfl ⟨rfl, ?_⟩
  exact belz
set_option maxRecDepth 100000 in
set_option maxHeartbeats 6400000 in
theorem c_solve_ok (n : Nat) (n1 : 1 ≤ n) (n3 : n ≤ 3) (bm cm br cr : Nat) (M : Nat → Nat → Int) (V : Nat → Int) (w : World) (hcm : n ≤ cm) (hcr : n ≤ cr) (hM : MatV w bm n M) (hV : VecV w br n V) (hB : RB n M) (hVB : ∀ i, i < n → -80000 ≤ V i ∧ V i ≤ 80000) (D : Int) (hD : detF n M = D) (hD0 : 0 < D) :
    Calls Tryd.prog 60 #[.slice (some ⟨bm, 0, none⟩) n cm, .slice (some ⟨br, 0, none⟩) n cr] w (SolveIs w n D (NNv n M V)) := by
  obtain ⟨i0, hi0, iz0, iz1, iz2⟩ := info_parts info_int'
  obtain ⟨i1, hi1, iy0, iy1, iy2⟩ := info_parts info_ints
  have HC := Lib.hid (fun w1 (h : Below w.heap.size w w1) => c_det n n1 n3 w1 bm cm M hcm (hM.below h) hB)
  rw [hD] at HC
  have HM := Lib.hid hM
  have HV := Lib.hid hV
  have hl := hM.lt
  have hl2 := hV.lt
  have dB : -3072000000000000 ≤ D ∧ D ≤ 3072000000000000 := by
    rw [← hD]
    rcases (show n = 1 ∨ n = 2 ∨ n = 3 by omega) with rfl | rfl | rfl
    · have := det1_bd M hB; omega
    · have := det2_bd M hB; omega
    · exact det3_bd M hB
  have hcB : ∀ k, RB n (colM M V k) := fun k i j hi hj => by
    unfold colM
    split
    · exact hVB i hi
    · exact hB i j hi hj
  have HNB : Hid (∀ k, -3072000000000000 ≤ NNv n M V k ∧ NNv n M V k ≤ 3072000000000000) := Lib.hid (fun k => by
    unfold NNv
    rcases (show n = 1 ∨ n = 2 ∨ n = 3 by omega) with rfl | rfl | rfl
    · have := det1_bd _ (hcB k); omega
    · have := det2_bd _ (hcB k); omega
    · exact det3_bd _ (hcB k))
  have HDC : Hid (∀ (w1 : World) (g c k : Nat), n ≤ c → MatV w1 g n (colM M V k) → Calls Tryd.prog 80 #[.slice (some ⟨g, 0, none⟩) n c] w1 fun e w' => e = .returned (.int .i64 (NNv n M V k)) ∧ Below w1.heap.size w1 w') := Lib.hid (fun w1 g c k hc hm => c_det n n1 n3 w1 g c _ hc hm (hcB k))
  have d0 : (D == 0) = false := by simp; omega
  obtain ⟨F, hF⟩ : ∃ F, F = NNv n M V := ⟨_, rfl⟩
  rw [← hF] at HNB HDC ⊢
  clear hM hV hB hD hVB hcB hF
  have hgen := sgen; have hgen2 := sgen2; have hgen3 := sgen3; go_enter Tryd.func60, Tryd.ntmps60
  go_upto_region 5 with (go_at_call 80; (with_reducible refine (HC.out _ (by exact belz)).mono ?_); rintro e w1 ⟨rfl, hb⟩; have hz := hb.size; (try simp only [szA, szS, szD, szN] at hz); (try (refine bcB (n := w.heap.size) hb ?_; intro h_w_0 e_w_0 d_w_0 _ _)))
  have hb1 : Below w.heap.size w (w1.alloc (Obj.cells #[Value.slice none 0 0, Value.int IntKind.i64 D] 73)) := by exact belz
  have hA : FitAt (w1.alloc (Obj.cells #[Value.slice none 0 0, Value.int IntKind.i64 D] 73)) w1.heap.size (.slice none 0 0) D := ⟨by simp, by go_simp, by go_simp, fun o => by go_simp⟩
  have hR : FitAt (w1.alloc (Obj.cells #[Value.slice none 0 0, Value.int IntKind.i64 D] 73)) w.heap.size (.slice none 0 0) 0 := by
    refine ⟨by simp; omega, by go_simp, by go_simp, fun o => ?_⟩
    go_simp
  have hzz : w1.heap.size + 1 ≤ (w1.alloc (Obj.cells #[Value.slice none 0 0, Value.int IntKind.i64 D] 73)).heap.size := by simp
  have hwz : w.heap.size < w1.heap.size := by omega
  have hg0 : Value.int .i64 D = .int .i64 (gN D F 0 : Int) := by unfold gN; congr 1; omega
  generalize (w1.alloc (Obj.cells #[Value.slice none 0 0, Value.int IntKind.i64 D] 73)) = wA at *
  go_wp2_with fail
  go_loopg [7, 25] n (fun gk x7 i wr => ∃ k : Nat, ∃ v : Value, gk + k = n ∧ i = .int .i64 (k : Int) ∧ x7 = .int .i64 (gN D F k : Int) ∧ Below w.heap.size w wr ∧ FitAt wr w1.heap.size v D ∧ FitAt wr w.heap.size (.slice none 0 0) 0 ∧ wr.ownsRow (w1.heap.size + 1) 3 1 v k (numL F k) ∧ w1.heap.size + 1 ≤ wr.heap.size)
  case atStart => exact ⟨0, _, by omega, rfl, hg0, hb1, hA, hR, World.ownsRow_nil _ _ _ _, hzz⟩
  case round =>
    clear hA hR hzz hb1 hg0
    obtain ⟨k, v, hk, rfl, rfl, hbel, hA, hR, hO, hzz⟩ := hrel
    obtain ⟨wo, rfl⟩ : ∃ wo : World, wo = wr := ⟨_, rfl⟩
    obtain ⟨ga, hga⟩ : ∃ ga, ga = gk := ⟨gk, rfl⟩
    have hsz := hbel.size
    have HO := Lib.hid hO
    have HA := Lib.hid hA
    have HR := Lib.hid hR
    clear hO hA hR
    by_cases hkn : k < n
    · have hkz : (k : Int) < (n : Int) := by omega
      go_wp2_with fail
      go_loopg [9, 30] n (fun gk x9 i wr => ∃ q : Nat, ∃ xs : List Value, gk + q = n ∧ i = .int .i64 (q : Int) ∧ Below wo.heap.size wo wr ∧ MinOwn wr wo.heap.size n (colM M V k) q x9 xs)
      case atStart => exact ⟨0, [], by omega, rfl, Below.refl _ _, World.ownsRow_nil _ _ _ _, fun r hr => by omega⟩
      case round =>
        obtain ⟨q, xs, hq, rfl, hbi, hMO⟩ := hrel
        have hszi := hbi.size
        have hbw := hbel.trans (hbi.mono hsz)
        by_cases hqn : q < n
        · have hqz : (q : Int) < (n : Int) := by omega
          obtain ⟨b', cap', r0, r1, r2, r3⟩ := (HM.out.below (hbw.mono (Nat.le_refl _))).row q hqn
          have HMO := Lib.hid hMO.own
          have HRW := Lib.hid hMO.row
          have HR3 := Lib.hid r3
          have hv : wr.cell? ⟨br, q, none⟩ = some (.int .i64 (V q)) := (hbw.cell (p := ⟨br, q, none⟩) hl2).trans (HV.out.cell hqn)
          clear hMO r3
          go_upto_region 13 with (at_builtin; refine wpList_append_own _ rfl _ _ 71 rfl wr.heap.size 3 i0 _ 1 8 Tryd.underlying71 hi0 iz0 iz1 iz2 rfl (by decide) _ _ _ rfl (World.ownsRow_nil _ _ _ _) ⟨b', 0, none⟩ n cap' (rowL M n q) rfl ?ca ?cb ?cc ?cd ?ce ?cf ?_)
          case ca => rw [rowL_length]; omega
          case cb =>
            intro j u hj
            have hjn : j < n := by
              have := (List.getElem?_eq_some_iff.1 hj).1
              rwa [rowL_length] at this
            rw [rowL_get _ _ _ _ hjn] at hj
            cases hj
            rw [Addr.add_lit, Nat.zero_add]
            exact HR3.out j hjn
          case cc => exact rowL_one _ _ _
          case cd => unfold maxLen; omega
          case ce => omega
          case cf => exact Nat.le_refl _
          intro v4 w4 ho4 hg4 _
          have hb4 : Below wr.heap.size wr w4 := Below.grown (Below.refl _ _) hg4 (Nat.le_refl _) (fun g hg => by simp [Value.ownBlock] at hg)
          have hz4 := hb4.size
          obtain ⟨g4, c4, rfl, hc4, hgw, hgl, hcl, hfr, H4⟩ := row_full n1 ho4
          have hck := hcl k hkn
          have hfk := hfr k
          have hv4 : w4.cell? ⟨br, q, none⟩ = some (.int .i64 (V q)) := (hb4.cell (p := ⟨br, q, none⟩) (show br < wr.heap.size by omega)).trans hv
          clear ho4 hg4 hcl hfr r0 hv
          go_upto_region 14 with fail
          obtain ⟨ho5, hg5⟩ := H4.out.stored k (.int .i64 (V q))
          rw [rowL_col] at ho5
          have hb5 : Below wr.heap.size wr (w4.setCell ⟨g4, k, none⟩ (.int .i64 (V q))) := by
            refine Below.grown hb4 hg5 hz4 (fun g hg => ?_)
            cases hg
            exact hgw
          clear hg5 hck hfk
          generalize w4.setCell ⟨g4, k, none⟩ (.int .i64 (V q)) = w5 at *
          have hz5 := hb5.size
          go_wp2_with (at_builtin; refine wpList_append_own _ rfl _ _ 70 rfl wo.heap.size 71 i1 _ 1 24 Tryd.underlying70 hi1 iy0 iy1 iy2 rfl (by decide) _ q xs rfl ((own_below HMO.out hb5).alloc _) ⟨w5.heap.size, 0, none⟩ 1 1 [.slice (some ⟨g4, 0, none⟩) n c4] rfl rfl ?ca ?cb ?cc ?cd ?ce ?_)
          case ca => exact World.news_of_block (cs := #[.slice (some ⟨g4, 0, none⟩) n c4]) (t := 71) (fr := (0, 0)) (heap_alloc_new w5 _)
          case cb => simp [Value.oneCell']
          case cc => unfold maxLen; omega
          case cd => omega
          case ce => simp; omega
          intro v6 w6 ho6 hg6 _
          have hb6 : Below wo.heap.size wo w6 := by
            refine Below.grown ((hbi.trans (hb5.mono hszi)).alloc (by omega) _) hg6 ?_ ?_
            · simp; omega
            · intro g hg
              exact (HMO.out.lt g hg).1
          have HN := Lib.hid (minOwn_next HMO.out HRW.out hszi hb5 ho5 ho6 hg6)
          clear hg6 ho6 ho5
          go_wp2_with fail
          go_roundg (n - (q + 1))
          case measure => omega
          case rel => exact ⟨q + 1, xs ++ [Value.slice (some ⟨g4, 0, none⟩) n c4], by omega, rfl, hb6, HN.out⟩
        · have hqn : q = n := by omega
          subst hqn
          obtain ⟨g, c, rfl, hgc, hMin⟩ := hMO.mat n1
          have HMin := Lib.hid hMin
          clear hMO hMin
          obtain ⟨wp, rfl⟩ : ∃ wp : World, wp = wr := ⟨_, rfl⟩
          go_upto_region 17 with (go_at_call 80; (with_reducible refine (HDC.out _ g c k hgc HMin.out).mono ?_); rintro e w7 ⟨rfl, hb⟩; have hz := hb.size; (try simp only [szA, szS, szD, szN] at hz); (try (refine bcB (n := wp.heap.size) hb ?_; intro h_wp_0 e_wp_0 d_wp_0 _ _)))
          have hb7 : Below wo.heap.size wo w7 := hbi.trans (hb.mono hszi)
          have hz7 := hb7.size
          have hA7 := HA.out.below (B := wo.heap.size) (by omega) hb7
          have hR7 := HR.out.below (B := wo.heap.size) (by omega) hb7
          have a0 := hA7.c0
          have a1 := hA7.fr 0
          have hFB := HNB.out k
          have hvb : v.ownBlock ≠ some w1.heap.size := fun e => by have := (HO.out.lt _ e).1; omega
          have HA7 := Lib.hid hA7
          have HR7 := Lib.hid hR7
          clear hA7 hR7
          go_upto_region 18 with (at_builtin; refine wpList_append_own _ rfl _ _ 71 rfl (w1.heap.size + 1) 3 i0 _ 1 8 Tryd.underlying71 hi0 iz0 iz1 iz2 rfl (by decide) v k _ rfl ((own_below HO.out hb7).alloc _) ⟨w7.heap.size, 0, none⟩ 1 1 [.int .i64 (F k)] rfl rfl ?ca ?cb ?cc ?cd ?ce ?_)
          case ca => exact World.news_of_block (cs := #[.int .i64 (F k)]) (t := 3) (fr := (0, 0)) (heap_alloc_new w7 _)
          case cb => simp [Value.oneCell']
          case cc => unfold maxLen; omega
          case cd => omega
          case ce => simp; omega
          intro v8 w8 ho8 hg8 _
          have hA8 : FitAt w8 w1.heap.size v D := (HA7.out.below (B := w7.heap.size) HA7.out.lt ((Below.refl _ _).alloc (Nat.le_refl _) _)).blk hg8.size (hg8.block _ (by simp; omega) (Ne.symm hvb))
          have hR8 : FitAt w8 w.heap.size (.slice none 0 0) 0 := (HR7.out.below (B := w7.heap.size) HR7.out.lt ((Below.refl _ _).alloc (Nat.le_refl _) _)).blk hg8.size (hg8.block _ (by simp; omega) (fun e => by have := (HO.out.lt _ e.symm).1; omega))
          have hb8 : Below w.heap.size w w8 := by
            refine Below.grown ((hbel.trans (hb7.mono hsz)).alloc (by omega) _) hg8 ?_ ?_
            · simp; omega
            · intro g hg
              have := (HO.out.lt g hg).1
              omega
          have hz8 : wo.heap.size ≤ w8.heap.size := by have := hg8.size; simp at this; omega
          have c8 := hA8.c0
          have f8 := hA8.fr 0
          have HO8 : Hid (w8.ownsRow (w1.heap.size + 1) 3 1 v8 (k + 1) (numL F (k + 1))) := Lib.hid (by rw [numL_snoc]; simpa using ho8)
          have HA8 := Lib.hid hA8
          have HR8 := Lib.hid hR8
          clear ho8 hg8 hA8 hR8 hvb a0 a1
          obtain ⟨g8, e8, hv8⟩ : ∃ g8 e8, v8 = .slice (some ⟨g8, 0, none⟩) (k + 1) e8 := by
            rcases own_form HO8.out with ⟨_, h2⟩ | ⟨g, cap, h1, _⟩
            · omega
            · exact ⟨g, cap, h1⟩
          subst hv8
          go_upto_region 18 with fail
          have hA9 := HA8.out.set0 (.slice (some ⟨g8, 0, none⟩) (k + 1) e8)
          have hR9 : FitAt (w8.setCell ⟨w1.heap.size, 0, none⟩ (.slice (some ⟨g8, 0, none⟩) (k + 1) e8)) w.heap.size (.slice none 0 0) 0 := HR8.out.blk (by simp) (heap_setCell_other _ _ _ _ (by show w.heap.size ≠ w1.heap.size; omega))
          have hO9 : (w8.setCell ⟨w1.heap.size, 0, none⟩ (.slice (some ⟨g8, 0, none⟩) (k + 1) e8)).ownsRow (w1.heap.size + 1) 3 1 (.slice (some ⟨g8, 0, none⟩) (k + 1) e8) (k + 1) (numL F (k + 1)) := own_kept HO8.out (fun g hg => heap_setCell_other _ _ _ _ (by show g ≠ w1.heap.size; have := (HO8.out.lt g hg).1; omega))
          have hb9 : Below w.heap.size w (w8.setCell ⟨w1.heap.size, 0, none⟩ (.slice (some ⟨g8, 0, none⟩) (k + 1) e8)) := by exact belz
          have hz9 : wo.heap.size ≤ (w8.setCell ⟨w1.heap.size, 0, none⟩ (.slice (some ⟨g8, 0, none⟩) (k + 1) e8)).heap.size := by simp; exact hz8
          clear c8 f8 HA8 HR8 HO8 hb8 hz8
          generalize w8.setCell ⟨w1.heap.size, 0, none⟩ (.slice (some ⟨g8, 0, none⟩) (k + 1) e8) = w9 at *
          have hgl := gN_le (D := D) (by omega) F k
          have hga' : ((gN D F k : Int)).natAbs = gN D F k := by omega
          have HGC := Lib.hid (fun w1 => c_Gcd (gN D F k) (F k) w1 (by omega) (by omega) (by omega) (by omega))
          have HGN : Hid (Nat.gcd (gN D F k) (F k).natAbs = gN D F (k + 1)) := Lib.hid rfl
          rw [hga', HGN.out] at HGC
          clear hga'
          go_wp2_with (go_at_call 81; (with_reducible refine (HGC.out _).mono ?_); rintro e w10 ⟨rfl, hb⟩; have hz := hb.size; (try simp only [szA, szS, szD, szN] at hz); (try (refine bcB (n := w9.heap.size) hb ?_; intro h_w9_0 e_w9_0 d_w9_0 _ _)))
          have hb10 : Below w.heap.size w w10 := by exact belz
          have hA10 := hA9.below (B := w9.heap.size) hA9.lt hb
          have hR10 := hR9.below (B := w9.heap.size) hR9.lt hb
          have hO10 := own_below hO9 hb
          go_roundg (q - (k + 1))
          case measure => omega
          case rel => exact ⟨k + 1, _, by omega, rfl, rfl, hb10, hA10, hR10, hO10, by omega⟩
    · have hkn' : k = n := by omega
      subst hkn'
      have a0 := HA.out.c0
      have a1 := HA.out.c1
      have a2 := HA.out.fr 1
      have hgl := gN_le (D := D) (by omega) F k
      have hgp := gN_pos (D := D) (by omega) F k
      have hdv := gN_dvd (D := D) F k
      have hgz : (((gN D F k : Nat) : Int) == 0) = false := by simp; omega
      have hq : D.tdiv (gN D F k : Int) = D / (gN D F k : Int) := tdiv_dvd hgp (Int.ofNat_dvd_left.2 hdv.1)
      have hqb : 0 ≤ D / (gN D F k : Int) ∧ D / (gN D F k : Int) ≤ D := ⟨Int.ediv_nonneg (by omega) (by omega), Int.ediv_le_self _ (by omega)⟩
      have hqw : IntKind.i64.wrap (D / (gN D F k : Int)) = D / (gN D F k : Int) := IntWalk.i64_in _ (by omega)
      have HDV := Lib.hid hdv
      obtain ⟨g, c, rfl, hc, hgw, hgl', HOC, HOF, -⟩ : ∃ g c, v = .slice (some ⟨g, 0, none⟩) k c ∧ k ≤ c ∧ w1.heap.size + 1 ≤ g ∧ g < wo.heap.size ∧ Hid (∀ j, j < k → wo.cell? ⟨g, j, none⟩ = some (.int .i64 (F j))) ∧ Hid (∀ o, wo.frozen? ⟨g, o, none⟩ = false) ∧ True := by
        rcases own_form HO.out with ⟨_, h2⟩ | ⟨g, cap, h1, h2, h3, h4, h5, h6, h7⟩
        · omega
        · exact ⟨g, cap, h1, h2, h4, h5, Lib.hid (fun j hj => by rw [h6 j (by omega), numL_get _ _ _ hj]), Lib.hid h7, trivial⟩
      clear hdv
      go_upto_region 21 with fail
      have hA1 := HA.out.set1 (D / (gN D F k : Int))
      have hR1 : FitAt (wo.setCell ⟨w1.heap.size, 1, none⟩ (.int .i64 (D / (gN D F k : Int)))) w.heap.size (.slice none 0 0) 0 := HR.out.blk (by simp) (heap_setCell_other _ _ _ _ (by show w.heap.size ≠ w1.heap.size; omega))
      have hG1 : ∀ j, j < k → (wo.setCell ⟨w1.heap.size, 1, none⟩ (.int .i64 (D / (gN D F k : Int)))).cell? ⟨g, j, none⟩ = some (.int .i64 (if j < 0 then F j / (gN D F k : Int) else F j)) := fun j hj => by
        rw [World.cell?_setCell_far _ _ _ _ (by show w1.heap.size ≠ g; omega), HOC.out j hj, if_neg (Nat.not_lt_zero j)]
      have hF1 : ∀ o, (wo.setCell ⟨w1.heap.size, 1, none⟩ (.int .i64 (D / (gN D F k : Int)))).frozen? ⟨g, o, none⟩ = false := fun o => by
        rw [World.frozen?_of_block (heap_setCell_other _ _ _ _ (by show g ≠ w1.heap.size; omega))]; exact HOF.out o
      have hbW : Below w.heap.size w (wo.setCell ⟨w1.heap.size, 1, none⟩ (.int .i64 (D / (gN D F k : Int)))) := by exact belz
      have hgW : g < (wo.setCell ⟨w1.heap.size, 1, none⟩ (.int .i64 (D / (gN D F k : Int)))).heap.size := by simp; exact hgl'
      clear hgl' HOF HOC a0 a1 a2 HA HR HO hq hqw
      generalize wo.setCell ⟨w1.heap.size, 1, none⟩ (.int .i64 (D / (gN D F k : Int))) = wB at *
      have b0 := hA1.c0
      go_wp2_with fail
      go_loopg [72] k (fun gk i wr => ∃ j : Nat, gk + j = k ∧ i = .int .i64 (j : Int) ∧ Below w.heap.size w wr ∧ FitAt wr w1.heap.size (.slice (some ⟨g, 0, none⟩) k c) (D / (gN D F k : Int)) ∧ FitAt wr w.heap.size (.slice none 0 0) 0 ∧ g < wr.heap.size ∧ (∀ t, t < k → wr.cell? ⟨g, t, none⟩ = some (.int .i64 (if t < j then F t / (gN D F k : Int) else F t))) ∧ ∀ o, wr.frozen? ⟨g, o, none⟩ = false)
      case atStart => exact ⟨0, by omega, rfl, hbW, hA1, hR1, hgW, hG1, hF1⟩
      case round =>
        clear hA1 hR1 hgW hG1 hF1 hbW b0
        obtain ⟨j, hj, rfl, hbB, hA1, hR1, hgW, hG1, hF1⟩ := hrel
        have b0 := hA1.c0
        have b1 := hA1.c1
        have HA := Lib.hid hA1
        have HR := Lib.hid hR1
        have HG := Lib.hid hG1
        have HF := Lib.hid hF1
        by_cases hjk : j < k
        · have hjz : (j : Int) < (k : Int) := by omega
          have c0 := hG1 j hjk
          rw [if_neg (Nat.lt_irrefl j)] at c0
          have c1 := hF1 j
          have hFj := HNB.out j
          have hq2 : (F j).tdiv (gN D F k : Int) = F j / (gN D F k : Int) := tdiv_dvd hgp (Int.ofNat_dvd_left.2 (HDV.out.2 j hjk))
          have hqb2 : -3072000000000000 ≤ F j / (gN D F k : Int) ∧ F j / (gN D F k : Int) ≤ 3072000000000000 := by
            obtain ⟨z, hz⟩ := Int.ofNat_dvd_left.2 (HDV.out.2 j hjk)
            have gz : (gN D F k : Int) ≠ 0 := by omega
            rw [hz] at hFj ⊢
            rw [Int.mul_ediv_cancel_left _ gz]
            have gp : 1 ≤ (gN D F k : Int) := by omega
            generalize (gN D F k : Int) = G at *
            constructor
            · rcases Int.le_total 0 z with q | q
              · omega
              · have := Int.mul_nonneg (show 0 ≤ G - 1 by omega) (show 0 ≤ -z by omega)
                have e : (G - 1) * -z = z - G * z := by grind
                omega
            · rcases Int.le_total 0 z with q | q
              · have := Int.mul_nonneg (show 0 ≤ G - 1 by omega) q
                have e : (G - 1) * z = G * z - z := by grind
                omega
              · omega
          have hqw2 : IntKind.i64.wrap (F j / (gN D F k : Int)) = F j / (gN D F k : Int) := IntWalk.i64_in _ (by omega)
          clear hA1 hR1 hG1 hF1
          go_wp2_with fail
          have hb2 : Below w.heap.size w (wr.setCell ⟨g, j, none⟩ (.int .i64 (F j / (gN D F k : Int)))) := by exact belz
          go_roundg (k - (j + 1))
          case measure => omega
          case rel =>
            refine ⟨j + 1, by omega, by go_num, hb2, HA.out.blk (by simp) (heap_setCell_other _ _ _ _ (by show w1.heap.size ≠ g; omega)), HR.out.blk (by simp) (heap_setCell_other _ _ _ _ (by show w.heap.size ≠ g; omega)), by simp; exact hgW, fun t ht => ?_, fun o => ?_⟩
            · by_cases e : t = j
              · subst e
                rw [if_pos (by omega)]
                exact World.cell?_setCell_same wr ⟨g, t, none⟩ _ (HG.out t ht)
              · rw [World.cell?_setCell_other (w := wr) (a := ⟨g, j, none⟩) (b := ⟨g, t, none⟩) (h := fun h => e (by cases h; rfl)), HG.out t ht]
                by_cases e2 : t < j
                · rw [if_pos e2, if_pos (by omega)]
                · rw [if_neg e2, if_neg (by omega)]
            · have : (wr.setCell ⟨g, j, none⟩ (.int .i64 (F j / (gN D F k : Int)))).frozen? ⟨g, o, none⟩ = wr.frozen? ⟨g, o, none⟩ := by simp
              rw [this]; exact HF.out o
        · have hjk' : j = k := by omega
          subst hjk'
          have r0 := hR1.c0
          have r1 := hR1.c1
          have r2 := hR1.fr 0
          have r3 := hR1.fr 1
          have hgw2 : g ≠ w.heap.size := by omega
          clear hA1 hR1 hG1 hF1
          go_wp2_with fail
          refine bodyPost_ret (v := .tuple #[.agg #[.slice (some ⟨g, 0, none⟩) j c, .int .i64 (D / (gN D F j : Int))], .int .i64 0]) (by simp only [results, Tryd.results60]; go_simp) rfl ?_
          refine ⟨g, c, rfl, hc, by omega, ?_, fun t ht => ?_, ?_⟩
          · simp; exact hgW
          · have := HG.out t ht
            rw [if_pos ht] at this
            go_simp
          · exact belz
end
section
open Go.RowKit
/-- Readings that pass the check. -/
structure GOk (L : List (List Int)) (hs : List Int) (n : Nat) : Prop where
  N1 : 0 < L.length
  N8 : L.length ≤ 8
  n1 : 1 ≤ n
  n3 : n ≤ 3
  len : ∀ r ∈ L, r.length = n
  hl : hs.length = L.length
  bd : rowsB n L.length (rwF L) (hF hs)
theorem fe_mem0 {α : Type} {f : α → Int} {l : List α} (h : fe f l = 0) : ∀ x ∈ l, f x = 0 := by
  intro x hx
  obtain ⟨k, hk, rfl⟩ := List.mem_iff_getElem.1 hx
  exact fe_zero h k hk
theorem gok_of {L : List (List Int)} {hs : List Int} (h : gErr L hs = 0) : ∃ n, GOk L hs n ∧ (L.getD 0 []).length = n := by
  unfold gErr at h
  split at h
  · omega
  · rename_i h8
    split at h
    · omega
    · rename_i hf
      have hf' : ¬ (L.length = 0 ∨ hs.length ≠ L.length ∨ (L.getD 0 []).length < 1 ∨ 3 < (L.getD 0 []).length) := hf
      have hz := fe_mem0 h
      have row : ∀ i, i < L.length → (L.getD i []).length = (L.getD 0 []).length ∧ fe rowOne (L.getD i []) = 0 ∧ ¬ (hs.getD i 0 < -1000 ∨ 1000 < hs.getD i 0) := by
        intro i hi
        have := hz i (List.mem_range.2 hi)
        unfold gIx rowE at this
        split at this
        · omega
        · rename_i a
          split at this
          · rename_i b; omega
          · rename_i b
            split at this
            · omega
            · rename_i c
              exact ⟨by omega, by omega, c⟩
      refine ⟨_, ⟨by omega, by omega, by omega, by omega, fun r hr => ?_, by omega, fun i j hi hj => ?_, fun i hi => ?_⟩, rfl⟩
      · obtain ⟨i, hi, rfl⟩ := List.mem_iff_getElem.1 hr
        have := (row i hi).1
        rwa [List.getD_eq_getElem?_getD, List.getElem?_eq_getElem hi, Option.getD_some] at this
      · obtain ⟨r1, r2, -⟩ := row i hi
        have hj' : j < (L.getD i []).length := by omega
        have := fe_mem0 r2 ((L.getD i [])[j]'hj') (List.getElem_mem hj')
        unfold rowOne at this
        have e : rwF L i j = (L.getD i [])[j]'hj' := by
          unfold rwF
          rw [List.getD_eq_getElem?_getD (l := L.getD i []), List.getElem?_eq_getElem hj', Option.getD_some]
        rw [e]
        split at this <;> omega
      · have := (row i hi).2.2
        unfold hF
        omega
/-- What the factors are made of. -/
def fD (L : List (List Int)) (n : Nat) : Int := detF n (gmM (rwF L) L.length)
def fN (L : List (List Int)) (hs : List Int) (n : Nat) : Nat → Int := NNv n (gmM (rwF L) L.length) (gmR (rwF L) (hF hs) L.length)
theorem gok_rb {L : List (List Int)} {hs : List Int} {n : Nat} (h : GOk L hs n) : (∀ i j, i < n → j < n → -800 ≤ gmM (rwF L) L.length i j ∧ gmM (rwF L) L.length i j ≤ 800) ∧ (∀ i, i < n → -80000 ≤ gmR (rwF L) (hF hs) L.length i ∧ gmR (rwF L) (hF hs) L.length i ≤ 80000) :=
  ⟨fun i j hi hj => gmM_bd h.bd h.N8 hi hj _ (Nat.le_refl _), fun i hi => gmR_bd h.bd h.N8 hi _ (Nat.le_refl _)⟩
theorem c_Fit_err (a ah : Option Addr) (L : List (List Int)) (hs : List Int) (cap caph : Nat) (w : World) (hM : MatSlice w a L) (hH : IntSlice w ah hs) (he : gErr L hs ≠ 0) :
    Calls Tryd.prog 31 #[.slice a L.length cap, .slice ah hs.length caph] w fun e w' => e = .returned (.tuple #[.agg #[.slice none 0 0, .int .i64 0], .int .i64 (gErr L hs)]) ∧ Below w.heap.size w w' := by
  have HK := Lib.hid (fun w1 (h : Below w.heap.size w w1) => c_gCheck a ah L hs cap caph w1 (hM.below (Nat.le_refl _) h) (hH.below (Nat.le_refl _) h))
  have h1 : (gErr L hs != 0) = true := by simp [he]
  generalize gErr L hs = x at *
  clear hM hH
  have hgen := sgen; have hgen2 := sgen2; have hgen3 := sgen3; go_enter Tryd.func31, Tryd.ntmps31
  go_wp2_with (go_at_call 59; (with_reducible refine (HK.out _ (by exact belz)).mono ?_); rintro e w' ⟨rfl, rfl⟩)
  refine bodyPost_ret (v := .tuple #[.agg #[.slice none 0 0, .int .i64 0], .int .i64 x]) (by simp only [results, Tryd.results31]; go_simp) rfl ⟨rfl, ?_⟩
  exact belz
theorem c_Fit_zero (a ah : Option Addr) (L : List (List Int)) (hs : List Int) (n cap caph : Nat) (w : World) (hM : MatSlice w a L) (hH : IntSlice w ah hs) (he : gErr L hs = 0) (hG : GOk L hs n) (hD : fD L n = 0) :
    Calls Tryd.prog 31 #[.slice a L.length cap, .slice ah hs.length caph] w fun e w' => e = .returned (.tuple #[.agg #[.slice none 0 0, .int .i64 0], .int .i64 6]) ∧ Below w.heap.size w w' := by
  have hK := fun w1 (h : Below w.heap.size w w1) => c_gCheck a ah L hs cap caph w1 (hM.below (Nat.le_refl _) h) (hH.below (Nat.le_refl _) h)
  rw [he] at hK
  have HK := Lib.hid hK
  have hS := fun w1 (h : Below w.heap.size w w1) => c_system n hG.n1 hG.n3 a cap L ah caph hs w1 hG.N1 hG.N8 (hM.below (Nat.le_refl _) h) hG.len (hH.below (Nat.le_refl _) h) hG.hl hG.bd
  have hl := hG.hl
  rw [← hl] at hS
  have HS := Lib.hid hS
  obtain ⟨q1, q2⟩ := gok_rb hG
  have HV := Lib.hid (fun bm br (w1 : World) (h : MatV w1 bm n (gmM (rwF L) hs.length)) => c_solve_zero n hG.n1 hG.n3 bm n br n (gmM (rwF L) hs.length) w1 (Nat.le_refl _) h (fun i j hi hj => by rw [hl]; have := q1 i j hi hj; omega) (by rw [hl]; exact hD))
  rw [hl] at HS HV
  rw [hl] at HK ⊢
  generalize L.length = N at *
  clear hM hH he hG hD hK hS hl q1 q2
  have hgen := sgen; have hgen2 := sgen2; have hgen3 := sgen3; go_enter Tryd.func31, Tryd.ntmps31
  go_wp2_with (first | (go_at_call 59; (with_reducible refine (HK.out _ (by exact belz)).mono ?_); rintro e w' ⟨rfl, rfl⟩) | (go_at_call 61; (with_reducible refine (HS.out _ (by exact belz)).mono ?_); rintro e w1 ⟨bm, br, rfl, hbm, hbr, hMV, hVV, hb⟩; have hz := hb.size; (try simp only [szA, szS, szD, szN] at hz); (try (refine bcB (n := w.heap.size) hb ?_; intro h_w_0 e_w_0 d_w_0 _ _))) | (go_at_call 60; (with_reducible refine (HV.out bm br _ hMV).mono ?_); rintro e w2 ⟨rfl, hb⟩; have hz := hb.size; (try simp only [szA, szS, szD, szN] at hz); (try (refine bcB (n := w.heap.size) hb ?_; intro h_w_0 e_w_0 d_w_0 _ _)); (try (refine bcB (n := w1.heap.size) hb ?_; intro h_w1_0 e_w1_0 d_w1_0 _ _))))
  refine bodyPost_ret (v := .tuple #[.agg #[.slice none 0 0, .int .i64 0], .int .i64 6]) (by simp only [results, Tryd.results31]; go_simp) rfl ⟨rfl, ?_⟩
  exact belz
def FitIs (w : World) (n : Nat) (Dn : Int) (Nm : Nat → Int) (e : Ending) (w' : World) : Prop :=
  ∃ g c, e = .returned (.tuple #[.agg #[.slice (some ⟨g, 0, none⟩) n c, .int .i64 Dn], .int .i64 0]) ∧ n ≤ c ∧ w.heap.size ≤ g ∧ g < w'.heap.size ∧ (∀ j, j < n → w'.cell? ⟨g, j, none⟩ = some (.int .i64 (Nm j))) ∧ Below w.heap.size w w'
/-- The factors, divided. -/
def fDn (L : List (List Int)) (hs : List Int) (n : Nat) : Int := fD L n / (gN (fD L n) (fN L hs n) n : Int)
def fNm (L : List (List Int)) (hs : List Int) (n j : Nat) : Int := fN L hs n j / (gN (fD L n) (fN L hs n) n : Int)
theorem fit_bds {L : List (List Int)} {hs : List Int} {n : Nat} (hG : GOk L hs n) (hD : fD L n ≠ 0) : 1 ≤ fDn L hs n ∧ fDn L hs n ≤ 3072000000 ∧ ∀ j, j < n → -307200000000 ≤ fNm L hs n j ∧ fNm L hs n j ≤ 307200000000 := by
  obtain ⟨q1, q2⟩ := gok_rb hG
  obtain ⟨b1, b2⟩ := gram_bd hG.n1 hG.n3 q1 q2
  have nn : 0 ≤ fD L n := gram_nn hG.n1 hG.n3 _ _
  obtain ⟨d1, d2⟩ := gN_dvd (D := fD L n) (fN L hs n) n
  have hp := gN_pos hD (fN L hs n) n
  have g1 : (1 : Int) ≤ (gN (fD L n) (fN L hs n) n : Int) := by omega
  have e1 := quoG_bd g1 (A := 3072000000) b1 (Int.ofNat_dvd_left.2 d1)
  refine ⟨?_, e1.2, fun j hj => quoG_bd g1 (A := 307200000000) (b2 j hj) (Int.ofNat_dvd_left.2 (d2 j hj))⟩
  unfold fDn
  obtain ⟨z, hz⟩ := Int.ofNat_dvd_left.2 d1
  have e : fD L n / (gN (fD L n) (fN L hs n) n : Int) = z := Int.ediv_eq_of_eq_mul_right (by omega) hz
  rw [e]
  rcases Int.le_total z 0 with h | h
  · exfalso
    have := Int.mul_nonneg (show 0 ≤ (gN (fD L n) (fN L hs n) n : Int) by omega) (show 0 ≤ -z by omega)
    rw [Int.mul_neg, ← hz] at this
    omega
  · have : z ≠ 0 := fun h0 => hD (by rw [hz, h0]; simp)
    omega
theorem c_Fit_ok (a ah : Option Addr) (L : List (List Int)) (hs : List Int) (n cap caph : Nat) (w : World) (hM : MatSlice w a L) (hH : IntSlice w ah hs) (he : gErr L hs = 0) (hG : GOk L hs n) (hD : fD L n ≠ 0) :
    Calls Tryd.prog 31 #[.slice a L.length cap, .slice ah hs.length caph] w (FitIs w n (fDn L hs n) (fNm L hs n)) := by
  have hK := fun w1 (h : Below w.heap.size w w1) => c_gCheck a ah L hs cap caph w1 (hM.below (Nat.le_refl _) h) (hH.below (Nat.le_refl _) h)
  rw [he] at hK
  have HK := Lib.hid hK
  have hS := fun w1 (h : Below w.heap.size w w1) => c_system n hG.n1 hG.n3 a cap L ah caph hs w1 hG.N1 hG.N8 (hM.below (Nat.le_refl _) h) hG.len (hH.below (Nat.le_refl _) h) hG.hl hG.bd
  have hl := hG.hl
  obtain ⟨q1, q2⟩ := gok_rb hG
  have nn : 0 ≤ fD L n := gram_nn hG.n1 hG.n3 _ _
  have HV : Hid (∀ bm br (w1 : World), MatV w1 bm n (gmM (rwF L) L.length) → VecV w1 br n (gmR (rwF L) (hF hs) L.length) → Calls Tryd.prog 60 #[.slice (some ⟨bm, 0, none⟩) n n, .slice (some ⟨br, 0, none⟩) n n] w1 (FitIs w1 n (fDn L hs n) (fNm L hs n))) :=
    Lib.hid (fun bm br w1 h1 h2 => c_solve_ok n hG.n1 hG.n3 bm n br n (gmM (rwF L) L.length) (gmR (rwF L) (hF hs) L.length) w1 (Nat.le_refl _) (Nat.le_refl _) h1 h2 (fun i j hi hj => by have := q1 i j hi hj; omega) q2 (fD L n) rfl (by omega))
  have HS : Hid (∀ w1, Below w.heap.size w w1 → Calls Tryd.prog 61 #[.slice a hs.length cap, .slice ah hs.length caph] w1 (SysIs w1 n (gmM (rwF L) L.length) (gmR (rwF L) (hF hs) L.length))) := Lib.hid (fun w1 h => by have := hS w1 h; rw [hl]; exact this)
  rw [← hl] at HK ⊢
  generalize gmM (rwF L) L.length = M at *
  generalize gmR (rwF L) (hF hs) L.length = V at *
  generalize fDn L hs n = Dn at *
  generalize fNm L hs n = Nm at *
  generalize hs.length = N at *
  clear hM hH he hG hD hK hS hl q1 q2 nn
  have hgen := sgen; have hgen2 := sgen2; have hgen3 := sgen3; go_enter Tryd.func31, Tryd.ntmps31
  go_wp2_with (first | (go_at_call 59; (with_reducible refine (HK.out _ (by exact belz)).mono ?_); rintro e w' ⟨rfl, rfl⟩) | (go_at_call 61; (with_reducible refine (HS.out _ (by exact belz)).mono ?_); rintro e w1 ⟨bm, br, rfl, hbm, hbr, hMV, hVV, hb⟩; have hz := hb.size; (try simp only [szA, szS, szD, szN] at hz); (try (refine bcB (n := w.heap.size) hb ?_; intro h_w_0 e_w_0 d_w_0 _ _))) | (go_at_call 60; (with_reducible refine (HV.out bm br _ hMV hVV).mono ?_); rintro e w2 ⟨g, c, rfl, hc, hg, hgl, hcl, hb⟩; have hz := hb.size; (try simp only [szA, szS, szD, szN] at hz); (try (refine bcB (n := w.heap.size) hb ?_; intro h_w_0 e_w_0 d_w_0 _ _)); (try (refine bcB (n := w1.heap.size) hb ?_; intro h_w1_0 e_w1_0 d_w1_0 _ _))))
  refine bodyPost_ret (v := .tuple #[.agg #[.slice (some ⟨g, 0, none⟩) n c, .int .i64 Dn], .int .i64 0]) (by simp only [results, Tryd.results31]; go_simp) rfl ?_
  have hzz := hb.size
  have hgw : g ≠ w.heap.size := by
    have := hgl
    omega
  refine ⟨g, c, rfl, hc, ?_, ?_, fun j hj => ?_, ?_⟩
  · omega
  · simp; omega
  · have := hcl j hj
    go_simp
  · exact belz
/-- What Residual answers. -/
def rsL (L : List (List Int)) (hs : List Int) (n : Nat) : Int := smN L.length (fun i => hF hs i * hF hs i * fDn L hs n) - smN n (fun j => fNm L hs n j * gmR (rwF L) (hF hs) L.length j)
def rsG (L : List (List Int)) (hs : List Int) (n : Nat) : Nat := Nat.gcd (rsL L hs n).natAbs (fDn L hs n).natAbs
theorem rsL_bd {L : List (List Int)} {hs : List Int} {n : Nat} (hG : GOk L hs n) (hD : fD L n ≠ 0) : (∀ k, k ≤ L.length → -24576000000000000 ≤ smN k (fun i => hF hs i * hF hs i * fDn L hs n) ∧ smN k (fun i => hF hs i * hF hs i * fDn L hs n) ≤ 24576000000000000) ∧
    ∀ k, k ≤ n → -73728000000000000 ≤ smN k (fun j => fNm L hs n j * gmR (rwF L) (hF hs) L.length j) ∧ smN k (fun j => fNm L hs n j * gmR (rwF L) (hF hs) L.length j) ≤ 73728000000000000 := by
  obtain ⟨q1, q2⟩ := gok_rb hG
  obtain ⟨b1, b2, b3⟩ := fit_bds hG hD
  have hN := hG.N8
  have hn := hG.n3
  refine ⟨fun k hk => ?_, fun k hk => ?_⟩
  · have := smN_bd (f := fun i => hF hs i * hF hs i * fDn L hs n) (A := 3072000000000000) k (fun i hi => mul_bd (A := 1000000) (D := 3072000000) (mul_bd (A := 1000) (D := 1000) (hG.bd.2 i (by omega)) (hG.bd.2 i (by omega))) ⟨by omega, b2⟩)
    omega
  · have := smN_bd (f := fun j => fNm L hs n j * gmR (rwF L) (hF hs) L.length j) (A := 24576000000000000) k (fun j hj => mul_bd (A := 307200000000) (D := 80000) (b3 j (by omega)) (q2 j (by omega)))
    omega
end
end Go.Proofs.YtcgnhnmigmdalaaDoor
