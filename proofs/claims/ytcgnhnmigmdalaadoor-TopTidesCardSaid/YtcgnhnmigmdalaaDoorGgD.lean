/- The contract of gauge.det for one to three rows. The contract of gauge.system: Gram's matrix and the right side, in memory of the call's own. The walk through gauge.system. -/
import Derived.Test.YtcgnhnmigmdalaaDoorGgC
import Derived.Test.YtcgnhnmigmdalaaDoorGgB
import Derived.Test.YtcgnhnmigmdalaaDoorWalkOwn
import Derived.Deep.RegionHeld3
import Derived.Deep.AppendLies
import Derived.Deep.OwnRows
import Derived.Laws.OwnMore
import Derived.Deep.CutBlock
import Derived.Deep.DeepCutAuto
import Derived.Deep.Light
import Derived.StillTailTactics
set_option linter.unusedVariables false
set_option linter.unusedSimpArgs false
namespace Go.Proofs.YtcgnhnmigmdalaaDoor
section
open Go.RowKit
theorem info_int' : (Tryd.prog.info? 3).map (fun i => (i.zero, i.size, i.bytes)) = some (some (.int .i64 0), 1, 8) := by kernel_rfl
theorem info_ints : (Tryd.prog.info? 71).map (fun i => (i.zero, i.size, i.bytes)) = some (some (.slice none 0 0), 1, 24) := by kernel_rfl
/-- What an append can read its elements from. -/
def SrcOk (w : World) (X : Value) (m : Nat) (news : List Value) : Prop := (X = .slice none 0 0 ∧ m = 0 ∧ news = []) ∨ ∃ ad c, X = .slice (some ad) m c ∧ ∀ j u, news[j]? = some u → w.cell? (ad.add j) = some u
theorem step_append_any {P : Program} {w : World} {ops : Array Oper} {o : Oper} {a : Act} {K : Act → World → Prop} {Q : Exit → Act → World → Prop} {E : Prop} (hgd : o.guard = none) (s x : Operand) (t : TypeId)
    (ho : o.op = .call { callee := .builtin .append, args := #[s, x], argTypes := #[t, t] })
    (base : Nat) (e : TypeId) (i : TypeInfo) (z : Value) (size bytes : Nat) (ht : P.underlying t = some (.slice e)) (hi : P.info? e = some i) (hz : i.zero = some z)
    (hsize : i.size = size) (hby : i.bytes = bytes) (hzs : z.cells.size = size) (hsz : 0 < size)
    (v : Value) (n : Nat) (xs : List Value) (hs : a.eval s = v) (hown : w.ownsRow base e size v n xs)
    (X : Value) (m : Nat) (news : List Value) (hx : a.eval x = X) (hsrc : SrcOk w X m news) (hl : news.length = m * size) (h1 : ∀ u ∈ news, u.oneCell' = true)
    (h63 : n + m ≤ maxLen) (hbytes : (n + m) * bytes ≤ 140737488355328) (hbase : base ≤ w.heap.size)
    (h : ∀ v' w', w'.ownsRow base e size v' (n + m) (xs ++ news) → w.grownBy w' v.ownBlock → K (a.put o.dst v') w') :
    if Region.wanted o (yielded ops a.tmps) = true then Oper.wp P o a w K Q else E := by
  have hw : Region.wanted o (yielded ops a.tmps) = true := by simp [Region.wanted, hgd]
  rw [if_pos hw]
  rcases hsrc with ⟨rfl, rfl, rfl⟩ | ⟨ad, c, rfl, hnews⟩
  · have hrun := run_append_owned_none (P := P) (w := w) base t o.type e i size ht hi v n xs hown
    have hk := h v w (by simpa using hown) ⟨rfl, rfl, rfl, Nat.le_refl _, fun _ _ _ => rfl⟩
    unfold Oper.wp
    simp [execOp, ho, resolve, invoke, builtin, hs, hx, hrun, Result.andThen]
    exact hk
  · exact wp_append_own w s x t ho base e i z size bytes ht hi hz hsize hby hzs hsz v n xs hs hown ad m c news hx hl hnews h1 h63 hbytes hbase fun v' w' h2 h3 _ => h v' w' h2 h3
theorem own_kept {w w' : World} {base : Nat} {e : TypeId} {size : Nat} {v : Value} {n : Nat} {xs : List Value} (h : w.ownsRow base e size v n xs) (hb : ∀ g, v.ownBlock = some g → w'.heap[g]? = w.heap[g]?) : w'.ownsRow base e size v n xs := by
  refine ⟨h.1, ?_⟩
  rcases h.2 with h2 | ⟨g, cap, cur, hv, hg, hh, r⟩
  · exact .inl h2
  · exact .inr ⟨g, cap, cur, hv, hg, by rw [hb g (by rw [hv]; rfl)]; exact hh, r⟩
theorem own_base {w : World} {base base' : Nat} {e : TypeId} {size : Nat} {v : Value} {n : Nat} {xs : List Value} (h : w.ownsRow base e size v n xs) (hb : base' ≤ base) : w.ownsRow base' e size v n xs := by
  refine ⟨h.1, ?_⟩
  rcases h.2 with h2 | ⟨g, cap, cur, hv, hg, hh, r⟩
  · exact .inl h2
  · exact .inr ⟨g, cap, cur, hv, by omega, hh, r⟩
theorem own_block {w : World} {base : Nat} {e : TypeId} {size : Nat} {v : Value} {n : Nat} {xs : List Value} (h : w.ownsRow base e size v n xs) {g : Nat} (hg : v.ownBlock = some g) : ∃ cur, w.heap[g]? = some (.cells cur e (0, 0)) := by
  rcases h.2 with ⟨h2, _⟩ | ⟨g', cap, cur, hv, _, hh, _⟩
  · rw [h2] at hg; simp [Value.ownBlock] at hg
  · rw [hv] at hg
    have : g' = g := by simpa [Value.ownBlock] using hg
    subst this
    exact ⟨cur, hh⟩
/-- The cells of a row. -/
def rowL (R : Nat → Nat → Int) (n i : Nat) : List Value := (List.range n).map fun j => .int .i64 (R i j)
theorem rowL_length (R : Nat → Nat → Int) (n i : Nat) : (rowL R n i).length = n := by simp [rowL]
theorem rowL_get (R : Nat → Nat → Int) (n i j : Nat) (h : j < n) : (rowL R n i)[j]? = some (.int .i64 (R i j)) := by simp [rowL, h]
theorem rowL_one (R : Nat → Nat → Int) (n i : Nat) : ∀ u ∈ rowL R n i, u.oneCell' = true := by
  intro u hu
  simp [rowL] at hu
  obtain ⟨j, _, rfl⟩ := hu
  rfl
theorem rowL_min (R : Nat → Nat → Int) (n k r : Nat) (hk : k ≤ n) : (rowL R (n + 1) (r + 1)).take k ++ (rowL R (n + 1) (r + 1)).drop (k + 1) = rowL (minR R k) n r := by
  apply List.ext_getElem
  · simp [rowL]; omega
  · intro j h1 h2
    simp [rowL] at h2
    by_cases hj : j < k
    · rw [List.getElem_append_left (by simp [rowL]; omega)]
      simp [rowL, minR, hj]
    · rw [List.getElem_append_right (by simp [rowL]; omega)]
      simp [rowL, minR, hj]
      congr 1
      omega
/-- A square matrix that the call has made. -/
structure MatV (w : World) (b n : Nat) (R : Nat → Nat → Int) : Prop where
  lt : b < w.heap.size
  row : ∀ i, i < n → ∃ b' cap', w.cell? ⟨b, i, none⟩ = some (.slice (some ⟨b', 0, none⟩) n cap') ∧ n ≤ cap' ∧ b' < w.heap.size ∧ ∀ j, j < n → w.cell? ⟨b', j, none⟩ = some (.int .i64 (R i j))
theorem MatV.below {w w' : World} {b n : Nat} {R : Nat → Nat → Int} (h : MatV w b n R) (hb : Below w.heap.size w w') : MatV w' b n R := by
  refine ⟨Nat.lt_of_lt_of_le h.lt hb.size, fun i hi => ?_⟩
  obtain ⟨b', cap', c0, hc, hl, hr⟩ := h.row i hi
  exact ⟨b', cap', (hb.cell (p := ⟨b, i, none⟩) h.lt).trans c0, hc, Nat.lt_of_lt_of_le hl hb.size, fun j hj => (hb.cell (p := ⟨b', j, none⟩) hl).trans (hr j hj)⟩
theorem src_take {w : World} {b' m k c i : Nat} {R : Nat → Nat → Int} (hk : k ≤ m) (h : ∀ j, j < m → w.cell? ⟨b', j, none⟩ = some (.int .i64 (R i j))) : SrcOk w (.slice (some ⟨b', 0, none⟩) k c) k ((rowL R m i).take k) := by
  refine .inr ⟨_, _, rfl, fun j u hj => ?_⟩
  have hjk : j < k := by
    have := (List.getElem?_eq_some_iff.1 hj).1
    rw [List.length_take] at this
    omega
  rw [List.getElem?_take, if_pos hjk, rowL_get _ _ _ _ (by omega)] at hj
  cases hj
  rw [Addr.add_lit, Nat.zero_add]
  exact h j (by omega)
theorem src_drop {w : World} {b' m k c l i o : Nat} {R : Nat → Nat → Int} (hl : l = m - (k + 1)) (ho : o = k + 1 ∨ k + 1 = m) (h : ∀ j, j < m → w.cell? ⟨b', j, none⟩ = some (.int .i64 (R i j))) : SrcOk w (.slice (some ⟨b', o, none⟩) l c) l ((rowL R m i).drop (k + 1)) := by
  refine .inr ⟨_, _, rfl, fun j u hj => ?_⟩
  have hjk : k + 1 + j < m := by
    have := (List.getElem?_eq_some_iff.1 hj).1
    rw [List.length_drop, rowL_length] at this
    omega
  rw [List.getElem?_drop, rowL_get _ _ _ _ hjk] at hj
  cases hj
  have ho : o = k + 1 := by omega
  rw [Addr.add_lit, ho]
  exact h _ hjk
/-- The rows of a minor while it is made. -/
structure MinOwn (w : World) (base n : Nat) (R : Nat → Nat → Int) (q : Nat) (v : Value) (xs : List Value) : Prop where
  own : w.ownsRow base 71 1 v q xs
  row : ∀ r, r < q → ∃ v', xs[r]? = some v' ∧ w.ownsRow base 3 1 v' n (rowL R n r)
theorem MinOwn.mat {w : World} {base n : Nat} {R : Nat → Nat → Int} {v : Value} {xs : List Value} (h : MinOwn w base n R n v xs) (hn : 1 ≤ n) : ∃ g c, v = .slice (some ⟨g, 0, none⟩) n c ∧ n ≤ c ∧ MatV w g n R := by
  rcases own_form h.own with ⟨_, h2⟩ | ⟨g, cap, h1, h2, h3, h4, h5, h6, h7⟩
  · omega
  · refine ⟨g, cap, h1, h2, h5, fun i hi => ?_⟩
    obtain ⟨v', e', ho⟩ := h.row i hi
    rcases own_form ho with ⟨_, q2⟩ | ⟨g', cap', q1, q2, q3, q4, q5, q6, q7⟩
    · omega
    · exact ⟨g', cap', by rw [h6 i (by omega), e', q1], q2, q5, fun j hj => by rw [q6 j (by omega), rowL_get _ _ _ _ hj]⟩
def DetC (n : Nat) : Prop := ∀ (w : World) (b cap : Nat) (R : Nat → Nat → Int), n ≤ cap → MatV w b n R → RB n R → Calls Tryd.prog 80 #[.slice (some ⟨b, 0, none⟩) n cap] w fun e w' => e = .returned (.int .i64 (detF n R)) ∧ Below w.heap.size w w'
theorem c_det1 : DetC 1 := by
  intro w b cap R hc hM _
  obtain ⟨b', cap', c0, hc', hl, hr⟩ := hM.row 0 (by omega)
  have c1 := hr 0 (by omega)
  have hb := hM.lt
  clear hM hr
  have hgen := sgen; have hgen2 := sgen2; have hgen3 := sgen3; go_enter Tryd.func80, Tryd.ntmps80
  go_wp2
  go_ret
  exact ⟨rfl, Below.refl _ _⟩
theorem run_drop {b' m cap' k : Nat} (h1 : k + 1 ≤ m) (h2 : m ≤ cap') : ∃ o, (o = k + 1 ∨ k + 1 = m) ∧ ∀ w : World, (Instr.slice 71 (.slice (some ⟨b', 0, none⟩) m cap') (some (.int .i64 ((k : Int) + 1))) none none).run Tryd.prog w = .ok (.slice (some ⟨b', o, none⟩) (m - (k + 1)) (cap' - (k + 1))) w := by
  have a1 : (k : Int) + 1 ≤ (m : Int) := by omega
  have a2 : (0 : Int) ≤ (k : Int) + 1 := by omega
  have a3 : ((k : Int) + 1).toNat = k + 1 := by omega
  by_cases e : cap' = k + 1
  · refine ⟨0, .inr (by omega), fun w => ?_⟩
    go_simp
  · refine ⟨k + 1, .inl rfl, fun w => ?_⟩
    go_simp
theorem row_done {w : World} {base n m k q : Nat} {R : Nat → Nat → Int} {v : Value} (hm : m = n + 1) (hn : 1 ≤ n) (hk : k ≤ n) (h : w.ownsRow base 3 1 v (k + (m - (k + 1))) ((rowL R m (q + 1)).take k ++ (rowL R m (q + 1)).drop (k + 1))) :
    ∃ g c, v = .slice (some ⟨g, 0, none⟩) n c ∧ n ≤ c ∧ Hid (w.ownsRow base 3 1 (.slice (some ⟨g, 0, none⟩) n c) n (rowL (minR R k) n q)) := by
  rw [show k + (m - (k + 1)) = n by omega, hm, rowL_min R n k q hk] at h
  rcases own_form h with ⟨_, h2⟩ | ⟨g, cap, h1, h2, h3, h4, h5, h6, h7⟩
  · omega
  · subst h1
    exact ⟨g, cap, rfl, h2, Lib.hid h⟩
theorem minOwn_next {wo wr w5 w6 : World} {n q g5 c5 : Nat} {R : Nat → Nat → Int} {v v6 : Value} {xs : List Value} (ho : wr.ownsRow wo.heap.size 71 1 v q xs) (hr : ∀ r, r < q → ∃ v', xs[r]? = some v' ∧ wr.ownsRow wo.heap.size 3 1 v' n (rowL R n r))
    (hsz : wo.heap.size ≤ wr.heap.size) (hb5 : Below wr.heap.size wr w5) (h5 : w5.ownsRow wr.heap.size 3 1 (.slice (some ⟨g5, 0, none⟩) n c5) n (rowL R n q))
    (h6 : w6.ownsRow wo.heap.size 71 1 v6 (q + 1) (xs ++ [.slice (some ⟨g5, 0, none⟩) n c5])) (hg : (w5.alloc (.cells #[.slice (some ⟨g5, 0, none⟩) n c5] 71)).grownBy w6 v.ownBlock) : MinOwn w6 wo.heap.size n R (q + 1) v6 (xs ++ [.slice (some ⟨g5, 0, none⟩) n c5]) := by
  refine ⟨h6, fun r hrq => ?_⟩
  have hxl : xs.length = q := by have := ho.1; omega
  have step : ∀ v', w5.ownsRow wo.heap.size 3 1 v' n (rowL R n r) → w6.ownsRow wo.heap.size 3 1 v' n (rowL R n r) := fun v' hv' => by
    have hva := hv'.alloc (.cells #[Value.slice (some ⟨g5, 0, none⟩) n c5] 71)
    refine own_kept hva (fun g hgg => hg.block g ?_ (fun e => ?_))
    · obtain ⟨cur, hcur⟩ := own_block hva hgg
      exact (Array.getElem?_eq_some_iff.1 hcur).1
    · obtain ⟨cur, hcur⟩ := own_block hva hgg
      obtain ⟨cur2, hcur2⟩ := own_block ((own_below ho hb5).alloc (.cells #[Value.slice (some ⟨g5, 0, none⟩) n c5] 71)) e.symm
      rw [hcur] at hcur2
      simp at hcur2
  by_cases e : r = q
  · subst e
    exact ⟨_, by rw [List.getElem?_append_right (by omega), hxl, Nat.sub_self]; rfl, step _ (own_base h5 hsz)⟩
  · obtain ⟨v', q1, q2⟩ := hr r (by omega)
    exact ⟨v', by rw [List.getElem?_append_left (by omega)]; exact q1, step _ (own_below q2 hb5)⟩
set_option maxRecDepth 100000 in
set_option maxHeartbeats 4000000 in
theorem c_detS (n m : Nat) (hm : m = n + 1) (hn : 1 ≤ n) (hn2 : n ≤ 2) (D : Int) (hD0 : 0 ≤ D) (hD : D ≤ 12800000000) (HD : DetC n) (HB : ∀ R, RB n R → -D ≤ detF n R ∧ detF n R ≤ D) : DetC m := by
  intro w b cap R hc hM hB
  obtain ⟨i0, hi0, iz0, iz1, iz2⟩ := info_parts info_int'
  obtain ⟨i1, hi1, iy0, iy1, iy2⟩ := info_parts info_ints
  have HM := Lib.hid hM
  have HR : Hid (RB (n + 1) R) := Lib.hid (by rw [← hm]; exact hB)
  have HDD := Lib.hid HD
  have HBB := Lib.hid HB
  obtain ⟨bz, capz, z0, z1, z2, z3⟩ := hM.row 0 (by omega)
  have hbl := hM.lt
  have HZ := Lib.hid z3
  have t1 : ((m : Int) == 1) = false := by simp; omega
  have hm0 : (0 : Int) < (m : Int) := by omega
  have hm1 : (1 : Int) ≤ (m : Int) := by omega
  have hmc : (m : Int) ≤ (cap : Int) := by omega
  have HE : Hid (detF m R = dPart (detF n) R m) := Lib.hid (by rw [hm]; exact detF_next n hn R)
  have Hm := Lib.hid hm
  have em : m - 1 = n := by omega
  clear hM hB HD HB z3
  rw [HE.out]
  clear hm
  have hgen := sgen; have hgen2 := sgen2; have hgen3 := sgen3; go_enter Tryd.func80, Tryd.ntmps80
  go_wp2_with fail
  go_loopg [3, 4, 19] m (fun gk x3 x4 i wr => ∃ k : Nat, gk + k = m ∧ x3 = .int .i64 (dPart (detF n) R k) ∧ x4 = .int .i64 (sgn k) ∧ i = .int .i64 (k : Int) ∧ Below w.heap.size w wr)
  case atStart => exact ⟨0, by omega, rfl, rfl, rfl, Below.refl _ _⟩
  case round =>
    obtain ⟨k, hk, rfl, rfl, rfl, hbel⟩ := hrel
    obtain ⟨ga, hga⟩ : ∃ ga, ga = gk := ⟨gk, rfl⟩
    obtain ⟨wo, rfl⟩ : ∃ wo : World, wo = wr := ⟨_, rfl⟩
    have hsz := hbel.size
    by_cases hlt : k < m
    · have hkz : (k : Int) < (m : Int) := by omega
      have hk2 : k ≤ n := by have := Hm.out; omega
      have hk1 : (k : Int) + 1 ≤ (m : Int) := by omega
      have hkw : IntKind.i64.wrap ((k : Int) + 1) = (k : Int) + 1 := IntWalk.i64_in _ (by omega)
      go_wp2_with fail
      go_loopg [6, 25] n (fun gk x6 i wr => ∃ q : Nat, ∃ xs : List Value, gk + q = n ∧ i = .int .i64 (q : Int) ∧ Below wo.heap.size wo wr ∧ MinOwn wr wo.heap.size n (minR R k) q x6 xs)
      case atStart => exact ⟨0, [], by omega, rfl, Below.refl _ _, World.ownsRow_nil _ _ _ _, fun r hr => by omega⟩
      case round =>
        obtain ⟨q, xs, hq, rfl, hbi, hO⟩ := hrel
        have hszi := hbi.size
        by_cases hlq : q < n
        · have hqz : (q : Int) < (n : Int) := by omega
          obtain ⟨b', cap', r0, r1, r2, r3⟩ := (HM.out.below (hbel.trans (hbi.mono hsz))).row (q + 1) (by have := Hm.out; omega)
          have r1z : (m : Int) ≤ (cap' : Int) := by omega
          have hlw := Nat.lt_of_lt_of_le hbl (Nat.le_trans hsz hszi)
          have r0' : wr.cell? ⟨b, 1 + q, none⟩ = some (.slice (some ⟨b', 0, none⟩) m cap') := by rw [Nat.add_comm 1 q]; exact r0
          have HO := Lib.hid hO.own
          have HRW := Lib.hid hO.row
          clear hO r0
          have hkc : (k : Int) ≤ (cap' : Int) := by omega
          obtain ⟨o, ho, hsl⟩ := run_drop (b' := b') (m := m) (cap' := cap') (k := k) (by omega) r1
          go_upto_region 11 with fail
          go_region_held3 (fun w' => True) (trivial) (first | (refine step_append_any (by rfl) _ _ _ (by rfl) wr.heap.size 3 i0 _ 1 8 Tryd.underlying71 hi0 iz0 iz1 iz2 rfl (by omega) (.slice none 0 0) 0 [] (by rfl) (World.ownsRow_nil _ _ _ _) (.slice (some ⟨b', 0, none⟩) k cap') k ((rowL R m (q + 1)).take k) (by rfl) (src_take (i := q + 1) (m := m) (R := R) (by omega) (fun j hj => r3 j hj)) (by rw [List.length_take, rowL_length]; omega) (fun u hu => rowL_one _ _ _ u (List.mem_of_mem_take hu)) (by unfold maxLen; omega) (by omega) (by (try simp)) ?_; intro v4 w4 ho4a hg4; have ho4 : w4.ownsRow wr.heap.size 3 1 v4 k ((rowL R m (q + 1)).take k) := (by simpa using ho4a); have hb4 : Below wr.heap.size wr w4 := Below.grown (by exact belz) hg4 (by (try simp)) (fun q hq => by simp [Value.ownBlock] at hq); have hz4 := hb4.size) | (refine step_append_any (by rfl) _ _ _ (by rfl) wr.heap.size 3 i0 _ 1 8 Tryd.underlying71 hi0 iz0 iz1 iz2 rfl (by omega) v4 k _ (by rfl) ho4 (.slice (some ⟨b', o, none⟩) (m - (k + 1)) (cap' - (k + 1))) (m - (k + 1)) ((rowL R m (q + 1)).drop (k + 1)) (by rfl) (src_drop (i := q + 1) (m := m) (R := R) rfl ho (fun j hj => (hb4.cell (p := ⟨b', j, none⟩) r2).trans (r3 j hj))) (by rw [List.length_drop, rowL_length]; omega) (fun u hu => rowL_one _ _ _ u (List.mem_of_mem_drop hu)) (by unfold maxLen; omega) (by omega) (by omega) ?_; intro v5 w5 ho5 hg5; have hb5 : Below wr.heap.size wr w5 := Below.grown hb4 hg5 hz4 (fun g hg => (ho4.lt g hg).1); have hz5 := hb5.size; obtain ⟨g5, c5, rfl, hc5, HO5⟩ := row_done Hm.out hn hk2 ho5) | (refine step_append_any (by rfl) _ _ _ (by rfl) wo.heap.size 71 i1 _ 1 24 Tryd.underlying70 hi1 iy0 iy1 iy2 rfl (by omega) u6 q xs (by rfl) ((own_below HO.out hb5).alloc _) (.slice (some ⟨w5.heap.size, 0, none⟩) 1 1) 1 [.slice (some ⟨g5, 0, none⟩) n c5] (by rfl) (.inr ⟨_, _, rfl, World.news_of_block (cs := #[.slice (some ⟨g5, 0, none⟩) n c5]) (t := 71) (fr := (0, 0)) (heap_alloc_new w5 _)⟩) (by rfl) (by simp [Value.oneCell']) (by unfold maxLen; omega) (by omega) (by (try simp); omega) ?_; intro v6 w6 ho6 hg6))
          have hb6 : Below wo.heap.size wo w6 := by
            refine Below.grown ((hbi.trans (hb5.mono hszi)).alloc (by omega) _) hg6 ?_ ?_
            · simp; omega
            · intro g hg
              exact (HO.out.lt g hg).1
          have HN := Lib.hid (minOwn_next HO.out HRW.out hszi hb5 HO5.out ho6 hg6)
          clear hg6 ho6 HO5 hg5 ho5 hg4 ho4 ho4a HO HRW
          go_wp2_with fail
          go_roundg (n - (q + 1))
          case measure => omega
          case rel => exact ⟨q + 1, xs ++ [Value.slice (some ⟨g5, 0, none⟩) n c5], by omega, rfl, hb6, HN.out⟩
        · have hqn : q = n := by omega
          subst hqn
          obtain ⟨g, c, rfl, hgc, hMin⟩ := hO.mat hn
          clear hO
          have hz0 : wr.cell? ⟨b, 0, none⟩ = some (.slice (some ⟨bz, 0, none⟩) m capz) := ((hbel.trans (hbi.mono hsz)).cell (p := ⟨b, 0, none⟩) hbl).trans z0
          have hz3 : wr.cell? ⟨bz, k, none⟩ = some (.int .i64 (R 0 k)) := ((hbel.trans (hbi.mono hsz)).cell (p := ⟨bz, k, none⟩) z2).trans (HZ.out k hlt)
          have HC := Lib.hid (fun w1 (h : Below wr.heap.size wr w1) => HDD.out w1 g c (minR R k) hgc (hMin.below h) (HR.out.min k))
          have hF := HBB.out _ (HR.out.min k)
          have h0 := HR.out 0 k (by omega) (by omega)
          have hP := dPart_bd HR.out HBB.out k (by omega)
          have hsg := sgn_mul k h0
          have hsb := sgn_bd k
          have hm00 : 0 < m := by omega
          have hmu := mul_bd hsg hF
          have hkD : (k : Int) * (80000 * D) ≤ 3 * (80000 * D) := Int.mul_le_mul_of_nonneg_right (by omega) (by omega)
          have HNX : Hid (dPart (detF q) R (k + 1) = dPart (detF q) R k + sgn k * R 0 k * detF q (minR R k)) := Lib.hid rfl
          have HSG := Lib.hid (sgn_next k)
          have hbo : Below w.heap.size w wr := hbel.trans (hbi.mono hsz)
          clear hMin hgc
          generalize detF q (minR R k) = F at *
          generalize dPart (detF q) R k = P at *
          generalize sgn k = sg at *
          generalize R 0 k = r0k at *
          have hw1 : IntKind.i64.wrap (sg * r0k) = sg * r0k := IntWalk.i64_in _ (by omega)
          have hw2 : IntKind.i64.wrap (sg * r0k * F) = sg * r0k * F := IntWalk.i64_in _ (by omega)
          have hw3 : IntKind.i64.wrap (P + sg * r0k * F) = P + sg * r0k * F := IntWalk.i64_in _ (by omega)
          have hzi := hbi.size
          go_upto_region 13 with fail
          go_region_held3 (fun w' => w'.cell? ⟨b, 0, none⟩ = some (.slice (some ⟨bz, 0, none⟩) m capz) ∧ w'.cell? ⟨bz, k, none⟩ = some (.int .i64 r0k)) (refine ⟨?_, ?_⟩ <;> (first | (go_simp; done) | go_keep)) (first | (go_at_call 80; (with_reducible refine (HC.out _ (by first | exact Below.refl _ _ | assumption | exact belz)).mono ?_); rintro e w2 ⟨rfl, hb⟩; have hz := hb.size; (try simp only [szA, szS, szD, szN] at hz); (try (refine bcB (n := b) hb ?_; intro h_bb_0 e_bb_0 d_bb_0 _ _)); (try (refine bcB (n := bz) hb ?_; intro h_bbz_0 e_bbz_0 d_bbz_0 _ _))))
          have hb2 : Below w.heap.size w w2 := by exact belz
          have hneg : IntKind.i64.wrap (-sg) = -sg := IntWalk.i64_in _ (by omega)
          clear hw1 hw2 hw3 hmu hP hsg HC
          go_wp2_with fail
          go_roundg (m - (k + 1))
          case measure => omega
          case rel => exact ⟨k + 1, by omega, by rw [HNX.out], by rw [HSG.out], rfl, hb2⟩
    · have hkm : k = m := by omega
      subst hkm
      go_wp2
      go_ret
      exact ⟨rfl, hbel⟩
theorem c_det2 : DetC 2 := c_detS 1 2 rfl (by omega) (by omega) 80000 (by omega) (by omega) c_det1 det1_bd
theorem c_det3 : DetC 3 := c_detS 2 3 rfl (by omega) (by omega) 12800000000 (by omega) (by omega) c_det2 det2_bd
theorem c_det (n : Nat) (h1 : 1 ≤ n) (h3 : n ≤ 3) : DetC n := by
  rcases (show n = 1 ∨ n = 2 ∨ n = 3 by omega) with rfl | rfl | rfl
  · exact c_det1
  · exact c_det2
  · exact c_det3
end
section
open Go.RowKit
theorem rowIs_below {w w' : World} {b : Nat} {t : TypeId} {n : Nat} {f : Nat → Value} (h : w.rowIs b t n f) (hb : Below w.heap.size w w') : w'.rowIs b t n f :=
  h.of_block (hb.block b h.lt)
/-- The matrix and the right side while they are made. -/
structure Sys (w : World) (B bm br n t : Nat) (M : Nat → Nat → Int) (V : Nat → Int) : Prop where
  size : w.heap.size = B + 2 + t
  top : w.rowIs bm 71 n (fun i => if i < t then .slice (some ⟨B + 2 + i, 0, none⟩) n n else .slice none 0 0)
  row : ∀ i, i < t → w.rowIs (B + 2 + i) 3 n (fun j => .int .i64 (M i j))
  rt : w.rowIs br 3 n (fun i => .int .i64 (V i))
def BmBr (B bm br : Nat) : Prop := (bm = B ∧ br = B + 1) ∨ (bm = B + 1 ∧ br = B)
theorem Sys.congr {w : World} {B bm br n t : Nat} {M M' : Nat → Nat → Int} {V V' : Nat → Int} (h : Sys w B bm br n t M V) (e : ∀ i j, i < t → j < n → M i j = M' i j) (f : ∀ i, i < n → V i = V' i) : Sys w B bm br n t M' V' :=
  ⟨h.size, h.top, fun i hi => (h.row i hi).congr (fun j hj => by rw [e i j hi hj]), h.rt.congr (fun j hj => by rw [f j hj])⟩
theorem Sys.drew {w : World} {B bm br n t : Nat} {M : Nat → Nat → Int} {V : Nat → Int} (h : Sys w B bm br n t M V) : Sys w.drew B bm br n t M V := ⟨h.size, h.top.drew, fun i hi => (h.row i hi).drew, h.rt.drew⟩
theorem Sys.set {w : World} {B bm br n t : Nat} {M : Nat → Nat → Int} {V : Nat → Int} (h : Sys w B bm br n t M V) (hb : BmBr B bm br) (i j : Nat) (v : Int) : Sys (w.setCell ⟨B + 2 + i, j, none⟩ (.int .i64 v)) B bm br n t (fun x y => if x = i ∧ y = j then v else M x y) V := by
  have q1 : bm ≠ B + 2 + i := by rcases hb with ⟨a, b⟩ | ⟨a, b⟩ <;> omega
  have q2 : br ≠ B + 2 + i := by rcases hb with ⟨a, b⟩ | ⟨a, b⟩ <;> omega
  refine ⟨by simp [h.size], h.top.setOther q1 _, fun x hx => ?_, h.rt.setOther q2 _⟩
  by_cases e : x = i
  · subst e
    refine ((h.row x hx).set j _).congr (fun y hy => ?_)
    by_cases e2 : y = j
    · subst e2; rw [if_pos rfl, if_pos ⟨rfl, rfl⟩]
    · rw [if_neg e2, if_neg (fun q => e2 q.2)]
  · refine ((h.row x hx).setOther (by show B + 2 + x ≠ B + 2 + i; omega) _).congr (fun y hy => ?_)
    rw [if_neg (fun q => e q.1)]
theorem Sys.setV {w : World} {B bm br n t : Nat} {M : Nat → Nat → Int} {V : Nat → Int} (h : Sys w B bm br n t M V) (hb : BmBr B bm br) (i : Nat) (v : Int) : Sys (w.setCell ⟨br, i, none⟩ (.int .i64 v)) B bm br n t M (fun x => if x = i then v else V x) := by
  have q1 : bm ≠ br := by rcases hb with ⟨a, b⟩ | ⟨a, b⟩ <;> omega
  refine ⟨by simp [h.size], h.top.setOther q1 _, fun x hx => (h.row x hx).setOther (by show B + 2 + x ≠ br; rcases hb with ⟨a, b⟩ | ⟨a, b⟩ <;> omega) _, (h.rt.set i _).congr (fun y hy => ?_)⟩
  by_cases e : y = i
  · rw [if_pos e, if_pos e]
  · rw [if_neg e, if_neg e]
theorem sys_row {w : World} {B bm br n t : Nat} {M : Nat → Nat → Int} {V : Nat → Int} (h : Sys w B bm br n t M V) (hb : BmBr B bm br) (hz : ∀ j, M t j = 0) : Sys ((w.alloc (.cells (madeCells #[.int .i64 0] n) 3)).setCell ⟨bm, t, none⟩ (.slice (some ⟨B + 2 + t, 0, none⟩) n n)) B bm br n (t + 1) M V := by
  have hnew := World.rowIs_made w (.int .i64 0) n 3
  rw [h.size] at hnew
  refine ⟨by simp [h.size]; omega, ((h.top.alloc _).set t _).congr (fun j _ => ?_), fun j hj => ?_, ((h.rt.alloc _).setOther (by show br ≠ bm; rcases hb with ⟨a, b⟩ | ⟨a, b⟩ <;> omega) _)⟩
  · by_cases e : j = t
    · subst e; simp
    · rw [if_neg e]
      by_cases hlt : j < t
      · rw [if_pos hlt, if_pos (by omega)]
      · rw [if_neg hlt, if_neg (by omega)]
  · by_cases e : j = t
    · subst e
      exact (hnew.setOther (by show B + 2 + j ≠ bm; rcases hb with ⟨a, b⟩ | ⟨a, b⟩ <;> omega) _).congr (fun i _ => by rw [hz i])
    · exact ((h.row j (by omega)).alloc _).setOther (by show B + 2 + j ≠ bm; rcases hb with ⟨a, b⟩ | ⟨a, b⟩ <;> omega) _
theorem Sys.c0 {w : World} {B bm br n t : Nat} {M : Nat → Nat → Int} {V : Nat → Int} (h : Sys w B bm br n t M V) {i : Nat} (hi : i < n) (ht : i < t) : w.cell? ⟨bm, i, none⟩ = some (.slice (some ⟨B + 2 + i, 0, none⟩) n n) := by
  have := h.top.cell hi
  rw [if_pos ht] at this
  exact this
theorem Sys.c1 {w : World} {B bm br n t : Nat} {M : Nat → Nat → Int} {V : Nat → Int} (h : Sys w B bm br n t M V) {i j : Nat} (hi : i < t) (hj : j < n) : w.cell? ⟨B + 2 + i, j, none⟩ = some (.int .i64 (M i j)) := (h.row i hi).cell hj
theorem Sys.f1 {w : World} {B bm br n t : Nat} {M : Nat → Nat → Int} {V : Nat → Int} (h : Sys w B bm br n t M V) {i : Nat} (hi : i < t) (j : Nat) : w.frozen? ⟨B + 2 + i, j, none⟩ = false := (h.row i hi).frozen j
theorem Sys.mat {w : World} {B bm br n : Nat} {M : Nat → Nat → Int} {V : Nat → Int} (h : Sys w B bm br n n M V) : MatV w bm n M :=
  ⟨h.top.lt, fun i hi => ⟨B + 2 + i, n, h.c0 hi hi, Nat.le_refl _, (h.row i hi).lt, fun j hj => h.c1 hi hj⟩⟩
/-- A row of numbers of the call's own. -/
def VecV (w : World) (b n : Nat) (V : Nat → Int) : Prop := w.rowIs b 3 n (fun i => .int .i64 (V i))
def SysIs (w : World) (n : Nat) (M : Nat → Nat → Int) (V : Nat → Int) (e : Ending) (w' : World) : Prop :=
  ∃ bm br, e = .returned (.tuple #[.slice (some ⟨bm, 0, none⟩) n n, .slice (some ⟨br, 0, none⟩) n n]) ∧ w.heap.size ≤ bm ∧ w.heap.size ≤ br ∧ MatV w' bm n M ∧ VecV w' br n V ∧ Below w.heap.size w w'
theorem smN_bd {f : Nat → Int} {A : Int} : ∀ n, (∀ i, i < n → -A ≤ f i ∧ f i ≤ A) → -((n : Int) * A) ≤ smN n f ∧ smN n f ≤ (n : Int) * A
  | 0, _ => by simp [smN]
  | n + 1, h => by
    have a := smN_bd n (fun i hi => h i (by omega))
    have b := h n (by omega)
    have e : ((n + 1 : Nat) : Int) * A = (n : Int) * A + A := by rw [Int.natCast_add, Int.add_mul]; simp
    rw [e]
    unfold smN
    omega
def rowsB (n N : Nat) (R : Nat → Nat → Int) (H : Nat → Int) : Prop := (∀ i j, i < N → j < n → -10 ≤ R i j ∧ R i j ≤ 10) ∧ ∀ i, i < N → -1000 ≤ H i ∧ H i ≤ 1000
theorem gmM_bd {n N : Nat} {R : Nat → Nat → Int} {H : Nat → Int} (h : rowsB n N R H) (hN : N ≤ 8) {i j : Nat} (hi : i < n) (hj : j < n) : ∀ k, k ≤ N → -800 ≤ gmM R k i j ∧ gmM R k i j ≤ 800 := by
  intro k hk
  have := smN_bd (f := fun k => R k i * R k j) (A := 100) k (fun q hq => mul_bd (A := 10) (D := 10) (h.1 q i (by omega) hi) (h.1 q j (by omega) hj))
  unfold gmM
  omega
theorem gmR_bd {n N : Nat} {R : Nat → Nat → Int} {H : Nat → Int} (h : rowsB n N R H) (hN : N ≤ 8) {i : Nat} (hi : i < n) : ∀ k, k ≤ N → -80000 ≤ gmR R H k i ∧ gmR R H k i ≤ 80000 := by
  intro k hk
  have := smN_bd (f := fun k => R k i * H k) (A := 10000) k (fun q hq => mul_bd (A := 10) (D := 1000) (h.1 q i (by omega) hi) (h.2 q (by omega)))
  unfold gmR
  omega
end
section
open Go.RowKit
def hF (l : List Int) (i : Nat) : Int := l.getD i 0
theorem hF_get {l : List Int} {i : Nat} (h : i < l.length) : hF l i = l[i] := by
  unfold hF
  rw [List.getD_eq_getElem?_getD, List.getElem?_eq_getElem h, Option.getD_some]
theorem sys_start1 (w : World) (n : Nat) : Sys ((w.alloc (.cells (madeCells #[.slice none 0 0] n) 71)).alloc (.cells (madeCells #[.int .i64 0] n) 3)) w.heap.size w.heap.size (w.heap.size + 1) n 0 (fun _ _ => 0) (fun _ => 0) := by
  have h2 := World.rowIs_made (w.alloc (.cells (madeCells #[.slice none 0 0] n) 71)) (.int .i64 0) n 3
  rw [show (w.alloc (.cells (madeCells #[.slice none 0 0] n) 71)).heap.size = w.heap.size + 1 from by simp] at h2
  exact ⟨by simp, ((World.rowIs_made w (.slice none 0 0) n 71).alloc _).congr (fun j _ => by simp), fun i hi => absurd hi (Nat.not_lt_zero _), h2⟩
theorem sys_start2 (w : World) (n : Nat) : Sys ((w.alloc (.cells (madeCells #[.int .i64 0] n) 3)).alloc (.cells (madeCells #[.slice none 0 0] n) 71)) w.heap.size (w.heap.size + 1) w.heap.size n 0 (fun _ _ => 0) (fun _ => 0) := by
  have h2 := World.rowIs_made (w.alloc (.cells (madeCells #[.int .i64 0] n) 3)) (.slice none 0 0) n 71
  rw [show (w.alloc (.cells (madeCells #[.int .i64 0] n) 3)).heap.size = w.heap.size + 1 from by simp] at h2
  exact ⟨by simp, h2.congr (fun j _ => by simp), fun i hi => absurd hi (Nat.not_lt_zero _), (World.rowIs_made w (.int .i64 0) n 3).alloc _⟩
/-- A row that came in, with its place. -/
structure RowX (w : World) (a : Option Addr) (N cap n : Nat) (R : Nat → Nat → Int) (k b1 off1 : Nat) (a1 : Option Addr) (cap1 : Nat) : Prop where
  lt : b1 < w.heap.size
  c : w.cell? ⟨b1, off1 + k, none⟩ = some (.slice a1 n cap1)
  ix : ∀ w' : World, (Instr.indexAt 70 (.slice a N cap) (.int .i64 k)).run Tryd.prog w' = .ok (.pointer (some ⟨b1, off1 + k, none⟩)) w'
  e : ∀ j, j < n → ∃ b5 off5, b5 < w.heap.size ∧ w.cell? ⟨b5, off5 + j, none⟩ = some (.int .i64 (R k j)) ∧ ∀ w' : World, (Instr.indexAt 71 (.slice a1 n cap1) (.int .i64 j)).run Tryd.prog w' = .ok (.pointer (some ⟨b5, off5 + j, none⟩)) w'
theorem RowX.below {w w' : World} {a : Option Addr} {N cap n : Nat} {R : Nat → Nat → Int} {k b1 off1 : Nat} {a1 : Option Addr} {cap1 : Nat} (h : RowX w a N cap n R k b1 off1 a1 cap1) (hb : Below w.heap.size w w') : RowX w' a N cap n R k b1 off1 a1 cap1 :=
  ⟨Nat.lt_of_lt_of_le h.lt hb.size, (hb.cell (p := ⟨b1, _, none⟩) h.lt).trans h.c, h.ix, fun j hj => by
    obtain ⟨b5, off5, h1, h2, h3⟩ := h.e j hj
    exact ⟨b5, off5, Nat.lt_of_lt_of_le h1 hb.size, (hb.cell (p := ⟨b5, _, none⟩) h1).trans h2, h3⟩⟩
theorem row_x {w : World} {a : Option Addr} {L : List (List Int)} {cap k : Nat} (hM : MatSlice w a L) (hk : ∀ r ∈ L, r.length = k) {i : Nat} (hi : i < L.length) : ∃ b1 off1 a1 cap1, RowX w a L.length cap k (rwF L) i b1 off1 a1 cap1 := by
  obtain ⟨b, off, v, ha, hb, c0, ⟨a', cap', e, hc, hr⟩⟩ := hM i hi
  have hl := hk L[i] (List.getElem_mem hi)
  subst e
  rw [hl] at c0
  refine ⟨b, off, a', cap', hb, c0, @ix_Row a b off L.length cap i ha hi, fun j hj => ?_⟩
  obtain ⟨b5, off5, ha5, hb5, c5⟩ := hr j (by omega)
  refine ⟨b5, off5, hb5, ?_, @ix_Int a' b5 off5 k cap' j ha5 hj⟩
  have e : rwF L i j = (L[i])[j]'(by omega) := by
    unfold rwF
    simp only [List.getD_eq_getElem?_getD, List.getElem?_eq_getElem hi, Option.getD_some]
    rw [List.getElem?_eq_getElem (by omega), Option.getD_some]
  rw [e]
  exact c5
def syM (R : Nat → Nat → Int) (N r k j : Nat) : Nat → Nat → Int := fun i q => if i < r then gmM R N i q else if i = r then (if q < j then gmM R (k + 1) i q else gmM R k i q) else 0
def syV (R : Nat → Nat → Int) (H : Nat → Int) (N r k : Nat) : Nat → Int := fun i => if i < r then gmR R H N i else if i = r then gmR R H k i else 0
set_option maxRecDepth 100000 in
set_option maxHeartbeats 6400000 in
theorem c_system (n : Nat) (n1 : 1 ≤ n) (n3 : n ≤ 3) (a : Option Addr) (cap : Nat) (L : List (List Int)) (ah : Option Addr) (ch : Nat) (HL : List Int) (w : World) (N1 : 0 < L.length) (N8 : L.length ≤ 8) (hM : MatSlice w a L) (hk : ∀ r ∈ L, r.length = n) (hH : IntSlice w ah HL) (hl : HL.length = L.length) (hB : rowsB n L.length (rwF L) (hF HL)) :
    Calls Tryd.prog 61 #[.slice a L.length cap, .slice ah L.length ch] w (SysIs w n (gmM (rwF L) L.length) (gmR (rwF L) (hF HL) L.length)) := by
  have hmk1 := run_make_row' (P := Tryd.prog) 70 71 (.slice none 0 0) 24 Tryd.underlying70 info_ints rfl .i64 .i64 n (by omega) (by omega)
  have hmk2 := run_make_row' (P := Tryd.prog) 71 3 (.int .i64 0) 8 Tryd.underlying71 info_int' rfl .i64 .i64 n (by omega) (by omega)
  obtain ⟨b, off, a0, cap0, c0, ix0, -⟩ := (row_k (cap := cap) hM hk N1).ex
  simp only [Int.natCast_zero, Nat.add_zero] at c0 ix0
  obtain ⟨N, hN⟩ : ∃ N, N = L.length := ⟨_, rfl⟩
  have HRK : Hid (∀ i, i < N → ∃ b1 off1 a1 cap1, RowX w a N cap n (rwF L) i b1 off1 a1 cap1) := Lib.hid (fun i hi => by
    rw [hN] at hi ⊢
    exact row_x hM hk hi)
  have HHK : Hid (∀ w', Below w.heap.size w w' → ∀ i, i < N → ∃ b off, w'.cell? ⟨b, off + i, none⟩ = some (.int .i64 (hF HL i)) ∧ ∀ w1 : World, (Instr.indexAt 71 (.slice ah N ch) (.int .i64 i)).run Tryd.prog w1 = .ok (.pointer (some ⟨b, off + i, none⟩)) w1) := Lib.hid (fun w' hb i hi => by
    obtain ⟨b, off, e, hb2, c⟩ := (hH.below (Nat.le_refl _) hb) i (by omega)
    exact ⟨b, off, by rw [hF_get (by omega)]; exact c, @ix_Int ah b off N ch i e hi⟩)
  have HB : Hid (rowsB n N (rwF L) (hF HL)) := Lib.hid (by rw [hN]; exact hB)
  rw [← hN] at ix0 N1 N8 ⊢
  clear hM hk hH hl hB hN
  generalize rwF L = R at *
  generalize hF HL = H at *
  have hgen := sgen; have hgen2 := sgen2; have hgen3 := sgen3; go_enter Tryd.func61, Tryd.ntmps61
  go_wp2_with fail
  go_upto_region 2 with fail
  go_cut [7, 8] (fun x7 x8 wc => ∃ bm br, x7 = .slice (some ⟨bm, 0, none⟩) n n ∧ x8 = .slice (some ⟨br, 0, none⟩) n n ∧ BmBr w.heap.size bm br ∧ Below w.heap.size w wc ∧ Sys wc w.heap.size bm br n 0 (fun _ _ => 0) (fun _ => 0))
  case first =>
    go_region
    all_goals go_wp2_with fail
    all_goals go_meet
    · exact ⟨_, _, rfl, rfl, .inl ⟨rfl, rfl⟩, by exact belz, (sys_start1 w n).drew⟩
    · exact ⟨_, _, rfl, rfl, .inr ⟨rfl, rfl⟩, by exact belz, (sys_start2 w n).drew⟩
  case rest =>
    obtain ⟨bm, br, rfl, rfl, hbb, hbel0, hS0⟩ := hcut
    obtain ⟨wd, rfl⟩ : ∃ wd : World, wd = wc := ⟨_, rfl⟩
    have HBB := Lib.hid hbb
    have hbmw : w.heap.size ≤ bm := by rcases hbb with ⟨h1, h2⟩ | ⟨h1, h2⟩ <;> omega
    have hbrw : w.heap.size ≤ br := by rcases hbb with ⟨h1, h2⟩ | ⟨h1, h2⟩ <;> omega
    clear hmk1 hbb
    go_wp2_with fail
    go_loopg [22] n (fun gk i wr => ∃ r : Nat, gk + r = n ∧ i = .int .i64 (r : Int) ∧ Below w.heap.size w wr ∧ Sys wr w.heap.size bm br n r (gmM R N) (fun i => if i < r then gmR R H N i else 0))
    case atStart => exact ⟨0, by omega, rfl, hbel0, hS0.congr (fun i j hi => absurd hi (Nat.not_lt_zero _)) (fun i _ => by simp)⟩
    case round =>
      clear hS0 hbel0
      obtain ⟨r, hr, rfl, hbel, hS⟩ := hrel
      obtain ⟨wo, rfl⟩ : ∃ wo : World, wo = wr := ⟨_, rfl⟩
      obtain ⟨ga, hga⟩ : ∃ ga, ga = gk := ⟨gk, rfl⟩
      by_cases hrn : r < n
      · have hrz : (r : Int) < (n : Int) := by omega
        have hst1 : ∀ o, (wo.alloc o).cell? ⟨bm, r, none⟩ = some (.slice none 0 0) := fun o => by
          have := (hS.top.alloc o).cell hrn
          rwa [if_neg (Nat.lt_irrefl r)] at this
        have hst2 : ∀ o, (wo.alloc o).frozen? ⟨bm, r, none⟩ = false := fun o => (hS.top.alloc o).frozen r
        have hsz := hS.size
        have hS1 : Sys wo w.heap.size bm br n r (fun i q => if i < r then gmM R N i q else 0) (fun i => if i < r then gmR R H N i else 0) := hS.congr (fun i j hi _ => by rw [if_pos hi]) (fun i _ => rfl)
        have hS2 := sys_row hS1 HBB.out (fun j => by rw [if_neg (Nat.lt_irrefl r)])
        clear hS hS1
        go_upto_region 7 with fail
        have hb2 : Below w.heap.size w ((wo.alloc (.cells (madeCells #[.int .i64 0] n) 3)).setCell ⟨bm, r, none⟩ (.slice (some ⟨w.heap.size + 2 + r, 0, none⟩) n n)) := by exact belz
        clear hst1 hst2
        generalize (wo.alloc (.cells (madeCells #[.int .i64 0] n) 3)).setCell ⟨bm, r, none⟩ (.slice (some ⟨w.heap.size + 2 + r, 0, none⟩) n n) = w2 at *
        go_wp2_with fail
        go_loopg [32] N (fun gk i wr => ∃ k : Nat, gk + k = N ∧ i = .int .i64 (k : Int) ∧ Below w.heap.size w wr ∧ Sys wr w.heap.size bm br n (r + 1) (fun i q => if i < r then gmM R N i q else gmM R k i q) (fun i => if i < r then gmR R H N i else if i = r then gmR R H k i else 0))
        case atStart => exact ⟨0, by omega, rfl, hb2, hS2.congr (fun i j hi _ => by by_cases e : i < r; rw [if_pos e, if_pos e]; rw [if_neg e, if_neg e]; rfl) (fun i _ => by by_cases e : i < r; rw [if_pos e, if_pos e]; rw [if_neg e, if_neg e]; by_cases e2 : i = r; rw [if_pos e2]; rfl; rw [if_neg e2])⟩
        case round =>
          clear hS2 hb2
          obtain ⟨k, hk, rfl, hbel2, hS⟩ := hrel
          obtain ⟨wp, rfl⟩ : ∃ wp : World, wp = wr := ⟨_, rfl⟩
          obtain ⟨gb, hgb⟩ : ∃ gb, gb = gk := ⟨gk, rfl⟩
          by_cases hkN : k < N
          · have hkz : (k : Int) < (N : Int) := by omega
            obtain ⟨b1, off1, a1, cap1, hRX⟩ := HRK.out k hkN
            have HX := Lib.hid hRX
            have c1 := (hRX.below hbel2).c
            have ix1 := hRX.ix
            clear hRX
            go_wp2_with fail
            go_loopg [38] n (fun gk i wr => ∃ j : Nat, gk + j = n ∧ i = .int .i64 (j : Int) ∧ Below w.heap.size w wr ∧ Sys wr w.heap.size bm br n (r + 1) (fun i q => if i < r then gmM R N i q else if q < j then gmM R (k + 1) i q else gmM R k i q) (fun i => if i < r then gmR R H N i else if i = r then gmR R H k i else 0))
            case atStart => exact ⟨0, by omega, rfl, hbel2, hS.congr (fun i j _ _ => by simp) (fun i _ => rfl)⟩
            case round =>
              clear hS hbel2 c1 ix1
              obtain ⟨j, hj, rfl, hbel2, hS⟩ := hrel
              by_cases hjn : j < n
              · have hjz : (j : Int) < (n : Int) := by omega
                obtain ⟨b5, off5, -, d1, jx1⟩ := (HX.out.below hbel2).e r hrn
                obtain ⟨b6, off6, -, d2, jx2⟩ := (HX.out.below hbel2).e j hjn
                have g1 := hS.c0 hrn (by omega)
                have g2 : wr.cell? ⟨w.heap.size + 2 + r, j, none⟩ = some (.int .i64 (gmM R k r j)) := by
                  have := hS.c1 (i := r) (j := j) (by omega) hjn
                  rwa [if_neg (Nat.lt_irrefl r), if_neg (Nat.lt_irrefl j)] at this
                have g3 := hS.f1 (i := r) (by omega) j
                have hsz := hS.size
                have v1 := HB.out.1 k r hkN hrn
                have v2 := HB.out.1 k j hkN hjn
                have v3 := mul_bd v1 v2
                have v4 := gmM_bd HB.out N8 hrn hjn k (by omega)
                have HG : Hid (gmM R (k + 1) r j = gmM R k r j + R k r * R k j) := Lib.hid rfl
                have HS := Lib.hid hS
                clear hS
                generalize gmM R k r j = G at *
                generalize R k r = p at *
                generalize R k j = q at *
                have ew1 : IntKind.i64.wrap (p * q) = p * q := IntWalk.i64_in _ (by omega)
                have ew2 : IntKind.i64.wrap (G + p * q) = G + p * q := IntWalk.i64_in _ (by omega)
                go_upto_region 13 with fail
                (refine Go.wp_region_still_tail 18 (by kernel_rfl) (by kernel_rfl) ?_; simp only [List.take_succ_cons, List.take_zero, List.drop_succ_cons, List.drop_zero]; change Go.wpStill _ _ (World.drew _) (fun a' => wpList _ _ _ _ a' (World.drew _)) _ _; (repeat still_step); refine Go.wpStill_nil ?_)
                clear ew1 ew2
                go_wp2_with fail
                go_roundg (n - (j + 1))
                case measure => go_light; omega
                case rel =>
                  go_light
                  refine ⟨j + 1, by omega, by go_num, ?_, ?_⟩
                  · exact belz
                  · refine ((HS.out.set HBB.out r j _).drew).congr (fun x y hx hy => ?_) (fun i _ => rfl)
                    by_cases e1 : x < r
                    · rw [if_neg (by omega), if_pos e1, if_pos e1]
                    · obtain rfl : x = r := by omega
                      rw [if_neg e1, if_neg e1]
                      by_cases e2 : y = j
                      · subst e2
                        rw [if_pos ⟨rfl, rfl⟩, if_pos (by omega), HG.out]
                      · rw [if_neg (fun h => e2 h.2)]
                        by_cases e3 : y < j
                        · rw [if_pos e3, if_pos (by omega)]
                        · rw [if_neg e3, if_neg (by omega)]
              · obtain rfl : j = n := by omega
                obtain ⟨b5, off5, -, d1, jx1⟩ := (HX.out.below hbel2).e r hrn
                obtain ⟨b6, off6, d2, jx2⟩ := HHK.out wr hbel2 k hkN
                have g2 : wr.cell? ⟨br, r, none⟩ = some (.int .i64 (gmR R H k r)) := by
                  have := hS.rt.cell hrn
                  rwa [if_neg (Nat.lt_irrefl r), if_pos rfl] at this
                have g3 := hS.rt.frozen r
                have v1 := HB.out.1 k r hkN hrn
                have v2 := HB.out.2 k hkN
                have v3 := mul_bd v1 v2
                have v4 := gmR_bd HB.out N8 hrn k (by omega)
                have HG : Hid (gmR R H (k + 1) r = gmR R H k r + R k r * H k) := Lib.hid rfl
                have HS := Lib.hid hS
                clear hS
                generalize gmR R H k r = G at *
                generalize R k r = p at *
                generalize H k = q at *
                have ew1 : IntKind.i64.wrap (p * q) = p * q := IntWalk.i64_in _ (by omega)
                have ew2 : IntKind.i64.wrap (G + p * q) = G + p * q := IntWalk.i64_in _ (by omega)
                go_upto_region 15 with fail
                (refine Go.wp_region_still_tail 15 (by kernel_rfl) (by kernel_rfl) ?_; simp only [List.take_succ_cons, List.take_zero, List.drop_succ_cons, List.drop_zero]; change Go.wpStill _ _ (World.drew _) (fun a' => wpList _ _ _ _ a' (World.drew _)) _ _; (repeat still_step); refine Go.wpStill_nil ?_)
                clear ew1 ew2
                go_wp2_with fail
                go_roundg (N - (k + 1))
                case measure => go_light; omega
                case rel =>
                  go_light
                  refine ⟨k + 1, by omega, by go_num, ?_, ?_⟩
                  · exact belz
                  · refine ((HS.out.setV HBB.out r _).drew).congr (fun x y hx hy => ?_) (fun i _ => ?_)
                    · by_cases e1 : x < r
                      · rw [if_pos e1, if_pos e1]
                      · rw [if_neg e1, if_neg e1, if_pos hy]
                    · by_cases e1 : i = r
                      · subst e1
                        rw [if_pos rfl, if_neg (Nat.lt_irrefl _), if_pos rfl, HG.out]
                      · rw [if_neg e1]
                        by_cases e2 : i < r
                        · rw [if_pos e2, if_pos e2]
                        · rw [if_neg e2, if_neg e2, if_neg e1, if_neg e1]
          · obtain rfl : k = N := by omega
            go_wp2_with fail
            go_roundg (n - (r + 1))
            case measure => go_light; omega
            case rel =>
              go_light
              refine ⟨r + 1, by omega, by go_num, hbel2, hS.congr (fun x y hx hy => ?_) (fun i _ => ?_)⟩
              · by_cases e1 : x < r
                · rw [if_pos e1]
                · rw [if_neg e1]
              · by_cases e1 : i < r
                · rw [if_pos e1, if_pos (by omega)]
                · by_cases e2 : i = r
                  · rw [if_neg e1, if_pos e2, if_pos (by omega)]
                  · rw [if_neg e1, if_neg e2, if_neg (by omega)]
      · obtain rfl : r = n := by omega
        go_wp2_with fail
        refine bodyPost_ret (v := .tuple #[.slice (some ⟨bm, 0, none⟩) r r, .slice (some ⟨br, 0, none⟩) r r]) (by simp only [results, Tryd.results61]; go_simp) rfl ?_
        exact ⟨bm, br, rfl, hbmw, hbrw, hS.mat, hS.rt.congr (fun i hi => by rw [if_pos hi]), hbel⟩
end
end Go.Proofs.YtcgnhnmigmdalaaDoor
