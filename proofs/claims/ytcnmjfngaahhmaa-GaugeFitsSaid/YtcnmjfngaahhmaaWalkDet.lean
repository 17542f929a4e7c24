/- The contract of gauge.det for one to three rows. -/
import Derived.Test.YtcnmjfngaahhmaaWalkDep
import Derived.Test.YtcnmjfngaahhmaaPlainDet
import Derived.Test.YtcnmjfngaahhmaaWalkOwn
import Derived.Deep.RegionHeld3
import Derived.Deep.AppendLies
import Derived.Deep.OwnRows
import Derived.Laws.OwnMore
import Derived.Deep.CutBlock
import Derived.Deep.DeepCutAuto
set_option linter.unusedVariables false
set_option linter.unusedSimpArgs false
namespace Go.Proofs.Ytcnmjfngaahhmaa
open Go.RowKit
theorem info_int' : (Try.prog.info? 3).map (fun i => (i.zero, i.size, i.bytes)) = some (some (.int .i64 0), 1, 8) := by kernel_rfl
theorem info_ints : (Try.prog.info? 23).map (fun i => (i.zero, i.size, i.bytes)) = some (some (.slice none 0 0), 1, 24) := by kernel_rfl
/-- What an append can read its elements from. -/
def SrcOk (w : World) (X : Value) (m : Nat) (news : List Value) : Prop := (X = .slice none 0 0 ∧ m = 0 ∧ news = []) ∨ ∃ ad c, X = .slice (some ad) m c ∧ ∀ j u, news[j]? = some u → w.cell? (ad.add j) = some u
theorem step_append_any {P : Program} {w : World} {ops : Array Oper} {o : Oper} {a : Act} {K : Act → World → Prop} {Q : Exit → Act → World → Prop} {E : Prop} (hgd : o.guard = none) (s x : Operand) (t : TypeId)
    (ho : o.op = .call { callee := .builtin .append, args := #[s, x], argTypes := #[t, t] })
    (base : Nat) (e : TypeId) (i : TypeInfo) (z : Value) (size bytes : Nat) (ht : P.underlying t = some (.slice e)) (hi : P.info? e = some i) (hz : i.zero = some z)
    (hsize : i.size = size) (hby : i.bytes = bytes) (hzs : z.cells.size = size) (hsz : 0 < size)
    (v : Value) (n : Nat) (xs : List Value) (hs : a.eval s = v) (hown : w.ownsRow base e size v n xs)
    (X : Value) (m : Nat) (news : List Value) (hx : a.eval x = X) (hsrc : SrcOk w X m news) (hl : news.length = m * size) (h1 : ∀ u ∈ news, u.oneCell' = true)
    (h63 : n + m ≤ maxLen) (hbytes : (n + m) * bytes ≤ 140737488355328) (hbase : base ≤ w.heap.size)
    (h : ∀ v' w', w'.ownsRow base e size v' (n + m) (xs ++ news) → w.grownBy w' v.ownBlock → K (a.put o.dst v') w') :
    if Region.wanted o (yielded ops a.tmps) = true then Oper.wp P o a w K Q else E := by
  have hw : Region.wanted o (yielded ops a.tmps) = true := by simp [Region.wanted, hgd]
  rw [if_pos hw]
  rcases hsrc with ⟨rfl, rfl, rfl⟩ | ⟨ad, c, rfl, hnews⟩
  · have hrun := run_append_owned_none (P := P) (w := w) base t o.type e i size ht hi v n xs hown
    have hk := h v w (by simpa using hown) ⟨rfl, rfl, rfl, Nat.le_refl _, fun _ _ _ => rfl⟩
    unfold Oper.wp
    simp [execOp, ho, resolve, invoke, builtin, hs, hx, hrun, Result.andThen]
    exact hk
  · exact wp_append_own w s x t ho base e i z size bytes ht hi hz hsize hby hzs hsz v n xs hs hown ad m c news hx hl hnews h1 h63 hbytes hbase fun v' w' h2 h3 _ => h v' w' h2 h3
theorem own_kept {w w' : World} {base : Nat} {e : TypeId} {size : Nat} {v : Value} {n : Nat} {xs : List Value} (h : w.ownsRow base e size v n xs) (hb : ∀ g, v.ownBlock = some g → w'.heap[g]? = w.heap[g]?) : w'.ownsRow base e size v n xs := by
  refine ⟨h.1, ?_⟩
  rcases h.2 with h2 | ⟨g, cap, cur, hv, hg, hh, r⟩
  · exact .inl h2
  · exact .inr ⟨g, cap, cur, hv, hg, by rw [hb g (by rw [hv]; rfl)]; exact hh, r⟩
theorem own_base {w : World} {base base' : Nat} {e : TypeId} {size : Nat} {v : Value} {n : Nat} {xs : List Value} (h : w.ownsRow base e size v n xs) (hb : base' ≤ base) : w.ownsRow base' e size v n xs := by
  refine ⟨h.1, ?_⟩
  rcases h.2 with h2 | ⟨g, cap, cur, hv, hg, hh, r⟩
  · exact .inl h2
  · exact .inr ⟨g, cap, cur, hv, by omega, hh, r⟩
theorem own_block {w : World} {base : Nat} {e : TypeId} {size : Nat} {v : Value} {n : Nat} {xs : List Value} (h : w.ownsRow base e size v n xs) {g : Nat} (hg : v.ownBlock = some g) : ∃ cur, w.heap[g]? = some (.cells cur e (0, 0)) := by
  rcases h.2 with ⟨h2, _⟩ | ⟨g', cap, cur, hv, _, hh, _⟩
  · rw [h2] at hg; simp [Value.ownBlock] at hg
  · rw [hv] at hg
    have : g' = g := by simpa [Value.ownBlock] using hg
    subst this
    exact ⟨cur, hh⟩
/-- The cells of a row. -/
def rowL (R : Nat → Nat → Int) (n i : Nat) : List Value := (List.range n).map fun j => .int .i64 (R i j)
theorem rowL_length (R : Nat → Nat → Int) (n i : Nat) : (rowL R n i).length = n := by simp [rowL]
theorem rowL_get (R : Nat → Nat → Int) (n i j : Nat) (h : j < n) : (rowL R n i)[j]? = some (.int .i64 (R i j)) := by simp [rowL, h]
theorem rowL_one (R : Nat → Nat → Int) (n i : Nat) : ∀ u ∈ rowL R n i, u.oneCell' = true := by
  intro u hu
  simp [rowL] at hu
  obtain ⟨j, _, rfl⟩ := hu
  rfl
theorem rowL_min (R : Nat → Nat → Int) (n k r : Nat) (hk : k ≤ n) : (rowL R (n + 1) (r + 1)).take k ++ (rowL R (n + 1) (r + 1)).drop (k + 1) = rowL (minR R k) n r := by
  apply List.ext_getElem
  · simp [rowL]; omega
  · intro j h1 h2
    simp [rowL] at h2
    by_cases hj : j < k
    · rw [List.getElem_append_left (by simp [rowL]; omega)]
      simp [rowL, minR, hj]
    · rw [List.getElem_append_right (by simp [rowL]; omega)]
      simp [rowL, minR, hj]
      congr 1
      omega
/-- A square matrix that the call has made. -/
structure MatV (w : World) (b n : Nat) (R : Nat → Nat → Int) : Prop where
  lt : b < w.heap.size
  row : ∀ i, i < n → ∃ b' cap', w.cell? ⟨b, i, none⟩ = some (.slice (some ⟨b', 0, none⟩) n cap') ∧ n ≤ cap' ∧ b' < w.heap.size ∧ ∀ j, j < n → w.cell? ⟨b', j, none⟩ = some (.int .i64 (R i j))
theorem MatV.below {w w' : World} {b n : Nat} {R : Nat → Nat → Int} (h : MatV w b n R) (hb : Below w.heap.size w w') : MatV w' b n R := by
  refine ⟨Nat.lt_of_lt_of_le h.lt hb.size, fun i hi => ?_⟩
  obtain ⟨b', cap', c0, hc, hl, hr⟩ := h.row i hi
  exact ⟨b', cap', (hb.cell (p := ⟨b, i, none⟩) h.lt).trans c0, hc, Nat.lt_of_lt_of_le hl hb.size, fun j hj => (hb.cell (p := ⟨b', j, none⟩) hl).trans (hr j hj)⟩
theorem src_take {w : World} {b' m k c i : Nat} {R : Nat → Nat → Int} (hk : k ≤ m) (h : ∀ j, j < m → w.cell? ⟨b', j, none⟩ = some (.int .i64 (R i j))) : SrcOk w (.slice (some ⟨b', 0, none⟩) k c) k ((rowL R m i).take k) := by
  refine .inr ⟨_, _, rfl, fun j u hj => ?_⟩
  have hjk : j < k := by
    have := (List.getElem?_eq_some_iff.1 hj).1
    rw [List.length_take] at this
    omega
  rw [List.getElem?_take, if_pos hjk, rowL_get _ _ _ _ (by omega)] at hj
  cases hj
  rw [Addr.add_lit, Nat.zero_add]
  exact h j (by omega)
theorem src_drop {w : World} {b' m k c l i o : Nat} {R : Nat → Nat → Int} (hl : l = m - (k + 1)) (ho : o = k + 1 ∨ k + 1 = m) (h : ∀ j, j < m → w.cell? ⟨b', j, none⟩ = some (.int .i64 (R i j))) : SrcOk w (.slice (some ⟨b', o, none⟩) l c) l ((rowL R m i).drop (k + 1)) := by
  refine .inr ⟨_, _, rfl, fun j u hj => ?_⟩
  have hjk : k + 1 + j < m := by
    have := (List.getElem?_eq_some_iff.1 hj).1
    rw [List.length_drop, rowL_length] at this
    omega
  rw [List.getElem?_drop, rowL_get _ _ _ _ hjk] at hj
  cases hj
  have ho : o = k + 1 := by omega
  rw [Addr.add_lit, ho]
  exact h _ hjk
/-- The rows of a minor while it is made. -/
structure MinOwn (w : World) (base n : Nat) (R : Nat → Nat → Int) (q : Nat) (v : Value) (xs : List Value) : Prop where
  own : w.ownsRow base 23 1 v q xs
  row : ∀ r, r < q → ∃ v', xs[r]? = some v' ∧ w.ownsRow base 3 1 v' n (rowL R n r)
theorem MinOwn.mat {w : World} {base n : Nat} {R : Nat → Nat → Int} {v : Value} {xs : List Value} (h : MinOwn w base n R n v xs) (hn : 1 ≤ n) : ∃ g c, v = .slice (some ⟨g, 0, none⟩) n c ∧ n ≤ c ∧ MatV w g n R := by
  rcases own_form h.own with ⟨_, h2⟩ | ⟨g, cap, h1, h2, h3, h4, h5, h6, h7⟩
  · omega
  · refine ⟨g, cap, h1, h2, h5, fun i hi => ?_⟩
    obtain ⟨v', e', ho⟩ := h.row i hi
    rcases own_form ho with ⟨_, q2⟩ | ⟨g', cap', q1, q2, q3, q4, q5, q6, q7⟩
    · omega
    · exact ⟨g', cap', by rw [h6 i (by omega), e', q1], q2, q5, fun j hj => by rw [q6 j (by omega), rowL_get _ _ _ _ hj]⟩
def DetC (n : Nat) : Prop := ∀ (w : World) (b cap : Nat) (R : Nat → Nat → Int), n ≤ cap → MatV w b n R → RB n R → Calls Try.prog 37 #[.slice (some ⟨b, 0, none⟩) n cap] w fun e w' => e = .returned (.int .i64 (detF n R)) ∧ Below w.heap.size w w'
theorem c_det1 : DetC 1 := by
  intro w b cap R hc hM _
  obtain ⟨b', cap', c0, hc', hl, hr⟩ := hM.row 0 (by omega)
  have c1 := hr 0 (by omega)
  have hb := hM.lt
  clear hM hr
  have hgen := sgen; have hgen2 := sgen2; have hgen3 := sgen3; go_enter Try.func37, Try.ntmps37
  go_wp2
  go_ret
  exact ⟨rfl, Below.refl _ _⟩
theorem run_drop {b' m cap' k : Nat} (h1 : k + 1 ≤ m) (h2 : m ≤ cap') : ∃ o, (o = k + 1 ∨ k + 1 = m) ∧ ∀ w : World, (Instr.slice 23 (.slice (some ⟨b', 0, none⟩) m cap') (some (.int .i64 ((k : Int) + 1))) none none).run Try.prog w = .ok (.slice (some ⟨b', o, none⟩) (m - (k + 1)) (cap' - (k + 1))) w := by
  have a1 : (k : Int) + 1 ≤ (m : Int) := by omega
  have a2 : (0 : Int) ≤ (k : Int) + 1 := by omega
  have a3 : ((k : Int) + 1).toNat = k + 1 := by omega
  by_cases e : cap' = k + 1
  · refine ⟨0, .inr (by omega), fun w => ?_⟩
    go_simp
  · refine ⟨k + 1, .inl rfl, fun w => ?_⟩
    go_simp
theorem row_done {w : World} {base n m k q : Nat} {R : Nat → Nat → Int} {v : Value} (hm : m = n + 1) (hn : 1 ≤ n) (hk : k ≤ n) (h : w.ownsRow base 3 1 v (k + (m - (k + 1))) ((rowL R m (q + 1)).take k ++ (rowL R m (q + 1)).drop (k + 1))) :
    ∃ g c, v = .slice (some ⟨g, 0, none⟩) n c ∧ n ≤ c ∧ Hid (w.ownsRow base 3 1 (.slice (some ⟨g, 0, none⟩) n c) n (rowL (minR R k) n q)) := by
  rw [show k + (m - (k + 1)) = n by omega, hm, rowL_min R n k q hk] at h
  rcases own_form h with ⟨_, h2⟩ | ⟨g, cap, h1, h2, h3, h4, h5, h6, h7⟩
  · omega
  · subst h1
    exact ⟨g, cap, rfl, h2, Lib.hid h⟩
theorem minOwn_next {wo wr w5 w6 : World} {n q g5 c5 : Nat} {R : Nat → Nat → Int} {v v6 : Value} {xs : List Value} (ho : wr.ownsRow wo.heap.size 23 1 v q xs) (hr : ∀ r, r < q → ∃ v', xs[r]? = some v' ∧ wr.ownsRow wo.heap.size 3 1 v' n (rowL R n r))
    (hsz : wo.heap.size ≤ wr.heap.size) (hb5 : Below wr.heap.size wr w5) (h5 : w5.ownsRow wr.heap.size 3 1 (.slice (some ⟨g5, 0, none⟩) n c5) n (rowL R n q))
    (h6 : w6.ownsRow wo.heap.size 23 1 v6 (q + 1) (xs ++ [.slice (some ⟨g5, 0, none⟩) n c5])) (hg : (w5.alloc (.cells #[.slice (some ⟨g5, 0, none⟩) n c5] 23)).grownBy w6 v.ownBlock) : MinOwn w6 wo.heap.size n R (q + 1) v6 (xs ++ [.slice (some ⟨g5, 0, none⟩) n c5]) := by
  refine ⟨h6, fun r hrq => ?_⟩
  have hxl : xs.length = q := by have := ho.1; omega
  have step : ∀ v', w5.ownsRow wo.heap.size 3 1 v' n (rowL R n r) → w6.ownsRow wo.heap.size 3 1 v' n (rowL R n r) := fun v' hv' => by
    have hva := hv'.alloc (.cells #[Value.slice (some ⟨g5, 0, none⟩) n c5] 23)
    refine own_kept hva (fun g hgg => hg.block g ?_ (fun e => ?_))
    · obtain ⟨cur, hcur⟩ := own_block hva hgg
      exact (Array.getElem?_eq_some_iff.1 hcur).1
    · obtain ⟨cur, hcur⟩ := own_block hva hgg
      obtain ⟨cur2, hcur2⟩ := own_block ((own_below ho hb5).alloc (.cells #[Value.slice (some ⟨g5, 0, none⟩) n c5] 23)) e.symm
      rw [hcur] at hcur2
      simp at hcur2
  by_cases e : r = q
  · subst e
    exact ⟨_, by rw [List.getElem?_append_right (by omega), hxl, Nat.sub_self]; rfl, step _ (own_base h5 hsz)⟩
  · obtain ⟨v', q1, q2⟩ := hr r (by omega)
    exact ⟨v', by rw [List.getElem?_append_left (by omega)]; exact q1, step _ (own_below q2 hb5)⟩
set_option maxRecDepth 100000 in
set_option maxHeartbeats 4000000 in
theorem c_detS (n m : Nat) (hm : m = n + 1) (hn : 1 ≤ n) (hn2 : n ≤ 2) (D : Int) (hD0 : 0 ≤ D) (hD : D ≤ 12800000000) (HD : DetC n) (HB : ∀ R, RB n R → -D ≤ detF n R ∧ detF n R ≤ D) : DetC m := by
  intro w b cap R hc hM hB
  obtain ⟨i0, hi0, iz0, iz1, iz2⟩ := info_parts info_int'
  obtain ⟨i1, hi1, iy0, iy1, iy2⟩ := info_parts info_ints
  have HM := Lib.hid hM
  have HR : Hid (RB (n + 1) R) := Lib.hid (by rw [← hm]; exact hB)
  have HDD := Lib.hid HD
  have HBB := Lib.hid HB
  obtain ⟨bz, capz, z0, z1, z2, z3⟩ := hM.row 0 (by omega)
  have hbl := hM.lt
  have HZ := Lib.hid z3
  have t1 : ((m : Int) == 1) = false := by simp; omega
  have hm0 : (0 : Int) < (m : Int) := by omega
  have hm1 : (1 : Int) ≤ (m : Int) := by omega
  have hmc : (m : Int) ≤ (cap : Int) := by omega
  have HE : Hid (detF m R = dPart (detF n) R m) := Lib.hid (by rw [hm]; exact detF_next n hn R)
  have Hm := Lib.hid hm
  have em : m - 1 = n := by omega
  clear hM hB HD HB z3
  rw [HE.out]
  clear hm
  have hgen := sgen; have hgen2 := sgen2; have hgen3 := sgen3; go_enter Try.func37, Try.ntmps37
  go_wp2_with fail
  go_loopg [3, 4, 19] m (fun gk x3 x4 i wr => ∃ k : Nat, gk + k = m ∧ x3 = .int .i64 (dPart (detF n) R k) ∧ x4 = .int .i64 (sgn k) ∧ i = .int .i64 (k : Int) ∧ Below w.heap.size w wr)
  case atStart => exact ⟨0, by omega, rfl, rfl, rfl, Below.refl _ _⟩
  case round =>
    obtain ⟨k, hk, rfl, rfl, rfl, hbel⟩ := hrel
    obtain ⟨ga, hga⟩ : ∃ ga, ga = gk := ⟨gk, rfl⟩
    obtain ⟨wo, rfl⟩ : ∃ wo : World, wo = wr := ⟨_, rfl⟩
    have hsz := hbel.size
    by_cases hlt : k < m
    · have hkz : (k : Int) < (m : Int) := by omega
      have hk2 : k ≤ n := by have := Hm.out; omega
      have hk1 : (k : Int) + 1 ≤ (m : Int) := by omega
      have hkw : IntKind.i64.wrap ((k : Int) + 1) = (k : Int) + 1 := IntWalk.i64_in _ (by omega)
      go_wp2_with fail
      go_loopg [6, 25] n (fun gk x6 i wr => ∃ q : Nat, ∃ xs : List Value, gk + q = n ∧ i = .int .i64 (q : Int) ∧ Below wo.heap.size wo wr ∧ MinOwn wr wo.heap.size n (minR R k) q x6 xs)
      case atStart => exact ⟨0, [], by omega, rfl, Below.refl _ _, World.ownsRow_nil _ _ _ _, fun r hr => by omega⟩
      case round =>
        obtain ⟨q, xs, hq, rfl, hbi, hO⟩ := hrel
        have hszi := hbi.size
        by_cases hlq : q < n
        · have hqz : (q : Int) < (n : Int) := by omega
          obtain ⟨b', cap', r0, r1, r2, r3⟩ := (HM.out.below (hbel.trans (hbi.mono hsz))).row (q + 1) (by have := Hm.out; omega)
          have r1z : (m : Int) ≤ (cap' : Int) := by omega
          have hlw := Nat.lt_of_lt_of_le hbl (Nat.le_trans hsz hszi)
          have r0' : wr.cell? ⟨b, 1 + q, none⟩ = some (.slice (some ⟨b', 0, none⟩) m cap') := by rw [Nat.add_comm 1 q]; exact r0
          have HO := Lib.hid hO.own
          have HRW := Lib.hid hO.row
          clear hO r0
          have hkc : (k : Int) ≤ (cap' : Int) := by omega
          obtain ⟨o, ho, hsl⟩ := run_drop (b' := b') (m := m) (cap' := cap') (k := k) (by omega) r1
          go_upto_region 11 with fail
          go_region_held3 (fun w' => True) (trivial) (first | (refine step_append_any (by rfl) _ _ _ (by rfl) wr.heap.size 3 i0 _ 1 8 Try.underlying23 hi0 iz0 iz1 iz2 rfl (by omega) (.slice none 0 0) 0 [] (by rfl) (World.ownsRow_nil _ _ _ _) (.slice (some ⟨b', 0, none⟩) k cap') k ((rowL R m (q + 1)).take k) (by rfl) (src_take (i := q + 1) (m := m) (R := R) (by omega) (fun j hj => r3 j hj)) (by rw [List.length_take, rowL_length]; omega) (fun u hu => rowL_one _ _ _ u (List.mem_of_mem_take hu)) (by unfold maxLen; omega) (by omega) (by (try simp)) ?_; intro v4 w4 ho4a hg4; have ho4 : w4.ownsRow wr.heap.size 3 1 v4 k ((rowL R m (q + 1)).take k) := (by simpa using ho4a); have hb4 : Below wr.heap.size wr w4 := Below.grown (by exact belz) hg4 (by (try simp)) (fun q hq => by simp [Value.ownBlock] at hq); have hz4 := hb4.size) | (refine step_append_any (by rfl) _ _ _ (by rfl) wr.heap.size 3 i0 _ 1 8 Try.underlying23 hi0 iz0 iz1 iz2 rfl (by omega) v4 k _ (by rfl) ho4 (.slice (some ⟨b', o, none⟩) (m - (k + 1)) (cap' - (k + 1))) (m - (k + 1)) ((rowL R m (q + 1)).drop (k + 1)) (by rfl) (src_drop (i := q + 1) (m := m) (R := R) rfl ho (fun j hj => (hb4.cell (p := ⟨b', j, none⟩) r2).trans (r3 j hj))) (by rw [List.length_drop, rowL_length]; omega) (fun u hu => rowL_one _ _ _ u (List.mem_of_mem_drop hu)) (by unfold maxLen; omega) (by omega) (by omega) ?_; intro v5 w5 ho5 hg5; have hb5 : Below wr.heap.size wr w5 := Below.grown hb4 hg5 hz4 (fun g hg => (ho4.lt g hg).1); have hz5 := hb5.size; obtain ⟨g5, c5, rfl, hc5, HO5⟩ := row_done Hm.out hn hk2 ho5) | (refine step_append_any (by rfl) _ _ _ (by rfl) wo.heap.size 23 i1 _ 1 24 Try.underlying22 hi1 iy0 iy1 iy2 rfl (by omega) u6 q xs (by rfl) ((own_below HO.out hb5).alloc _) (.slice (some ⟨w5.heap.size, 0, none⟩) 1 1) 1 [.slice (some ⟨g5, 0, none⟩) n c5] (by rfl) (.inr ⟨_, _, rfl, World.news_of_block (cs := #[.slice (some ⟨g5, 0, none⟩) n c5]) (t := 23) (fr := (0, 0)) (heap_alloc_new w5 _)⟩) (by rfl) (by simp [Value.oneCell']) (by unfold maxLen; omega) (by omega) (by (try simp); omega) ?_; intro v6 w6 ho6 hg6))
          have hb6 : Below wo.heap.size wo w6 := by
            refine Below.grown ((hbi.trans (hb5.mono hszi)).alloc (by omega) _) hg6 ?_ ?_
            · simp; omega
            · intro g hg
              exact (HO.out.lt g hg).1
          have HN := Lib.hid (minOwn_next HO.out HRW.out hszi hb5 HO5.out ho6 hg6)
          clear hg6 ho6 HO5 hg5 ho5 hg4 ho4 ho4a HO HRW
          go_wp2_with fail
          go_roundg (n - (q + 1))
          case measure => omega
          case rel => exact ⟨q + 1, xs ++ [Value.slice (some ⟨g5, 0, none⟩) n c5], by omega, rfl, hb6, HN.out⟩
        · have hqn : q = n := by omega
          subst hqn
          obtain ⟨g, c, rfl, hgc, hMin⟩ := hO.mat hn
          clear hO
          have hz0 : wr.cell? ⟨b, 0, none⟩ = some (.slice (some ⟨bz, 0, none⟩) m capz) := ((hbel.trans (hbi.mono hsz)).cell (p := ⟨b, 0, none⟩) hbl).trans z0
          have hz3 : wr.cell? ⟨bz, k, none⟩ = some (.int .i64 (R 0 k)) := ((hbel.trans (hbi.mono hsz)).cell (p := ⟨bz, k, none⟩) z2).trans (HZ.out k hlt)
          have HC := Lib.hid (fun w1 (h : Below wr.heap.size wr w1) => HDD.out w1 g c (minR R k) hgc (hMin.below h) (HR.out.min k))
          have hF := HBB.out _ (HR.out.min k)
          have h0 := HR.out 0 k (by omega) (by omega)
          have hP := dPart_bd HR.out HBB.out k (by omega)
          have hsg := sgn_mul k h0
          have hsb := sgn_bd k
          have hm00 : 0 < m := by omega
          have hmu := mul_bd hsg hF
          have hkD : (k : Int) * (80000 * D) ≤ 3 * (80000 * D) := Int.mul_le_mul_of_nonneg_right (by omega) (by omega)
          have HNX : Hid (dPart (detF q) R (k + 1) = dPart (detF q) R k + sgn k * R 0 k * detF q (minR R k)) := Lib.hid rfl
          have HSG := Lib.hid (sgn_next k)
          have hbo : Below w.heap.size w wr := hbel.trans (hbi.mono hsz)
          clear hMin hgc
          generalize detF q (minR R k) = F at *
          generalize dPart (detF q) R k = P at *
          generalize sgn k = sg at *
          generalize R 0 k = r0k at *
          have hw1 : IntKind.i64.wrap (sg * r0k) = sg * r0k := IntWalk.i64_in _ (by omega)
          have hw2 : IntKind.i64.wrap (sg * r0k * F) = sg * r0k * F := IntWalk.i64_in _ (by omega)
          have hw3 : IntKind.i64.wrap (P + sg * r0k * F) = P + sg * r0k * F := IntWalk.i64_in _ (by omega)
          have hzi := hbi.size
          go_upto_region 13 with fail
          go_region_held3 (fun w' => w'.cell? ⟨b, 0, none⟩ = some (.slice (some ⟨bz, 0, none⟩) m capz) ∧ w'.cell? ⟨bz, k, none⟩ = some (.int .i64 r0k)) (refine ⟨?_, ?_⟩ <;> (first | (go_simp; done) | go_keep)) (first | (go_at_call 37; (with_reducible refine (HC.out _ (by first | exact Below.refl _ _ | assumption | exact belz)).mono ?_); rintro e w2 ⟨rfl, hb⟩; have hz := hb.size; (try simp only [szA, szS, szD, szN] at hz); (try (refine bcB (n := b) hb ?_; intro h_bb_0 e_bb_0 d_bb_0 _ _)); (try (refine bcB (n := bz) hb ?_; intro h_bbz_0 e_bbz_0 d_bbz_0 _ _))))
          have hb2 : Below w.heap.size w w2 := by exact belz
          have hneg : IntKind.i64.wrap (-sg) = -sg := IntWalk.i64_in _ (by omega)
          clear hw1 hw2 hw3 hmu hP hsg HC
          go_wp2_with fail
          go_roundg (m - (k + 1))
          case measure => omega
          case rel => exact ⟨k + 1, by omega, by rw [HNX.out], by rw [HSG.out], rfl, hb2⟩
    · have hkm : k = m := by omega
      subst hkm
      go_wp2
      go_ret
      exact ⟨rfl, hbel⟩
theorem c_det2 : DetC 2 := c_detS 1 2 rfl (by omega) (by omega) 80000 (by omega) (by omega) c_det1 det1_bd
theorem c_det3 : DetC 3 := c_detS 2 3 rfl (by omega) (by omega) 12800000000 (by omega) (by omega) c_det2 det2_bd
theorem c_det (n : Nat) (h1 : 1 ≤ n) (h3 : n ≤ 3) : DetC n := by
  rcases (show n = 1 ∨ n = 2 ∨ n = 3 by omega) with rfl | rfl | rfl
  · exact c_det1
  · exact c_det2
  · exact c_det3
end Go.Proofs.Ytcnmjfngaahhmaa
