/- The contracts of slices.Clone and slices.Delete at constraints. -/
import Derived.Test.YtdpddidfdifbhaaWalkChr
import Derived.Test.YtdpddidfdifbhaaPlainWo
import Derived.Test.YtdpddidfdifbhaaWalkOwn
import Derived.Lib.SliceRun
import Derived.Lib.EndianMore
import Derived.Deep.RegionLaw
import Derived.Laws.OwnMore
set_option linter.unusedVariables false
set_option linter.unusedSimpArgs false
namespace Go.Proofs.Ytdpddidfdifbhaa
open Go.RowKit
def bdCells (l : List Bd) : List Value := l.flatMap fun c => [.int .i64 c.a, .int .i64 c.b, .int .i64 c.lo, .int .i64 c.hi]
theorem bdCells_length (l : List Bd) : (bdCells l).length = l.length * 4 := by
  unfold bdCells
  induction l with
  | nil => rfl
  | cons a l ih => simp only [List.flatMap_cons, List.length_append, ih, List.length_cons, List.length_nil]; omega
theorem bdCells_append (l m : List Bd) : bdCells (l ++ m) = bdCells l ++ bdCells m := by simp [bdCells]
theorem bdCells_cons (a : Bd) (l : List Bd) : bdCells (a :: l) = .int .i64 a.a :: .int .i64 a.b :: .int .i64 a.lo :: .int .i64 a.hi :: bdCells l := by simp [bdCells]
theorem bdCells_get (l : List Bd) (k : Nat) (h : k < l.length) : (bdCells l)[k * 4]? = some (.int .i64 l[k].a) ∧ (bdCells l)[k * 4 + 1]? = some (.int .i64 l[k].b) ∧ (bdCells l)[k * 4 + 2]? = some (.int .i64 l[k].lo) ∧ (bdCells l)[k * 4 + 3]? = some (.int .i64 l[k].hi) := by
  induction l generalizing k with
  | nil => simp at h
  | cons a l ih =>
    cases k with
    | zero => simp [bdCells]
    | succ k =>
      have := ih k (by simpa using h)
      rw [bdCells_cons, show (k + 1) * 4 = k * 4 + 1 + 1 + 1 + 1 by omega]
      simpa using this
theorem bdCells_one (l : List Bd) : ∀ u ∈ bdCells l, u.oneCell' = true := by
  intro u hu
  unfold bdCells at hu
  rw [List.mem_flatMap] at hu
  obtain ⟨c, _, h⟩ := hu
  simp at h
  rcases h with rfl | rfl | rfl | rfl <;> rfl
/-- A slice whose first cells are those of a list of constraints, at the head of a block. -/
structure BdOwn (w : World) (g : Nat) (l : List Bd) : Prop where
  lt : g < w.heap.size
  cell : ∀ t, t < l.length * 4 → w.cell? ⟨g, t, none⟩ = (bdCells l)[t]?
  ty : ∃ cur, w.heap[g]? = some (.cells cur 47 (0, 0))
  fr : ∀ o, w.frozen? ⟨g, o, none⟩ = false
theorem BdOwn.slice {w : World} {g : Nat} {l : List Bd} (h : BdOwn w g l) : BdSlice w (some ⟨g, 0, none⟩) l := by
  intro k hk
  obtain ⟨e0, e1, e2, e3⟩ := bdCells_get l k hk
  refine ⟨g, 0, rfl, h.lt, ?_, ?_, ?_, ?_⟩
  · rw [Nat.zero_add, h.cell _ (by omega), e0]
  · rw [Nat.zero_add, h.cell _ (by omega), e1]
  · rw [Nat.zero_add, h.cell _ (by omega), e2]
  · rw [Nat.zero_add, h.cell _ (by omega), e3]
theorem BdOwn.below {w w' : World} {g : Nat} {l : List Bd} (h : BdOwn w g l) (hb : Below w.heap.size w w') : BdOwn w' g l :=
  ⟨Nat.lt_of_lt_of_le h.lt hb.size, fun t ht => (hb.cell (p := ⟨g, t, none⟩) h.lt).trans (h.cell t ht), (by obtain ⟨cur, hc⟩ := h.ty; exact ⟨cur, (hb.block g h.lt).trans hc⟩), fun o => (hb.frozen (p := ⟨g, o, none⟩) h.lt).trans (h.fr o)⟩
theorem own_bd {w : World} {base : Nat} {v : Value} {l : List Bd} (h : w.ownsRow base 47 4 v l.length (bdCells l)) (hv : v ≠ .slice none 0 0) : ∃ g cap, v = .slice (some ⟨g, 0, none⟩) l.length cap ∧ base ≤ g ∧ l.length ≤ cap ∧ cap ≤ maxLen ∧ BdOwn w g l := by
  have hh := h.2
  rcases own_form h with ⟨h1, _⟩ | ⟨g, cap, h1, h2, h3, h4, h5, h6, h7⟩
  · exact absurd h1 hv
  · refine ⟨g, cap, h1, h4, h2, h3, h5, h6, ?_, h7⟩
    rcases hh with ⟨h8, _⟩ | ⟨g', cap', cur, h8, _, h9, _⟩
    · exact absurd h8 hv
    · rw [h1] at h8
      simp at h8
      obtain ⟨rfl, _⟩ := h8
      exact ⟨cur, h9⟩
theorem ty_setCell {w : World} {g : Nat} {e : TypeId} {cur : Array Value} (h : w.heap[g]? = some (.cells cur e (0, 0))) (a : Addr) (v : Value) : ∃ cur', (w.setCell a v).heap[g]? = some (.cells cur' e (0, 0)) := by
  unfold World.setCell
  simp only [Array.getElem?_modify]
  split
  · rw [h]
    simp only [Option.map_some]
    first
      | exact ⟨_, rfl⟩
      | (split <;> exact ⟨_, rfl⟩)
  · exact ⟨cur, h⟩
theorem ty_setCells {g b : Nat} {e : TypeId} : ∀ (vs : List Value) (o : Nat) (w : World) (cur : Array Value), w.heap[g]? = some (.cells cur e (0, 0)) → ∃ cur', (w.setCells b o vs).heap[g]? = some (.cells cur' e (0, 0))
  | [], _, w, cur, h => ⟨cur, h⟩
  | v :: r, o, w, cur, h => by
    obtain ⟨c1, h1⟩ := ty_setCell h ⟨b, o, none⟩ v
    exact ty_setCells r (o + 1) _ c1 h1
theorem info_Bd : (Try.prog.info? 47).map (fun i => (i.zero, i.size, i.bytes)) = some (some (.agg #[.int .i64 0, .int .i64 0, .int .i64 0, .int .i64 0]), 4, 32) := by kernel_rfl
theorem BdSlice.src {w : World} {l : List Bd} {b off : Nat} {spot : Option Nat} (hs : BdSlice w (some ⟨b, off, none⟩) l) : ∀ j u, (bdCells l)[j]? = some u → w.cell? ⟨b, off + j, none⟩ = some u := by
  intro j u hj
  have hlt : j < l.length * 4 := by
    have := (List.getElem?_eq_some_iff.1 hj).1
    rwa [bdCells_length] at this
  have hk : j / 4 < l.length := by omega
  obtain ⟨b', off', e, _, c0, c1, c2, c3⟩ := hs (j / 4) hk
  simp at e
  obtain ⟨rfl, rfl⟩ := e
  obtain ⟨e0, e1, e2, e3⟩ := bdCells_get l (j / 4) hk
  have hm : j = j / 4 * 4 ∨ j = j / 4 * 4 + 1 ∨ j = j / 4 * 4 + 2 ∨ j = j / 4 * 4 + 3 := by omega
  generalize j / 4 = q at *
  rcases hm with rfl | rfl | rfl | rfl
  · rw [c0, ← e0]; exact hj
  · rw [← Nat.add_assoc, c1, ← e1]; exact hj
  · rw [← Nat.add_assoc, c2, ← e2]; exact hj
  · rw [← Nat.add_assoc, c3, ← e3]; exact hj
theorem c_Clone_nil (n c : Nat) (w : World) : Calls Try.prog 55 #[.slice none n c] w fun e w' => e = .returned (.slice none 0 0) ∧ Below w.heap.size w w' := by
  have q := fun (w : World) (a : Option Addr) (n c n' c' : Nat) => Lib.run_eql_slice_nil (P := Try.prog) w _ _ a n c n' c' Try.underlying41
  have hgen := sgen; have hgen2 := sgen2; have hgen3 := sgen3; go_enter Try.func55, Try.ntmps55
  go_wp2
  go_ret
  exact ⟨rfl, Below.refl _ _⟩
def CloneIs (w : World) (l : List Bd) (e : Ending) (w' : World) : Prop := ∃ g cap, e = .returned (.slice (some ⟨g, 0, none⟩) l.length cap) ∧ w.heap.size ≤ g ∧ l.length ≤ cap ∧ cap ≤ maxLen ∧ BdOwn w' g l ∧ Below w.heap.size w w'
theorem c_Clone (b off c : Nat) (l : List Bd) (w : World) (h41 : l.length ≤ 41) (hs : BdSlice w (some ⟨b, off, none⟩) l) (hb : b < w.heap.size) :
    Calls Try.prog 55 #[.slice (some ⟨b, off, none⟩) l.length c] w (CloneIs w l) := by
  have q := fun (w : World) (a : Option Addr) (n c n' c' : Nat) => Lib.run_eql_slice_nil (P := Try.prog) w _ _ a n c n' c' Try.underlying41
  obtain ⟨i0, hi, hz0, hz1, hz2⟩ := info_parts info_Bd
  have HS := Lib.hid hs
  clear hs
  have hgen := sgen; have hgen2 := sgen2; have hgen3 := sgen3; go_enter Try.func55, Try.ntmps55
  go_wp2_with (at_builtin; refine wpList_append_own _ rfl _ _ 41 rfl w.heap.size 47 i0 (.agg #[.int .i64 0, .int .i64 0, .int .i64 0, .int .i64 0]) 4 32 Try.underlying41 hi hz0 hz1 hz2 rfl (by decide) _ _ _ rfl (World.ownsRow_made w #[] 0 (Nat.le_refl _) (Nat.zero_le _) rfl) ⟨b, off, none⟩ l.length c (bdCells l) rfl ?qc1 ?qc2 ?qc3 ?qc4 ?qc5 ?qc6 ?_)
  case qc1 => exact bdCells_length l
  case qc2 =>
    intro j u hj
    rw [Addr.add_lit]
    exact Lib.cell?_alloc_some _ (BdSlice.src (spot := none) HS.out j u hj)
  case qc3 => exact bdCells_one l
  case qc4 => unfold maxLen; omega
  case qc5 => omega
  case qc6 => simp
  intro v' w1 hown hgrow hnil
  have HOWN := Lib.hid hown; have HG := Lib.hid hgrow; have HN := Lib.hid hnil
  clear hown hgrow hnil
  go_wp2
  go_ret
  have hne : v' ≠ .slice none 0 0 := fun e => HN.out e
  have ho : w1.ownsRow w.heap.size 47 4 v' l.length (bdCells l) := by simpa using HOWN.out
  obtain ⟨g, cap, rfl, g1, g2, g3, g4⟩ := own_bd ho hne
  exact ⟨g, cap, rfl, g1, g2, g3, g4, ((Below.refl _ w).alloc (Nat.le_refl _) _).grown HG.out (by simp) (by intro k hk; simp [Value.ownBlock] at hk; omega)⟩
/-- 'clear' of one element of several cells. -/
theorem run_clear_one {P : Program} (w : World) (t e ty : TypeId) (z : Value) (ht : P.underlying t = some (.slice e)) (hv : ∀ w, (zeroValue e).run P w = .ok z w) (h1 : ∀ v ∈ z.cells.toList, v.oneCell' = true) (b o c : Nat)
    (hc : ∀ j, j < z.cells.toList.length → (w.cell? ⟨b, o + j, none⟩).isSome = true) (hf : ∀ j, j < z.cells.toList.length → w.frozen? ⟨b, o + j, none⟩ = false) :
    (Builtin.clear_ #[t] ty #[.slice (some ⟨b, o, none⟩) 1 c]).run P w = .ok (.tuple #[]) (w.setCells b o z.cells.toList) := by
  have hzc : Builtin.zeroCells z.cells 1 = z.cells := by
    apply Array.ext
    · simp [Builtin.zeroCells]
    · intro i h1 h2
      simp [Builtin.zeroCells, Nat.mod_eq_of_lt h2]
      exact getElem!_pos z.cells i h2
  have hst := run_storeCells_cells (P := P) b o z.cells.toList 0 w (by simpa using hc) (by simpa using hf) h1
  simp only [Nat.add_zero] at hst
  simp [Builtin.clear_, run_underlying ht, hv, hzc, hst]
theorem bdCells_take (l : List Bd) (k : Nat) : bdCells (l.take k) = (bdCells l).take (k * 4) := by
  induction l generalizing k with
  | nil => simp [bdCells]
  | cons a l ih =>
    cases k with
    | zero => simp [bdCells]
    | succ k => rw [List.take_succ_cons, bdCells_cons, bdCells_cons, ih, show (k + 1) * 4 = k * 4 + 1 + 1 + 1 + 1 by omega]; simp
theorem bdCells_drop (l : List Bd) (k : Nat) : bdCells (l.drop k) = (bdCells l).drop (k * 4) := by
  induction l generalizing k with
  | nil => simp [bdCells]
  | cons a l ih =>
    cases k with
    | zero => simp
    | succ k => rw [List.drop_succ_cons, bdCells_cons, ih, show (k + 1) * 4 = k * 4 + 1 + 1 + 1 + 1 by omega]; simp
def DelIs (w : World) (g cap : Nat) (l : List Bd) (k : Nat) (e : Ending) (w' : World) : Prop := e = .returned (.slice (some ⟨g, 0, none⟩) (l.length - 1) cap) ∧ BdOwn w' g (wo l k) ∧ Below g w w'
theorem del_cells {w : World} {g : Nat} {l : List Bd} {k : Nat} (hk : k < l.length) (h : BdOwn w g l) (zs : List Value) :
    BdOwn ((w.drew.setCells g (k * 4) (bdCells (l.drop (k + 1)))).setCells g ((l.length - 1) * 4) zs) g (wo l k) := by
  have hlen : (bdCells (l.drop (k + 1))).length = (l.length - (k + 1)) * 4 := by rw [bdCells_length, List.length_drop]
  refine ⟨?_, fun t ht => ?_, ?_, fun o => ?_⟩
  · have e := ((Lib.below_setCells_w (B := g) (Nat.le_refl _) (bdCells (l.drop (k + 1))) (k * 4) w.drew).trans (Lib.below_setCells_w (Nat.le_refl _) zs ((l.length - 1) * 4) _)).size
    exact Nat.lt_of_lt_of_le (show g < w.drew.heap.size from h.lt) e
  · rw [wo_length l k hk] at ht
    rw [World.cell?_setCells_out _ _ _ _ _ (fun _ _ => .inl (by simpa using ht))]
    unfold wo
    rw [bdCells_append, bdCells_take]
    have hl4 := bdCells_length l
    by_cases q : t < k * 4
    · rw [World.cell?_setCells_out _ _ _ _ _ (fun _ _ => .inl (by simpa using q)), List.getElem?_append_left (by rw [List.length_take]; omega), List.getElem?_take_of_lt q]
      exact h.cell t (by omega)
    · obtain ⟨r, rfl⟩ : ∃ r, t = k * 4 + r := ⟨t - k * 4, by omega⟩
      have hr : r < (bdCells (l.drop (k + 1))).length := by rw [hlen]; omega
      rw [World.cell?_setCells_in _ _ _ _ (fun j hj => by
        have := h.cell (k * 4 + j) (by rw [hlen] at hj; omega)
        show (w.cell? _).isSome = true
        rw [this, List.getElem?_eq_getElem (by rw [hl4]; rw [hlen] at hj; omega)]; rfl) r hr, List.getElem?_append_right (by rw [List.length_take]; omega), List.length_take, Nat.min_eq_left (by omega), Nat.add_sub_cancel_left, List.getElem?_eq_getElem hr]
  · obtain ⟨cur, hc⟩ := h.ty
    obtain ⟨c1, h1⟩ := ty_setCells (b := g) (bdCells (l.drop (k + 1))) (k * 4) w.drew cur hc
    exact ty_setCells zs _ _ c1 h1
  · rw [World.frozen?_setCells, World.frozen?_setCells]; exact h.fr o
set_option maxRecDepth 1000000 in
set_option maxHeartbeats 4000000 in
theorem c_Delete_raw (g cap k m : Nat) (news : List Value) (w : World) (hk : k ≤ m) (hc : m + 1 ≤ cap) (hm : cap ≤ 9223372036854775807) (A : Addr) (hA : (if cap = k + 1 then some (⟨g, 0, none⟩ : Addr) else some ⟨g, (k + 1) * 4, none⟩) = some A)
    (s0 : Hid (∀ t u, news[t]? = some u → w.drew.cell? (A.add t) = some u)) (s1 : Hid (news.length = (m - k) * 4)) (s2 : Hid (∀ u ∈ news, u.oneCell' = true))
    (s3 : Hid (∀ t, t < news.length → (w.drew.cell? ⟨g, 0 + k * 4 + t, none⟩).isSome = true ∧ w.drew.frozen? ⟨g, 0 + k * 4 + t, none⟩ = false)) (W1 : World) (hW : Hid (W1 = w.drew.setCells g (0 + k * 4) news))
    (hcl : ∀ ty, (Builtin.clear_ #[41] ty #[.slice (some ⟨g, m * 4, none⟩) 1 (cap - m)]).run Try.prog W1 = .ok (.tuple #[]) (W1.setCells g (m * 4) [.int .i64 0, .int .i64 0, .int .i64 0, .int .i64 0])) :
    Calls Try.prog 63 #[.slice (some ⟨g, 0, none⟩) (m + 1) cap, .int .i64 k, .int .i64 ((k : Int) + 1)] w fun e w' => e = .returned (.slice (some ⟨g, 0, none⟩) m cap) ∧ w' = W1.setCells g (m * 4) [.int .i64 0, .int .i64 0, .int .i64 0, .int .i64 0] := by
  obtain ⟨i0, hi, hz0, hz1, hz2⟩ := info_parts info_Bd
  have hp2 : ((k : Int) + 1).toNat = k + 1 := by omega
  have hp3 : ((k : Int) == (k : Int) + 1) = false := by simp; omega
  have hic : k ≤ cap := by omega
  have hp0 : (0 : Int) ≤ (k : Int) + 1 := by omega
  have hp1 : (k : Int) + 1 ≤ (m : Int) + 1 := by omega
  have hp4 : k + 1 ≤ m + 1 := by omega
  have hp5 : k + 1 ≤ cap := by omega
  have hkm : k + (m - k) = m := by omega
  go_enter Try.func63, Try.ntmps63
  go_wp2_with fail
  go_region_law (refine step_append_room rfl (.tmp 22) (.tmp 25) 41 rfl 47 i0 4 Try.underlying41 hi hz1 g 0 k cap (by simp [Act.eval, Act.put]) A (m - k) (cap - (k + 1)) news (by simp [Act.eval, Act.put]) s1.out s0.out s2.out (by omega) s3.out ?_; rw [← hW.out])
  go_wp2
  go_ret
  exact ⟨rfl, rfl⟩
theorem c_Delete (g cap k : Nat) (l : List Bd) (w : World) (hk : k < l.length) (hc : l.length ≤ cap) (hm : cap ≤ maxLen) (hs : BdOwn w g l) :
    Calls Try.prog 63 #[.slice (some ⟨g, 0, none⟩) l.length cap, .int .i64 k, .int .i64 ((k : Int) + 1)] w (DelIs w g cap l k) := by
  have hmax : cap ≤ 9223372036854775807 := by unfold maxLen at hm; omega
  obtain ⟨m, hm1⟩ : ∃ m, l.length = m + 1 := ⟨l.length - 1, by omega⟩
  have HCL := del_cells (w := w) hk hs [.int .i64 0, .int .i64 0, .int .i64 0, .int .i64 0]
  have hlen : (bdCells (l.drop (k + 1))).length = (l.length - (k + 1)) * 4 := by rw [bdCells_length, List.length_drop]
  have hl4 := bdCells_length l
  have hsome : ∀ t, t < l.length * 4 → (w.cell? ⟨g, t, none⟩).isSome = true := fun t ht => by rw [hs.cell t ht, List.getElem?_eq_getElem (by rw [hl4]; omega)]; rfl
  obtain ⟨A, hA, hsrc⟩ : ∃ A : Addr, (if cap = k + 1 then some (⟨g, 0, none⟩ : Addr) else some ⟨g, (k + 1) * 4, none⟩) = some A ∧ Hid (∀ t u, (bdCells (l.drop (k + 1)))[t]? = some u → w.drew.cell? (A.add t) = some u) := by
    by_cases h : cap = k + 1
    · refine ⟨⟨g, 0, none⟩, by simp [h], fun t u hu => ?_⟩
      have h0 : (bdCells (l.drop (k + 1))).length = 0 := by rw [hlen]; omega
      rw [List.length_eq_zero_iff.1 h0] at hu
      simp at hu
    · refine ⟨⟨g, (k + 1) * 4, none⟩, by simp [h], fun t u hu => ?_⟩
      have ht : t < (l.length - (k + 1)) * 4 := by
        have := (List.getElem?_eq_some_iff.1 hu).1
        rwa [hlen] at this
      rw [Addr.add_lit]
      show w.cell? _ = _
      rw [hs.cell _ (by omega), ← hu, bdCells_drop, List.getElem?_drop]
  have hcl : ∀ ty, (Builtin.clear_ #[41] ty #[.slice (some ⟨g, m * 4, none⟩) 1 (cap - m)]).run Try.prog (w.drew.setCells g (0 + k * 4) (bdCells (l.drop (k + 1)))) = .ok (.tuple #[]) ((w.drew.setCells g (0 + k * 4) (bdCells (l.drop (k + 1)))).setCells g (m * 4) [.int .i64 0, .int .i64 0, .int .i64 0, .int .i64 0]) := fun ty => by
    refine run_clear_one _ _ _ ty (.agg #[.int .i64 0, .int .i64 0, .int .i64 0, .int .i64 0]) Try.underlying41 Try.zeroValue47 (by simp [Value.cells]; decide) g (m * 4) _ ?_ ?_
    · intro j hj
      have hj4 : j < 4 := by simpa [Value.cells] using hj
      rw [World.cell?_setCells_out _ _ _ _ _ (fun _ _ => .inr (by rw [hlen]; show 0 + k * 4 + _ ≤ m * 4 + j; omega))]
      exact hsome _ (by omega)
    · intro j hj
      rw [World.frozen?_setCells]; exact hs.fr _
  have hraw := c_Delete_raw g cap k m (bdCells (l.drop (k + 1))) w (by omega) (by omega) hmax A hA hsrc (by rw [hm1, Nat.add_sub_add_right] at hlen; exact hlen) (bdCells_one _) (fun t ht => by
    rw [hlen] at ht
    rw [Nat.zero_add]
    exact ⟨hsome _ (by omega), hs.fr _⟩) _ rfl hcl
  rw [hm1]
  refine hraw.mono ?_
  rintro e w' ⟨rfl, rfl⟩
  refine ⟨by rw [hm1]; rfl, ?_, ?_⟩
  · rw [hm1, Nat.add_sub_cancel] at HCL
    rw [Nat.zero_add]
    exact HCL
  · rw [Nat.zero_add]
    exact (((Below.refl g w).drew).trans (Lib.below_setCells_w (Nat.le_refl _) _ _ _)).trans (Lib.below_setCells_w (Nat.le_refl _) _ _ _)
/-- contradict.without -/
def WoIs (w : World) (l : List Bd) (k : Nat) (e : Ending) (w' : World) : Prop := ∃ g cap, e = .returned (.slice (some ⟨g, 0, none⟩) (l.length - 1) cap) ∧ w.heap.size ≤ g ∧ l.length ≤ cap ∧ cap ≤ maxLen ∧ BdOwn w' g (wo l k) ∧ Below w.heap.size w w'
theorem c_without (b off c k : Nat) (l : List Bd) (w : World) (hk : k < l.length) (h41 : l.length ≤ 41) (hs : BdSlice w (some ⟨b, off, none⟩) l) (hb : b < w.heap.size) :
    Calls Try.prog 56 #[.slice (some ⟨b, off, none⟩) l.length c, .int .i64 k] w (WoIs w l k) := by
  have HC := Lib.hid (c_Clone b off c l w h41 hs hb)
  have r1 : IntKind.i64.wrap ((k : Int) + 1) = (k : Int) + 1 := IntWalk.i64_in _ (by omega)
  clear hs
  go_enter Try.func56, Try.ntmps56
  go_wp2_with fail
  refine HC.out.mono ?_
  rintro e w1 ⟨g, cap, rfl, h1, h2, h3, h4, h5⟩
  have HD := Lib.hid (c_Delete g cap k l w1 hk h2 h3 h4)
  have H5 := Lib.hid h5
  clear h4 h5
  go_wp2_with fail
  refine HD.out.mono ?_
  rintro e w2 ⟨rfl, h6, h7⟩
  go_wp2_with fail
  go_ret
  exact ⟨g, cap, rfl, h1, h2, h3, h6, H5.out.trans (h7.mono h1)⟩
end Go.Proofs.Ytdpddidfdifbhaa
