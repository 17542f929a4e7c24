/- What TopTides makes: its list of constituents, its rows, its heights. -/
import Derived.Test.YtcgnhnmigmdalaaDoorPlainTtd
import Derived.Test.YtcgnhnmigmdalaaDoorWalkTdw
import Derived.Test.YtcgnhnmigmdalaaDoorWalkTopS
import Derived.Test.YtcgnhnmigmdalaaDoorGgE
import Derived.Test.YtcgnhnmigmdalaaDoorWalkOwnB
import Derived.Test.YtcgnhnmigmdalaaDoorTdA
import Derived.Test.YtcgnhnmigmdalaaDoorOpT
set_option linter.unusedVariables false
set_option linter.unusedSimpArgs false
set_option maxRecDepth 100000
namespace Go.Proofs.YtcgnhnmigmdalaaDoor
open Go.RowKit
/-- A constituent as the law takes it. -/
def tcv (x : Tm) : Tm := ⟨x.amp % 20001, x.ph % 1000000000, 1 + x.rt % 4000000000000000⟩
theorem tcv_ok (x : Tm) : ¬ TdBad (tcv x) := by
  unfold TdBad tcv
  simp only
  omega
def lsT {α : Type} (f : Tm → α) (l : List Tm) (k : Nat) : List α := ((l.take k).take 8).map f
theorem lsT_len {α : Type} (f : Tm → α) (l : List Tm) {k : Nat} (h : k ≤ l.length) : (lsT f l k).length = min 8 k := by
  unfold lsT; simp; omega
theorem lsT_next {α : Type} (f : Tm → α) (l : List Tm) (k : Nat) (h : k < l.length) (h8 : k < 8) : lsT f l (k + 1) = lsT f l k ++ [f l[k]] := by
  unfold lsT
  rw [List.take_take, List.take_take, show min 8 (k + 1) = k + 1 by omega, show min 8 k = k by omega, List.take_succ_eq_append_getElem h, List.map_append]
  rfl
theorem lsT_stay {α : Type} (f : Tm → α) (l : List Tm) (k : Nat) (h8 : ¬ k < 8) : lsT f l (k + 1) = lsT f l k := by
  unfold lsT
  rw [List.take_take, List.take_take, show min 8 (k + 1) = 8 by omega, show min 8 k = 8 by omega]
theorem lsT_get {α : Type} (f : Tm → α) (l : List Tm) (k i : Nat) (h : i < (lsT f l k).length) : ∃ hi : i < l.length, (lsT f l k)[i] = f l[i] := by
  have h' := h
  unfold lsT at h'
  simp at h'
  refine ⟨by omega, ?_⟩
  simp [lsT]
theorem lst_good (l : List Tm) : tdE (lsT tcv l l.length) = 0 := by
  have hl := lsT_len tcv l (Nat.le_refl l.length)
  unfold tdE
  rw [if_neg (by omega)]
  have : ∀ L : List Tm, (∀ x ∈ L, tdOne x = 0) → fe tdOne L = 0 := by
    intro L hL
    by_cases hz : fe tdOne L = 0
    · exact hz
    · exfalso
      have key : ∀ k, k ≤ L.length → fe tdOne (L.take k) = 0 := by
        intro k
        induction k with
        | zero => intro _; rfl
        | succ k ih =>
          intro hk
          rw [fe_snoc tdOne L k (by omega), if_pos (ih (by omega))]
          exact hL _ (List.getElem_mem _)
      have := key L.length (Nat.le_refl _)
      rw [List.take_length] at this
      exact hz this
  refine this _ (fun x hx => ?_)
  unfold lsT at hx
  obtain ⟨y, -, rfl⟩ := List.mem_map.1 hx
  exact tdOne_ok (tcv_ok y)
theorem tdM_lst (l : List Tm) (k : Nat) (h : k ≤ l.length) : 0 ≤ tdM (lsT tcv l k) ∧ tdM (lsT tcv l k) ≤ 160000 := by
  have hb : ∀ x ∈ lsT tcv l k, ¬ TdBad x := by
    intro x hx
    unfold lsT at hx
    obtain ⟨y, -, rfl⟩ := List.mem_map.1 hx
    exact tcv_ok y
  obtain ⟨-, a, b⟩ := aS_tdM hb (lsT tcv l k).length (Nat.le_refl _)
  rw [List.take_length] at a b
  have := lsT_len tcv l h
  omega
/-- The cells of a list of triples. -/
def tmCells (l : List Tm) : List Value := l.flatMap fun s => [.int .i64 s.amp, .int .i64 s.ph, .int .i64 s.rt]
theorem tmCells_length (l : List Tm) : (tmCells l).length = l.length * 3 := by
  unfold tmCells
  induction l with
  | nil => rfl
  | cons a l ih => simp only [List.flatMap_cons, List.length_append, ih, List.length_cons, List.length_nil]; omega
theorem tmCells_append (l m : List Tm) : tmCells (l ++ m) = tmCells l ++ tmCells m := by simp [tmCells]
theorem tmCells_get (l : List Tm) (k : Nat) (h : k < l.length) : (tmCells l)[k * 3]? = some (.int .i64 l[k].amp) ∧ (tmCells l)[k * 3 + 1]? = some (.int .i64 l[k].ph) ∧ (tmCells l)[k * 3 + 2]? = some (.int .i64 l[k].rt) := by
  induction l generalizing k with
  | nil => simp at h
  | cons a l ih =>
    cases k with
    | zero => simp [tmCells]
    | succ k =>
      have := ih k (by simpa using h)
      have e : tmCells (a :: l) = .int .i64 a.amp :: .int .i64 a.ph :: .int .i64 a.rt :: tmCells l := by simp [tmCells]
      rw [e, show (k + 1) * 3 = k * 3 + 1 + 1 + 1 by omega]
      simpa using this
theorem own_tm {w : World} {base : Nat} {v : Value} {l : List Tm} (h : w.ownsRow base 65 3 v l.length (tmCells l)) : ∃ a cap, v = .slice a l.length cap ∧ l.length ≤ cap ∧ TmSlice w a l := by
  rcases own_form h with ⟨h1, h2⟩ | ⟨g, cap', h1, h2, h3, h4, h5, h6, h7⟩
  · exact ⟨none, 0, by rw [h1, h2], by omega, fun k hk => absurd hk (by omega)⟩
  · refine ⟨some ⟨g, 0, none⟩, cap', h1, h2, fun k hk => ?_⟩
    obtain ⟨e1, e2, e3⟩ := tmCells_get l k hk
    refine ⟨g, 0, rfl, h5, ?_, ?_, ?_⟩
    · rw [Nat.zero_add, h6 _ (by omega), e1]
    · rw [Nat.zero_add, h6 _ (by omega), e2]
    · rw [Nat.zero_add, h6 _ (by omega), e3]
theorem info_tide : (Tryd.prog.info? 65).map (fun i => (i.zero, i.size, i.bytes)) = some (some (.agg #[.int .i64 0, .int .i64 0, .int .i64 0]), 3, 24) := by kernel_rfl
/-- A row, a height, as the law takes them. -/
def tRow (x : Tm) : List Int := [x.amp.tmod 11, x.ph.tmod 11, x.rt.tmod 11]
def tHt (y x : Tm) : Int := x.amp.tmod 11 * y.amp.tmod 30 + x.ph.tmod 11 * y.ph.tmod 30 + x.rt.tmod 11 * y.rt.tmod 30
def intL (l : List Int) : List Value := l.map (.int .i64)
theorem own_int {w : World} {base : Nat} {v : Value} {l : List Int} (h : w.ownsRow base 3 1 v l.length (intL l)) : ∃ a cap, v = .slice a l.length cap ∧ l.length ≤ cap ∧ IntSlice w a l := by
  rcases own_form h with ⟨h1, h2⟩ | ⟨g, cap', h1, h2, h3, h4, h5, h6, h7⟩
  · exact ⟨none, 0, by rw [h1, h2], by omega, fun k hk => absurd hk (by omega)⟩
  · refine ⟨some ⟨g, 0, none⟩, cap', h1, h2, fun k hk => ?_⟩
    refine ⟨g, 0, rfl, h5, ?_⟩
    rw [Nat.zero_add, h6 _ (by omega)]
    simp [intL, hk]
/-- The rows while they are made; u: the heights beside them. -/
structure TabOwn (w : World) (base : Nat) (L : List (List Int)) (v : Value) (xs : List Value) (u : Value) : Prop where
  own : w.ownsRow base 71 1 v L.length xs
  row : ∀ i (h : i < L.length), ∃ g, xs[i]? = some (.slice (some ⟨g, 0, none⟩) L[i].length L[i].length) ∧ w.heap[g]? = some (.cells (intL L[i]).toArray 3 (0, 0)) ∧ u.ownBlock ≠ some g
theorem TabOwn.mat {w : World} {base : Nat} {L : List (List Int)} {v : Value} {xs : List Value} {u : Value} (h : TabOwn w base L v xs u) : ∃ a cap, v = .slice a L.length cap ∧ L.length ≤ cap ∧ MatSlice w a L := by
  rcases own_form h.own with ⟨h1, h2⟩ | ⟨g, cap', h1, h2, h3, h4, h5, h6, h7⟩
  · exact ⟨none, 0, by rw [h1, h2], by omega, fun k hk => absurd hk (by omega)⟩
  · refine ⟨some ⟨g, 0, none⟩, cap', h1, h2, fun k hk => ?_⟩
    obtain ⟨g', e1, e2, -⟩ := h.row k hk
    refine ⟨g, 0, _, rfl, h5, ?_, ⟨some ⟨g', 0, none⟩, _, rfl, Nat.le_refl _, fun j hj => ⟨g', 0, rfl, (Array.getElem?_eq_some_iff.1 e2).1, ?_⟩⟩⟩
    · rw [Nat.zero_add, h6 _ (by omega), e1]
    · unfold World.cell?
      simp [e2, intL, hj]
theorem TabOwn.nil (w : World) (base : Nat) (u : Value) : TabOwn w base [] (.slice none 0 0) [] u := ⟨World.ownsRow_nil _ _ _ _, fun i h => absurd h (by simp)⟩
theorem type_ne {w : World} {base n m : Nat} {v : Value} {xs : List Value} (h : w.ownsRow base 71 m v n xs) {g : Nat} {cur : Array Value} (hg : w.heap[g]? = some (.cells cur 3 (0, 0))) : v.ownBlock ≠ some g := by
  intro e
  obtain ⟨cur2, hcur2⟩ := own_block h e
  rw [hg] at hcur2
  simp at hcur2
theorem TabOwn.kept {w w' : World} {base : Nat} {L : List (List Int)} {v : Value} {xs : List Value} {u : Value} (h : TabOwn w base L v xs u) (hb : ∀ g, g < w.heap.size → w'.heap[g]? = w.heap[g]?) : TabOwn w' base L v xs u :=
  ⟨own_kept h.own (fun g hg => hb g (h.own.lt g hg).2), fun i hi => by
    obtain ⟨g, e1, e2, e3⟩ := h.row i hi
    exact ⟨g, e1, by rw [hb g (Array.getElem?_eq_some_iff.1 e2).1]; exact e2, e3⟩⟩
theorem tab_next {wq w6 : World} {base : Nat} {L : List (List Int)} {v v6 : Value} {xs : List Value} {u : Value} {r : List Int} {ub un : Nat} {us : List Value} (h : TabOwn wq base L v xs u) (hu : wq.ownsRow ub 3 1 u un us)
    (h6 : w6.ownsRow base 71 1 v6 (L.length + 1) (xs ++ [.slice (some ⟨wq.heap.size, 0, none⟩) r.length r.length]))
    (hg : ((wq.alloc (.cells (intL r).toArray 3)).alloc (.cells #[.slice (some ⟨wq.heap.size, 0, none⟩) r.length r.length] 71)).grownBy w6 v.ownBlock) :
    TabOwn w6 base (L ++ [r]) v6 (xs ++ [.slice (some ⟨wq.heap.size, 0, none⟩) r.length r.length]) u := by
  have hxl : xs.length = L.length := by have := h.own.1; omega
  refine ⟨by rw [List.length_append]; exact h6, fun i hi => ?_⟩
  have hi' : i ≤ L.length := by simp at hi; omega
  by_cases e : i = L.length
  · subst e
    refine ⟨wq.heap.size, ?_, ?_, fun e => ?_⟩
    · rw [List.getElem?_append_right (by omega), hxl, Nat.sub_self]
      simp
    · rw [hg.block _ (by simp; omega) (fun e => absurd (h.own.lt _ e.symm).2 (by omega))]
      have : (wq.alloc (.cells (intL r).toArray 3)).heap[wq.heap.size]? = some (.cells (intL r).toArray 3 (0, 0)) := heap_alloc_new wq _
      rw [Below.heap_alloc _ _ _ (by simp)]
      simpa using this
    · exact absurd (hu.lt _ e).2 (by omega)
  · obtain ⟨g, e1, e2, e3⟩ := h.row i (by omega)
    have hgl := (Array.getElem?_eq_some_iff.1 e2).1
    have el : (L ++ [r])[i] = L[i]'(by omega) := List.getElem_append_left (by omega)
    refine ⟨g, ?_, ?_, e3⟩
    · rw [List.getElem?_append_left (by omega), e1, el]
    · rw [hg.block _ (by simp; omega) (fun e => type_ne h.own e2 e.symm), Below.heap_alloc _ _ _ (by simp; omega), Below.heap_alloc _ _ _ hgl, e2, el]
theorem ht_next {w6 wa w7 : World} {base : Nat} {L : List (List Int)} {v : Value} {xs : List Value} {u u7 : Value} {ub un : Nat} {us : List Value} (h : TabOwn w6 base L v xs u) (hu : w6.ownsRow ub 3 1 u un us)
    (ha : ∀ g, g < w6.heap.size → wa.heap[g]? = w6.heap[g]?) (hs : w6.heap.size ≤ wa.heap.size) (hg : wa.grownBy w7 u.ownBlock) (hl : u7.ownBlock = u.ownBlock ∨ u7.ownBlock = some wa.heap.size) : TabOwn w7 base L v xs u7 := by
  refine ⟨own_kept h.own (fun g hgv => ?_), fun i hi => ?_⟩
  · have hlt := (h.own.lt g hgv).2
    rw [hg.block g (by omega) (fun e => ?_), ha g hlt]
    obtain ⟨cur, hcur⟩ := own_block h.own hgv
    obtain ⟨cur2, hcur2⟩ := own_block hu e.symm
    rw [hcur] at hcur2
    simp at hcur2
  · obtain ⟨g, e1, e2, e3⟩ := h.row i hi
    have hgl := (Array.getElem?_eq_some_iff.1 e2).1
    refine ⟨g, e1, by rw [hg.block g (by omega) (fun e => e3 e.symm), ha g hgl, e2], fun e => ?_⟩
    rcases hl with hl | hl
    · exact e3 (hl.symm.trans e)
    · rw [hl] at e
      have := Option.some.inj e
      omega
/-- Readings of the law. -/
theorem t11 (x : Int) : -10 ≤ x.tmod 11 ∧ x.tmod 11 ≤ 10 := by
  have a := Int.tmod_lt_of_pos x (show (0 : Int) < 11 by omega)
  have b := Int.tmod_lt_of_pos (-x) (show (0 : Int) < 11 by omega)
  rw [Int.neg_tmod] at b
  omega
theorem t30 (x : Int) : -29 ≤ x.tmod 30 ∧ x.tmod 30 ≤ 29 := by
  have a := Int.tmod_lt_of_pos x (show (0 : Int) < 30 by omega)
  have b := Int.tmod_lt_of_pos (-x) (show (0 : Int) < 30 by omega)
  rw [Int.neg_tmod] at b
  omega
theorem t1130 (x y : Int) : -290 ≤ x.tmod 11 * y.tmod 30 ∧ x.tmod 11 * y.tmod 30 ≤ 290 := by
  have := mul_bd (A := 10) (D := 29) (t11 x) (t30 y)
  omega
theorem tHt_bd (y x : Tm) : -870 ≤ tHt y x ∧ tHt y x ≤ 870 := by
  have a := t1130 x.amp y.amp
  have b := t1130 x.ph y.ph
  have c := t1130 x.rt y.rt
  unfold tHt
  omega
theorem fe_of {α : Type} (f : α → Int) (L : List α) (hL : ∀ x ∈ L, f x = 0) : fe f L = 0 := by
  have key : ∀ k, k ≤ L.length → fe f (L.take k) = 0 := by
    intro k
    induction k with
    | zero => intro _; rfl
    | succ k ih =>
      intro hk
      rw [fe_snoc f L k (by omega), if_pos (ih (by omega))]
      exact hL _ (List.getElem_mem _)
  have := key L.length (Nat.le_refl _)
  rwa [List.take_length] at this
theorem ttd_ok (y : Tm) (l : List Tm) (h0 : l ≠ []) : gErr (lsT tRow l l.length) (lsT (tHt y) l l.length) = 0 := by
  have l1 := lsT_len tRow l (Nat.le_refl _)
  have l2 := lsT_len (tHt y) l (Nat.le_refl _)
  have hp : 0 < l.length := List.length_pos_iff.2 h0
  have row : ∀ i, i < (lsT tRow l l.length).length → ∃ x : Tm, (lsT tRow l l.length).getD i [] = tRow x ∧ (lsT (tHt y) l l.length).getD i 0 = tHt y x := by
    intro i hi
    obtain ⟨hi', e⟩ := lsT_get tRow l l.length i hi
    obtain ⟨_, e2⟩ := lsT_get (tHt y) l l.length i (by omega)
    refine ⟨l[i], ?_, ?_⟩
    · rw [List.getD_eq_getElem?_getD, List.getElem?_eq_getElem hi, Option.getD_some, e]
    · rw [List.getD_eq_getElem?_getD, List.getElem?_eq_getElem (by omega), Option.getD_some, e2]
  obtain ⟨x0, e0, -⟩ := row 0 (by omega)
  have q0 : ((lsT tRow l l.length).getD 0 []).length = 3 := by rw [e0]; rfl
  unfold gErr
  rw [if_neg (by omega), if_neg (by unfold gForm; omega)]
  refine fe_of _ _ (fun i hi => ?_)
  have hi' := List.mem_range.1 hi
  obtain ⟨x, e1, e2⟩ := row i hi'
  have hb := tHt_bd y x
  unfold gIx rowE
  rw [e1, e2, q0, if_neg (by simp [tRow])]
  have hr : fe rowOne (tRow x) = 0 := by
    refine fe_of _ _ (fun z hz => ?_)
    unfold tRow at hz
    have hh : -10 ≤ z ∧ z ≤ 10 := by
      simp at hz
      rcases hz with rfl | rfl | rfl <;> exact t11 _
    unfold rowOne
    rw [if_neg (by omega)]
  rw [if_neg (by omega), if_neg (by omega)]
theorem ttd_lin (y : Tm) (l : List Tm) (k : Nat) (h : k < (lsT tRow l l.length).length) :
    hF (lsT (tHt y) l l.length) k = rwF (lsT tRow l l.length) k 0 * y.amp.tmod 30 + rwF (lsT tRow l l.length) k 1 * y.ph.tmod 30 + rwF (lsT tRow l l.length) k 2 * y.rt.tmod 30 := by
  have l1 := lsT_len tRow l (Nat.le_refl _)
  have l2 := lsT_len (tHt y) l (Nat.le_refl _)
  obtain ⟨hi', e⟩ := lsT_get tRow l l.length k h
  obtain ⟨_, e2⟩ := lsT_get (tHt y) l l.length k (by omega)
  unfold hF rwF
  rw [List.getD_eq_getElem?_getD, List.getElem?_eq_getElem (by omega), Option.getD_some, e2]
  rw [List.getD_eq_getElem?_getD (l := lsT tRow l l.length), List.getElem?_eq_getElem h, Option.getD_some, e]
  rfl
def yF (y : Tm) (j : Nat) : Int := if j = 0 then y.amp.tmod 30 else if j = 1 then y.ph.tmod 30 else y.rt.tmod 30
theorem ttd_fit (y : Tm) (l : List Tm) (hG : GOk (lsT tRow l l.length) (lsT (tHt y) l l.length) 3) (hD : fD (lsT tRow l l.length) 3 ≠ 0) :
    fDn (lsT tRow l l.length) (lsT (tHt y) l l.length) 3 = 1 ∧ fNm (lsT tRow l l.length) (lsT (tHt y) l l.length) 3 0 = y.amp.tmod 30 ∧ fNm (lsT tRow l l.length) (lsT (tHt y) l l.length) 3 1 = y.ph.tmod 30 ∧ fNm (lsT tRow l l.length) (lsT (tHt y) l l.length) 3 2 = y.rt.tmod 30 := by
  have nn : 0 ≤ fD (lsT tRow l l.length) 3 := gram_nn hG.n1 hG.n3 _ _
  have hlin : ∀ k, k < (lsT tRow l l.length).length → hF (lsT (tHt y) l l.length) k = rwF (lsT tRow l l.length) k 0 * yF y 0 + rwF (lsT tRow l l.length) k 1 * yF y 1 + rwF (lsT tRow l l.length) k 2 * yF y 2 := fun k hk => ttd_lin y l k hk
  have hV := fun i (_ : i < 3) => gmR_lin (rwF (lsT tRow l l.length)) (hF (lsT (tHt y) l l.length)) (yF y) (lsT tRow l l.length).length i hlin
  have hf := fit_exact (M := gmM (rwF (lsT tRow l l.length)) (lsT tRow l l.length).length) (V := gmR (rwF (lsT tRow l l.length)) (hF (lsT (tHt y) l l.length)) (lsT tRow l l.length).length) (f := yF y) hV (by show 0 < fD (lsT tRow l l.length) 3; omega)
  exact ⟨hf.1, hf.2 0 (by omega), hf.2 1 (by omega), hf.2 2 (by omega)⟩
theorem tdO_mem (P : Int → Int → Int → Int → Bool) (l : List Tm) (t : Int) : ∀ n, ∀ s ∈ tdO P l t n, t ≤ s.lo ∧ s.hi = s.lo + 7200000 ∧ s.hi ≤ t + (n : Int) * 3600000
  | 0 => fun s h => by unfold tdO at h; simp at h
  | i + 1 => by
    have ih := tdO_mem P l t i
    intro s h
    unfold tdO at h
    split at h
    · rename_i h1
      rcases List.mem_append.1 h with h | h
      · obtain ⟨a, b, c⟩ := ih s h
        exact ⟨a, b, by push_cast; omega⟩
      · simp at h
        subst h
        refine ⟨by simp only; omega, by simp only; omega, by simp only; push_cast; omega⟩
    · obtain ⟨a, b, c⟩ := ih s h
      exact ⟨a, b, by push_cast; omega⟩
theorem mid_td (x : Int) : (x + (x + 7200000)).tdiv 2 = x + 3600000 := by
  rw [show x + (x + 7200000) = 2 * (x + 3600000) by omega]
  exact Int.mul_tdiv_cancel_left _ (by omega)
theorem own_other {w w6 : World} {ub un vb vn : Nat} {u v : Value} {us vs : List Value} (hu : w.ownsRow ub 3 1 u un us) (hv : w.ownsRow vb 71 1 v vn vs) (hg : w.grownBy w6 v.ownBlock) : w6.ownsRow ub 3 1 u un us :=
  own_kept hu (fun g hgu => by
    refine hg.block g (hu.lt g hgu).2 (fun e => ?_)
    obtain ⟨cur, hcur⟩ := own_block hu hgu
    obtain ⟨cur2, hcur2⟩ := own_block hv e.symm
    rw [hcur] at hcur2
    simp at hcur2)
theorem lsT_next' {α : Type} (f : Tm → α) (l : List Tm) (k : Nat) (h : k < l.length) (h8 : k < 8) : (lsT f l (k + 1)).length = (lsT f l k).length + 1 := by rw [lsT_next f l k h h8, List.length_append]; rfl
end Go.Proofs.YtcgnhnmigmdalaaDoor
