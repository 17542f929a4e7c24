/- One step of a net of notices, in plain Lean: the program's way (by neighbours) and the law's way (by edges) are one. One step of a net over rows as lists, as the program's loops make it. Rows of notices of the call's own: what they hold, a notice put, other rows kept. A slice of slices of int that came in. What the loops of spread.Net's Step keep: the row at work, the rows that are done, the slice that is grown. -/
import Derived.Test.YtbcehnhiedbbbaaDoorWalkSpn
import Derived.Test.YtbcehnhiedbbbaaDoorSpA
import Derived.Test.YtbcehnhiedbbbaaDoorWalkPutN
import Derived.Test.YtbcehnhiedbbbaaDoorFgI
import Derived.WalkKit
set_option linter.unusedVariables false
set_option linter.unusedSimpArgs false
namespace Go.Proofs.YtbcehnhiedbbbaaDoor
section
theorem gtT_self (t : ByteArray) : gtT t t = false := by unfold gtT; simp
theorem nwF_self (n : Int) (t : ByteArray) : nwF n t n t = false := by unfold nwF; rw [if_pos rfl]; exact gtT_self t
/-- Row s is taken over into row r where it is newer. -/
def upR (r s : Nat → Nt) : Nat → Nt := fun a => if nwF (s a).no (s a).tx (r a).no (r a).tx = true then s a else r a
theorem upR_idem (r s : Nat → Nt) : upR (upR r s) s = upR r s := by
  funext a
  unfold upR
  by_cases h : nwF (s a).no (s a).tx (r a).no (r a).tx = true
  · simp only [h, if_true, nwF_self, Bool.false_eq_true, if_false]
  · have h' : nwF (s a).no (s a).tx (r a).no (r a).tx = false := by simpa using h
    simp only [h', Bool.false_eq_true, if_false]
/-- The neighbours of node i, in the order of the edges. -/
def nearL (E : List Ed) (i : Int) : List Int := E.flatMap fun e => if e.p = i then [e.q] else if e.q = i then [e.p] else []
def stpP (H : Int → Nat → Nt) (E : List Ed) (i : Int) : Nat → Nt := (nearL E i).foldl (fun r k => upR r (H k)) (H i)
def stpE (H : Int → Nat → Nt) (i : Int) (r : Nat → Nt) (e : Ed) : Nat → Nt :=
  if e.p = i then upR (if e.q = i then upR r (H e.p) else r) (H e.q) else if e.q = i then upR r (H e.p) else r
def stpL (H : Int → Nat → Nt) (E : List Ed) (i : Int) : Nat → Nt := E.foldl (stpE H i) (H i)
theorem stp_one (H : Int → Nat → Nt) (i : Int) (r : Nat → Nt) (e : Ed) : (if e.p = i then [e.q] else if e.q = i then [e.p] else []).foldl (fun r k => upR r (H k)) r = stpE H i r e := by
  unfold stpE
  by_cases h1 : e.p = i
  · by_cases h2 : e.q = i
    · simp only [h1, h2, if_true, List.foldl_cons, List.foldl_nil]
      rw [upR_idem]
    · simp only [h1, h2, if_true, if_false, List.foldl_cons, List.foldl_nil]
  · by_cases h2 : e.q = i
    · simp only [h1, h2, if_true, if_false, List.foldl_cons, List.foldl_nil]
    · simp only [h1, h2, if_false, List.foldl_nil]
theorem stp_eq (H : Int → Nat → Nt) (E : List Ed) (i : Int) : stpP H E i = stpL H E i := by
  have key : ∀ (E : List Ed) (r : Nat → Nt), (nearL E i).foldl (fun r k => upR r (H k)) r = E.foldl (stpE H i) r := by
    intro E
    induction E with
    | nil => intro r; rfl
    | cons e E ih =>
      intro r
      have e1 : nearL (e :: E) i = (if e.p = i then [e.q] else if e.q = i then [e.p] else []) ++ nearL E i := by simp [nearL]
      rw [e1, List.foldl_append, stp_one, List.foldl_cons]
      exact ih _
  exact key E (H i)
/-- One more edge: the neighbours of its ends grow by one. -/
theorem nearL_snoc (E : List Ed) (e : Ed) (i : Int) : nearL (E ++ [e]) i = nearL E i ++ (if e.p = i then [e.q] else if e.q = i then [e.p] else []) := by simp [nearL]
end
section
/-- The newer of two notices: s if it is newer than r. -/
def nw1 (r s : Nt) : Nt := if nwF s.no s.tx r.no r.tx = true then s else r
def upN (r s : List Nt) : List Nt := List.zipWith nw1 r s
/-- The first a places of row r have taken over from row s. -/
def upTo (r s : List Nt) (a : Nat) : List Nt := (upN r s).take a ++ r.drop a
theorem upN_len {r s : List Nt} (h : r.length = s.length) : (upN r s).length = r.length := by unfold upN; rw [List.length_zipWith]; omega
theorem upTo_zero (r s : List Nt) : upTo r s 0 = r := by unfold upTo; simp
theorem upTo_all {r s : List Nt} (h : r.length = s.length) : upTo r s r.length = upN r s := by
  unfold upTo
  rw [List.drop_length, List.append_nil, List.take_of_length_le (by rw [upN_len h]; exact Nat.le_refl _)]
theorem upTo_len {r s : List Nt} (h : r.length = s.length) (a : Nat) : (upTo r s a).length = r.length := by
  unfold upTo
  rw [List.length_append, List.length_take, List.length_drop, upN_len h]
  omega
/-- Place a is as it was in r while the first a places alone are done. -/
theorem upTo_at {r s : List Nt} (h : r.length = s.length) (a : Nat) (ha : a < r.length) : (upTo r s a)[a]? = r[a]? := by
  unfold upTo
  rw [List.getElem?_append_right (by rw [List.length_take, upN_len h]; omega), List.length_take, upN_len h, List.getElem?_drop]
  congr 1
  omega
/-- Place a is put right. -/
theorem upTo_succ {r s : List Nt} (h : r.length = s.length) (a : Nat) (ha : a < r.length) : (upTo r s a).set a (nw1 r[a] (s[a]'(by omega))) = upTo r s (a + 1) := by
  apply List.ext_getElem?
  intro j
  have hl := upN_len h
  have hlt : ((upN r s).take a).length = a := by rw [List.length_take, hl]; omega
  have hlt1 : ((upN r s).take (a + 1)).length = a + 1 := by rw [List.length_take, hl]; omega
  rw [List.getElem?_set]
  by_cases hj : a = j
  · subst hj
    rw [if_pos rfl, if_pos (by rw [upTo_len h]; exact ha)]
    unfold upTo
    rw [List.getElem?_append_left (by rw [hlt1]; omega), List.getElem?_take, if_pos (by omega)]
    unfold upN
    rw [List.getElem?_zipWith, List.getElem?_eq_getElem ha, List.getElem?_eq_getElem (by omega : a < s.length)]
  · rw [if_neg hj]
    unfold upTo
    by_cases hlj : j < a
    · rw [List.getElem?_append_left (by rw [hlt]; exact hlj), List.getElem?_append_left (by rw [hlt1]; omega), List.getElem?_take, List.getElem?_take, if_pos hlj, if_pos (by omega)]
    · rw [List.getElem?_append_right (by rw [hlt]; omega), List.getElem?_append_right (by rw [hlt1]; omega), hlt, hlt1, List.getElem?_drop, List.getElem?_drop]
      congr 1
      omega
/-- The row of a node after a step: its neighbours' rows taken over one by one. -/
def stRow (rows : List (List Nt)) (Ni : List Int) (r : List Nt) : List Nt := Ni.foldl (fun r k => upN r (rows.getD k.toNat [])) r
def stAll (rows : List (List Nt)) (N : List (List Int)) : List (List Nt) := (List.range rows.length).map fun i => stRow rows (N.getD i []) (rows.getD i [])
theorem stRow_snoc (rows : List (List Nt)) (Ni : List Int) (j : Nat) (hj : j < Ni.length) (r : List Nt) : stRow rows (Ni.take (j + 1)) r = upN (stRow rows (Ni.take j) r) (rows.getD Ni[j].toNat []) := by
  unfold stRow
  rw [List.take_succ_eq_append_getElem hj, List.foldl_append]; rfl
theorem stRow_len {rows : List (List Nt)} {n : Nat} (hr : ∀ k, k < rows.length → (rows.getD k []).length = n) : ∀ (Ni : List Int) (r : List Nt), (∀ k ∈ Ni, 0 ≤ k ∧ k < (rows.length : Int)) → r.length = n → (stRow rows Ni r).length = n
  | [], r, _, h => h
  | k :: Ni, r, hk, h => by
    have hk0 := hk k (by simp)
    have e : stRow rows (k :: Ni) r = stRow rows Ni (upN r (rows.getD k.toNat [])) := rfl
    rw [e]
    exact stRow_len hr Ni _ (fun q hq => hk q (by simp [hq])) (by rw [upN_len (by rw [h, hr k.toNat (by omega)])]; exact h)
end
section
open Go.RowKit
theorem NtRow.form {w : World} {B g c : Nat} {l : List Nt} (h : NtRow w B g c l) : B ≤ g ∧ g < w.heap.size ∧ l.length ≤ c ∧ (∀ j, w.frozen? ⟨g, j, none⟩ = false) ∧ ∀ a (ha : a < l.length), NtAt w g a l[a] := by
  rcases own_form h with ⟨e, h0⟩ | ⟨g', cap, e, q1, _, q3, q4, q5, q6⟩
  · cases e
  · injection e with e1 e2 e3
    injection e1 with e1
    injection e1 with e1
    subst e1 e3
    refine ⟨q3, q4, q1, q6, fun a ha => ?_⟩
    have hat := ntCells_at l a ha
    refine ⟨?_, ?_, ?_, ?_, q4⟩
    · rw [q5 _ (by omega)]; exact hat 0 (by decide)
    · rw [q5 _ (by omega)]; exact hat 1 (by decide)
    · rw [q5 _ (by omega)]; exact hat 2 (by decide)
    · rw [q5 _ (by omega)]; exact hat 3 (by decide)
theorem NtRow.put {w : World} {B g c : Nat} {l : List Nt} (h : NtRow w B g c l) (a : Nat) (ha : a < l.length) (t : Nt) : NtRow ((((w.setCell ⟨g, a * 4, none⟩ (.int .i64 t.au)).setCell ⟨g, a * 4 + 1, none⟩ (.int .i64 t.no)).setCell ⟨g, a * 4 + 2, none⟩ (.string t.tx)).setCell ⟨g, a * 4 + 3, none⟩ (.int .i64 t.sm)) B g c (l.set a t) := by
  have r1 := (World.ownsRow.stored h (a * 4) (.int .i64 t.au)).1
  have r2 := (World.ownsRow.stored r1 (a * 4 + 1) (.int .i64 t.no)).1
  have r3 := (World.ownsRow.stored r2 (a * 4 + 2) (.string t.tx)).1
  have r4 := (World.ownsRow.stored r3 (a * 4 + 3) (.int .i64 t.sm)).1
  rw [ntCells_set _ _ ha] at r4
  unfold NtRow
  rw [List.length_set]
  exact r4
theorem NtRow.other {w : World} {B g c g' j : Nat} {l : List Nt} (h : NtRow w B g c l) (hne : g ≠ g') (u : Value) : NtRow (w.setCell ⟨g', j, none⟩ u) B g c l :=
  ownsRow_setCell_other h (fun e => hne (by injection e)) u
theorem NtRow.below {w w' : World} {B g c : Nat} {l : List Nt} (h : NtRow w B g c l) (hb : Below w.heap.size w w') : NtRow w' B g c l := own_below h hb
/-- Rows of a list of blocks, owned from B on, in blocks told apart. -/
structure RowsAt (w : World) (B n : Nat) (rows : List (List Nt)) (rb : List (Nat × Nat)) : Prop where
  len : rb.length = rows.length
  row : ∀ k (h : k < rows.length) (h2 : k < rb.length), rows[k].length = n ∧ NtRow w B rb[k].1 rb[k].2 rows[k]
  apart : ∀ i j (h1 : i < rb.length) (h2 : j < rb.length), rb[i].1 = rb[j].1 → i = j
theorem RowsAt.below {w w' : World} {B n : Nat} {rows : List (List Nt)} {rb : List (Nat × Nat)} (h : RowsAt w B n rows rb) (hb : Below w.heap.size w w') : RowsAt w' B n rows rb :=
  ⟨h.len, fun k h1 h2 => ⟨(h.row k h1 h2).1, (h.row k h1 h2).2.below hb⟩, h.apart⟩
theorem RowsAt.other {w : World} {B n g j : Nat} {rows : List (List Nt)} {rb : List (Nat × Nat)} (h : RowsAt w B n rows rb) (hne : ∀ p ∈ rb, p.1 ≠ g) (u : Value) : RowsAt (w.setCell ⟨g, j, none⟩ u) B n rows rb :=
  ⟨h.len, fun k h1 h2 => ⟨(h.row k h1 h2).1, (h.row k h1 h2).2.other (hne _ (List.getElem_mem h2)) u⟩, h.apart⟩
/-- One row more, in a block of its own. -/
theorem RowsAt.snoc {w : World} {B n g c : Nat} {rows : List (List Nt)} {rb : List (Nat × Nat)} {l : List Nt} (h : RowsAt w B n rows rb) (hl : l.length = n) (hr : NtRow w B g c l) (hne : ∀ p ∈ rb, p.1 ≠ g) : RowsAt w B n (rows ++ [l]) (rb ++ [(g, c)]) := by
  have hln := h.len
  refine ⟨by simp [hln], fun k h1 h2 => ?_, fun i j h1 h2 he => ?_⟩
  · by_cases hk : k < rows.length
    · rw [List.getElem_append_left hk, List.getElem_append_left (by omega)]
      exact h.row k hk (by omega)
    · have hk2 : k = rows.length := by simp at h1; omega
      subst hk2
      rw [List.getElem_append_right (Nat.le_refl _), List.getElem_append_right (by omega)]
      simp only [Nat.sub_self, hln, List.getElem_cons_zero]
      exact ⟨hl, hr⟩
  · have k1 : i = rb.length ∨ i < rb.length := by simp at h1; omega
    have k2 : j = rb.length ∨ j < rb.length := by simp at h2; omega
    rcases k1 with rfl | k1
    · rcases k2 with rfl | k2
      · rfl
      · rw [List.getElem_append_right (Nat.le_refl _), List.getElem_append_left k2] at he
        simp only [Nat.sub_self, List.getElem_cons_zero] at he
        exact absurd he.symm (hne _ (List.getElem_mem k2))
    · rcases k2 with rfl | k2
      · rw [List.getElem_append_left k1, List.getElem_append_right (Nat.le_refl _)] at he
        simp only [Nat.sub_self, List.getElem_cons_zero] at he
        exact absurd he (hne _ (List.getElem_mem k1))
      · rw [List.getElem_append_left k1, List.getElem_append_left k2] at he
        exact h.apart i j k1 k2 he
end
section
open Go.RowKit
/-- The rows behind a slice of slices; their lengths and capacities. -/
structure RowAt (w : World) (v : Value) (r : List Int) : Prop where
  ex : ∃ a cap, v = .slice a r.length cap ∧ r.length ≤ cap ∧ IntSlice w a r
def MatSlice (w : World) (a : Option Addr) (L : List (List Int)) : Prop := ∀ k (h : k < L.length), ∃ b off v, a = some ⟨b, off, none⟩ ∧ b < w.heap.size ∧ w.cell? ⟨b, off + k, none⟩ = some v ∧ RowAt w v L[k]
theorem MatSlice.below {B : Nat} {w w' : World} {a : Option Addr} {L : List (List Int)} (h : MatSlice w a L) (hs : w.heap.size ≤ B) (hb : Below B w w') : MatSlice w' a L := by
  intro k hk
  obtain ⟨b, off, v, h1, h2, c0, ⟨a', cap, e, hc, hi⟩⟩ := h k hk
  exact ⟨b, off, v, h1, Nat.lt_of_lt_of_le h2 hb.size, (hb.cell (p := ⟨b, _, none⟩) (Nat.lt_of_lt_of_le h2 hs)).trans c0, ⟨a', cap, e, hc, hi.below hs hb⟩⟩
theorem ix_Row {a : Option Addr} {b off len cap k : Nat} (ha : a = some ⟨b, off, none⟩) (hk : k < len) : ∀ w, (Instr.indexAt 55 (.slice a len cap) (.int .i64 k)).run Tryd.prog w = .ok (.pointer (some ⟨b, off + k, none⟩)) w := by
  intro w
  subst ha
  have h1 : (k : Int) < (len : Int) := by omega
  go_simp
end
section
open Go.RowKit
theorem own_base2 {w : World} {B B' : Nat} {e : TypeId} {sz : Nat} {v : Value} {n : Nat} {xs : List Value} (h : w.ownsRow B e sz v n xs) (hB : B' ≤ B) : w.ownsRow B' e sz v n xs := by
  refine ⟨h.1, ?_⟩
  rcases h.2 with h3 | ⟨g, cap, cur, hv, hg, r⟩
  · exact .inl h3
  · exact .inr ⟨g, cap, cur, hv, Nat.le_trans hB hg, r⟩
theorem own_grown {w w' : World} {B B2 : Nat} {e e2 : TypeId} {sz sz2 : Nat} {v v2 : Value} {n n2 : Nat} {xs xs2 : List Value} (h : w.ownsRow B e sz v n xs) (h2 : w.ownsRow B2 e2 sz2 v2 n2 xs2) (hne : e ≠ e2) (hg : w.grownBy w' v2.ownBlock) : w'.ownsRow B e sz v n xs := by
  refine ⟨h.1, ?_⟩
  rcases h.2 with h3 | ⟨g, cap, cur, hv, hB, hh, r⟩
  · exact .inl h3
  · refine .inr ⟨g, cap, cur, hv, hB, ?_, r⟩
    rw [hg.block g (Array.getElem?_eq_some_iff.1 hh).1 ?_]
    · exact hh
    · intro e1
      obtain ⟨-, c2, hc2⟩ := own_typ h2 g e1.symm
      rw [hh] at hc2
      injection hc2 with hc2
      injection hc2 with _ hc2
      exact hne hc2
def eqRow (l l' : List Nt) : Bool := (l.zip l').all fun p => ntEq p.1 p.2
/-- How many of the first i rows a step changes. -/
def chgTo (rows rows' : List (List Nt)) : Nat → Int
  | 0 => 0
  | i + 1 => chgTo rows rows' i + (if eqRow (rows'.getD i []) (rows.getD i []) = true then 0 else 1)
theorem chgTo_le (rows rows' : List (List Nt)) (i : Nat) : chgTo rows rows' i ≤ (i : Int) := by
  induction i with
  | zero => exact Int.le_refl _
  | succ i ih => show chgTo rows rows' i + _ ≤ _; split <;> omega
theorem chgTo_nn (rows rows' : List (List Nt)) (i : Nat) : 0 ≤ chgTo rows rows' i := by
  induction i with
  | zero => exact Int.le_refl _
  | succ i ih => show 0 ≤ chgTo rows rows' i + _; split <;> omega
def rbV (n : Nat) (rb : List (Nat × Nat)) : List Value := rb.map fun p => .slice (some ⟨p.1, 0, none⟩) n p.2
theorem rbV_snoc (n : Nat) (rb : List (Nat × Nat)) (g c : Nat) : rbV n (rb ++ [(g, c)]) = rbV n rb ++ [.slice (some ⟨g, 0, none⟩) n c] := by simp [rbV]
/-- Inside a step: row r is at work in block g. -/
structure StIn (w wr : World) (v : Value) (i n : Nat) (done : List (List Nt)) (nrb : List (Nat × Nat)) (g cap : Nat) (r : List Nt) : Prop where
  row : NtRow wr w.heap.size g cap r
  rest : RowsAt wr w.heap.size n done nrb
  out : wr.ownsRow w.heap.size 41 1 v i (rbV n nrb)
  below : Below w.heap.size w wr
theorem StIn.kept {w wr w' : World} {v : Value} {i n : Nat} {done : List (List Nt)} {nrb : List (Nat × Nat)} {g cap : Nat} {r : List Nt} (h : StIn w wr v i n done nrb g cap r) (hb : Below wr.heap.size wr w') : StIn w w' v i n done nrb g cap r :=
  ⟨h.row.below hb, h.rest.below hb, own_below h.out hb, h.below.trans (hb.mono h.below.size)⟩
/-- One notice of the row at work is written. -/
theorem StIn.put {w wr : World} {v : Value} {i n : Nat} {done : List (List Nt)} {nrb : List (Nat × Nat)} {g cap : Nat} {r : List Nt} (h : StIn w wr v i n done nrb g cap r) (hne : ∀ p ∈ nrb, p.1 ≠ g) (a : Nat) (ha : a < r.length) (t : Nt) :
    StIn w ((((wr.setCell ⟨g, a * 4, none⟩ (.int .i64 t.au)).setCell ⟨g, a * 4 + 1, none⟩ (.int .i64 t.no)).setCell ⟨g, a * 4 + 2, none⟩ (.string t.tx)).setCell ⟨g, a * 4 + 3, none⟩ (.int .i64 t.sm)) v i n done nrb g cap (r.set a t) := by
  have hg := h.row.form.1
  obtain ⟨-, cur, hc⟩ := own_typ h.row g rfl
  obtain ⟨c1, hc1⟩ := setCell_type hc (a * 4) (.int .i64 t.au)
  obtain ⟨c2, hc2⟩ := setCell_type hc1 (a * 4 + 1) (.int .i64 t.no)
  obtain ⟨c3, hc3⟩ := setCell_type hc2 (a * 4 + 2) (.string t.tx)
  exact ⟨h.row.put a ha t, (((h.rest.other hne _).other hne _).other hne _).other hne _,
    own_set (own_set (own_set (own_set h.out hc (by decide) _ _) hc1 (by decide) _ _) hc2 (by decide) _ _) hc3 (by decide) _ _,
    (((h.below.setCell hg _).setCell hg _).setCell hg _).setCell hg _⟩
/-- The row at work is done: the slice is grown by it. -/
theorem StIn.grown {w wr w' : World} {v v' : Value} {i n : Nat} {done : List (List Nt)} {nrb : List (Nat × Nat)} {g cap : Nat} {r : List Nt} (h : StIn w wr v i n done nrb g cap r) (hne : ∀ p ∈ nrb, p.1 ≠ g) (hr : r.length = n)
    (ho : w'.ownsRow w.heap.size 41 1 v' (i + 1) (rbV n nrb ++ [.slice (some ⟨g, 0, none⟩) n cap])) (hg : wr.grownBy w' v.ownBlock) :
    RowsAt w' w.heap.size n (done ++ [r]) (nrb ++ [(g, cap)]) ∧ w'.ownsRow w.heap.size 41 1 v' (i + 1) (rbV n (nrb ++ [(g, cap)])) ∧ Below w.heap.size w w' := by
  refine ⟨RowsAt.snoc ⟨h.rest.len, fun k h1 h2 => ⟨(h.rest.row k h1 h2).1, ?_⟩, h.rest.apart⟩ hr ?_ hne, ?_, ?_⟩
  · exact own_grown (h.rest.row k h1 h2).2 h.out (by decide) hg
  · exact own_grown h.row h.out (by decide) hg
  · rw [rbV_snoc]; exact ho
  · refine h.below.grown hg h.below.size ?_
    intro q hq
    exact (own_typ h.out q hq).1
end
end Go.Proofs.YtbcehnhiedbbbaaDoor
