/- A net of notices in memory; what keeps it. -/
import Derived.Test.YtbcehnhiedbbbaaDoorWalkCln
import Derived.OneCell
set_option linter.unusedVariables false
set_option linter.unusedSimpArgs false
namespace Go.Proofs.YtbcehnhiedbbbaaDoor
open Go.RowKit
theorem own_typ {w : World} {B : Nat} {e : TypeId} {sz : Nat} {v : Value} {n : Nat} {xs : List Value} (h : w.ownsRow B e sz v n xs) : ∀ k, v.ownBlock = some k → B ≤ k ∧ ∃ cur, w.heap[k]? = some (.cells cur e (0, 0)) := by
  intro k hk
  rcases h.2 with ⟨rfl, -⟩ | ⟨g, cap, cur, rfl, hg, hh, -⟩
  · cases hk
  · injection hk with hk
    subst hk
    exact ⟨hg, cur, hh⟩
/-- A cell of a block of another element type is written: what is owned stays. -/
theorem own_set {w : World} {B : Nat} {e e2 : TypeId} {sz : Nat} {v : Value} {n : Nat} {xs : List Value} (h : w.ownsRow B e sz v n xs) {g : Nat} {cur : Array Value} (hg : w.heap[g]? = some (.cells cur e2 (0, 0))) (hne : e ≠ e2) (j : Nat) (u : Value) : (w.setCell ⟨g, j, none⟩ u).ownsRow B e sz v n xs := by
  refine ownsRow_setCell_other h (fun e1 => ?_) u
  obtain ⟨-, c2, hc2⟩ := own_typ h _ e1
  rw [show (⟨g, j, none⟩ : Addr).block = g from rfl, hg] at hc2
  injection hc2 with hc2
  injection hc2 with _ hc2
  exact hne hc2.symm
structure NetAt (w : World) (B nb : Nat) (vk vn vh : Value) (K : List Int) (N : List (List Int)) (rows : List (List Nt)) (rb : List (Nat × Nat)) : Prop where
  c0 : w.cell? ⟨nb, 0, none⟩ = some vk
  c1 : w.cell? ⟨nb, 1, none⟩ = some vn
  c2 : w.cell? ⟨nb, 2, none⟩ = some vh
  f2 : w.frozen? ⟨nb, 2, none⟩ = false
  ty : ∃ cur, w.heap[nb]? = some (.cells cur 97 (0, 0))
  keys : w.ownsRow B 3 1 vk K.length (icells K)
  near : ∃ xs, w.ownsRow B 39 1 vn N.length xs ∧ ∀ k (h : k < N.length), ∃ v, xs[k]? = some v ∧ w.ownsRow B 3 1 v N[k].length (icells N[k])
  len : rb.length = rows.length
  held : w.ownsRow B 41 1 vh rows.length (rb.map fun p => .slice (some ⟨p.1, 0, none⟩) K.length p.2)
  row : ∀ k (h : k < rows.length) (h2 : k < rb.length), rows[k].length = K.length ∧ NtRow w B rb[k].1 rb[k].2 rows[k]
  apart : ∀ i j (h1 : i < rb.length) (h2 : j < rb.length), rb[i].1 = rb[j].1 → i = j
theorem NetAt.lt {w : World} {B nb : Nat} {vk vn vh : Value} {K : List Int} {N : List (List Int)} {rows : List (List Nt)} {rb : List (Nat × Nat)} (h : NetAt w B nb vk vn vh K N rows rb) : nb < w.heap.size := by
  obtain ⟨cur, hc⟩ := h.ty
  exact (Array.getElem?_eq_some_iff.1 hc).1
theorem NetAt.below {w w' : World} {B nb : Nat} {vk vn vh : Value} {K : List Int} {N : List (List Int)} {rows : List (List Nt)} {rb : List (Nat × Nat)} (h : NetAt w B nb vk vn vh K N rows rb) (hb : Below w.heap.size w w') : NetAt w' B nb vk vn vh K N rows rb := by
  have hl := h.lt
  obtain ⟨c0, c1, c2, f2, ⟨cur, hc⟩, hk, ⟨xs, n1, n2⟩, hln, hh, hr, ha⟩ := h
  exact ⟨(hb.cell (p := ⟨nb, 0, none⟩) hl).trans c0, (hb.cell (p := ⟨nb, 1, none⟩) hl).trans c1, (hb.cell (p := ⟨nb, 2, none⟩) hl).trans c2, (hb.frozen (p := ⟨nb, 2, none⟩) hl).trans f2, ⟨cur, (hb.block nb hl).trans hc⟩, own_below hk hb, ⟨xs, own_below n1 hb, fun k hk => by obtain ⟨v, a, b⟩ := n2 k hk; exact ⟨v, a, own_below b hb⟩⟩, hln, own_below hh hb, fun k h1 h2 => ⟨(hr k h1 h2).1, own_below (hr k h1 h2).2 hb⟩, ha⟩
/-- A notice's four cells are written into its row. -/
theorem ntCells_set (l : List Nt) (a : Nat) (h : a < l.length) (t : Nt) : ((((ntCells l).set (a * 4) (.int .i64 t.au)).set (a * 4 + 1) (.int .i64 t.no)).set (a * 4 + 2) (.string t.tx)).set (a * 4 + 3) (.int .i64 t.sm) = ntCells (l.set a t) := by
  induction l generalizing a with
  | nil => simp at h
  | cons s l ih =>
    rw [show ntCells (s :: l) = ntC s ++ ntCells l by simp [ntCells]]
    cases a with
    | zero => simp [ntCells, ntC]
    | succ a =>
      have h1 : (ntC s).length = 4 := rfl
      have ih := ih a (by simpa using h)
      rw [List.set_cons_succ, show ntCells (s :: l.set a t) = ntC s ++ ntCells (l.set a t) by simp [ntCells], ← ih]
      rw [List.set_append_right _ _ (by rw [h1]; omega), List.set_append_right _ _ (by rw [h1]; omega), List.set_append_right _ _ (by rw [h1]; omega), List.set_append_right _ _ (by rw [h1]; omega), h1]
      rw [show (a + 1) * 4 - 4 = a * 4 by omega, show (a + 1) * 4 + 1 - 4 = a * 4 + 1 by omega, show (a + 1) * 4 + 2 - 4 = a * 4 + 2 by omega, show (a + 1) * 4 + 3 - 4 = a * 4 + 3 by omega]
theorem heap_set {w : World} {g b j : Nat} {u : Value} (h : g ≠ b) : (w.setCell ⟨b, j, none⟩ u).heap[g]? = w.heap[g]? := Below.heap_setCell w ⟨b, j, none⟩ u g (fun e => h e)
theorem setCell_type {w : World} {g : Nat} {cur : Array Value} {e : TypeId} (h : w.heap[g]? = some (.cells cur e (0, 0))) (j : Nat) (u : Value) : ∃ cur', (w.setCell ⟨g, j, none⟩ u).heap[g]? = some (.cells cur' e (0, 0)) := ⟨_, heap_setCell_same w g j cur e u h⟩
/-- One cell of row i's block is written: all but that row is kept. -/
structure NetBut (w : World) (B nb : Nat) (vk vn vh : Value) (K : List Int) (N : List (List Int)) (rows : List (List Nt)) (rb : List (Nat × Nat)) (i : Nat) : Prop where
  c0 : w.cell? ⟨nb, 0, none⟩ = some vk
  c1 : w.cell? ⟨nb, 1, none⟩ = some vn
  c2 : w.cell? ⟨nb, 2, none⟩ = some vh
  f2 : w.frozen? ⟨nb, 2, none⟩ = false
  ty : ∃ cur, w.heap[nb]? = some (.cells cur 97 (0, 0))
  keys : w.ownsRow B 3 1 vk K.length (icells K)
  near : ∃ xs, w.ownsRow B 39 1 vn N.length xs ∧ ∀ k (h : k < N.length), ∃ v, xs[k]? = some v ∧ w.ownsRow B 3 1 v N[k].length (icells N[k])
  held : w.ownsRow B 41 1 vh rows.length (rb.map fun p => .slice (some ⟨p.1, 0, none⟩) K.length p.2)
  row : ∀ k (h : k < rows.length) (h2 : k < rb.length), k ≠ i → rows[k].length = K.length ∧ NtRow w B rb[k].1 rb[k].2 rows[k]
theorem NetBut.set {w : World} {B nb : Nat} {vk vn vh : Value} {K : List Int} {N : List (List Int)} {rows : List (List Nt)} {rb : List (Nat × Nat)} {i : Nat} (h : NetBut w B nb vk vn vh K N rows rb i) (hi : i < rb.length) (ha : ∀ i j (h1 : i < rb.length) (h2 : j < rb.length), rb[i].1 = rb[j].1 → i = j) {cur : Array Value} (hg : w.heap[rb[i].1]? = some (.cells cur 23 (0, 0))) (j : Nat) (u : Value) : NetBut (w.setCell ⟨rb[i].1, j, none⟩ u) B nb vk vn vh K N rows rb i := by
  obtain ⟨c0, c1, c2, f2, ⟨cur2, hc⟩, hk, ⟨xs, n1, n2⟩, hh, hr⟩ := h
  have hne : nb ≠ rb[i].1 := fun e => by
    rw [e, hg] at hc
    injection hc with hc
    injection hc with _ hc
    exact absurd hc (by decide)
  have hcell : ∀ o, (w.setCell ⟨rb[i].1, j, none⟩ u).cell? ⟨nb, o, none⟩ = w.cell? ⟨nb, o, none⟩ := fun o => by
    unfold World.cell?
    rw [show (⟨nb, o, none⟩ : Addr).block = nb from rfl, heap_set hne]
  have hfro : ∀ o, (w.setCell ⟨rb[i].1, j, none⟩ u).frozen? ⟨nb, o, none⟩ = w.frozen? ⟨nb, o, none⟩ := fun o => by
    unfold World.frozen?
    rw [show (⟨nb, o, none⟩ : Addr).block = nb from rfl, heap_set hne]
  refine ⟨(hcell 0).trans c0, (hcell 1).trans c1, (hcell 2).trans c2, (hfro 2).trans f2, ⟨cur2, (heap_set hne).trans hc⟩, own_set hk hg (by decide) j u, ⟨xs, own_set n1 hg (by decide) j u, fun k hk => ?_⟩, own_set hh hg (by decide) j u, fun k h1 h2 hki => ⟨(hr k h1 h2 hki).1, ?_⟩⟩
  · obtain ⟨v, a, b⟩ := n2 k hk
    exact ⟨v, a, own_set b hg (by decide) j u⟩
  · refine ownsRow_setCell_other (hr k h1 h2 hki).2 (fun e => hki ?_) u
    injection e with e
    exact ha k i h2 hi e
theorem NetAt.but {w : World} {B nb : Nat} {vk vn vh : Value} {K : List Int} {N : List (List Int)} {rows : List (List Nt)} {rb : List (Nat × Nat)} (h : NetAt w B nb vk vn vh K N rows rb) (i : Nat) : NetBut w B nb vk vn vh K N rows rb i :=
  ⟨h.c0, h.c1, h.c2, h.f2, h.ty, h.keys, h.near, h.held, fun k h1 h2 _ => h.row k h1 h2⟩
/-- A notice is put into row i at place a. -/
theorem NetAt.put {w : World} {B nb : Nat} {vk vn vh : Value} {K : List Int} {N : List (List Int)} {rows : List (List Nt)} {rb : List (Nat × Nat)} (h : NetAt w B nb vk vn vh K N rows rb) (i a : Nat) (hi : i < rows.length) (hi2 : i < rb.length) (ha : a < K.length) (t : Nt) :
    NetAt ((((w.setCell ⟨rb[i].1, a * 4, none⟩ (.int .i64 t.au)).setCell ⟨rb[i].1, a * 4 + 1, none⟩ (.int .i64 t.no)).setCell ⟨rb[i].1, a * 4 + 2, none⟩ (.string t.tx)).setCell ⟨rb[i].1, a * 4 + 3, none⟩ (.int .i64 t.sm)) B nb vk vn vh K N (rows.set i (rows[i].set a t)) rb := by
  obtain ⟨hlen, hrow⟩ := h.row i hi hi2
  have hb := h.but i
  have hap := h.apart
  have hln := h.len
  obtain ⟨-, cur, hg⟩ := own_typ hrow rb[i].1 rfl
  have b1 := hb.set hi2 hap hg (a * 4) (.int .i64 t.au)
  obtain ⟨cur1, hg1⟩ := setCell_type hg (a * 4) (.int .i64 t.au)
  have b2 := b1.set hi2 hap hg1 (a * 4 + 1) (.int .i64 t.no)
  obtain ⟨cur2, hg2⟩ := setCell_type hg1 (a * 4 + 1) (.int .i64 t.no)
  have b3 := b2.set hi2 hap hg2 (a * 4 + 2) (.string t.tx)
  obtain ⟨cur3, hg3⟩ := setCell_type hg2 (a * 4 + 2) (.string t.tx)
  have b4 := b3.set hi2 hap hg3 (a * 4 + 3) (.int .i64 t.sm)
  have r1 := (World.ownsRow.stored hrow (a * 4) (.int .i64 t.au)).1
  have r2 := (World.ownsRow.stored r1 (a * 4 + 1) (.int .i64 t.no)).1
  have r3 := (World.ownsRow.stored r2 (a * 4 + 2) (.string t.tx)).1
  have r4 := (World.ownsRow.stored r3 (a * 4 + 3) (.int .i64 t.sm)).1
  rw [ntCells_set _ _ (by omega)] at r4
  refine ⟨b4.c0, b4.c1, b4.c2, b4.f2, b4.ty, b4.keys, b4.near, by simpa using hln, by simpa using b4.held, fun k h1 h2 => ?_, hap⟩
  by_cases hk : k = i
  · subst hk
    rw [List.getElem_set_self]
    refine ⟨by simpa using hlen, ?_⟩
    unfold NtRow
    rw [List.length_set]
    exact r4
  · rw [List.getElem_set_ne (by omega)]
    exact b4.row k (by simpa using h1) h2 hk
end Go.Proofs.YtbcehnhiedbbbaaDoor
