/- The contract of spread.Net's Put over the net as one structure. -/
import Derived.Test.YtbcehnhiedbbbaaDoorWalkNat
import Derived.Test.YtbcehnhiedbbbaaDoorWalkPut2
set_option linter.unusedVariables false
set_option linter.unusedSimpArgs false
namespace Go.Proofs.YtbcehnhiedbbbaaDoor
open Go.RowKit
/-- The notice that a node holds of an author. -/
def hold (rows : List (List Nt)) (i a : Nat) : Nt := (rows.getD i []).getD a default
/-- What Put answers. -/
def putE (K : List Int) (rows : List (List Nt)) (node : Int) (t : Nt) : Int :=
  if ¬ (0 ≤ node ∧ node < (rows.length : Int)) then 3
  else if noE t.au t.no t.sm t.tx.data.toList ≠ 0 then noE t.au t.no t.sm t.tx.data.toList
  else if ¬ (0 ≤ t.au ∧ t.au < (K.length : Int)) then 5
  else if (t.sm == noH (K.getD t.au.toNat 0) (noS t.au t.no t.tx.data.toList)) = false then 13
  else if 0 < (hold rows node.toNat t.au.toNat).no ∧ nwF t.no t.tx (hold rows node.toNat t.au.toNat).no (hold rows node.toNat t.au.toNat).tx = false then 9 else 0
/-- The cells that a walk asks of a net. -/
theorem net_slices {w : World} {B nb : Nat} {vk vn vh : Value} {K : List Int} {N : List (List Int)} {rows : List (List Nt)} {rb : List (Nat × Nat)} (h : NetAt w B nb vk vn vh K N rows rb) (hn : 0 < rows.length) :
    ∃ ka kc ob hc, w.cell? ⟨nb, 0, none⟩ = some (.slice ka K.length kc) ∧ w.cell? ⟨nb, 2, none⟩ = some (.slice (some ⟨ob, 0, none⟩) rows.length hc) ∧ ob < w.heap.size ∧
      (∀ a (ha : a < K.length), KeyAt w ka K.length kc a K[a]) ∧
      ∀ i (hi : i < rows.length) (hi2 : i < rb.length), w.cell? ⟨ob, i, none⟩ = some (.slice (some ⟨rb[i].1, 0, none⟩) K.length rb[i].2) ∧ (∀ j, w.frozen? ⟨rb[i].1, j, none⟩ = false) ∧ ∀ a (ha : a < K.length), NtAt w rb[i].1 a (hold rows i a) := by
  have hln := h.len
  have hk : ∃ ka kc, vk = .slice ka K.length kc ∧ ∀ a (ha : a < K.length), KeyAt w ka K.length kc a K[a] := by
    rcases own_form h.keys with ⟨rfl, h0⟩ | ⟨g, cap, rfl, h1, _, _, h4, h5, _⟩
    · exact ⟨none, 0, by rw [h0], fun a ha => by omega⟩
    · refine ⟨_, cap, rfl, fun a ha => ⟨g, 0, rfl, h4, ?_⟩⟩
      rw [Nat.zero_add, h5 a (by omega)]
      simp [icells, ha]
  obtain ⟨ka, kc, rfl, hka⟩ := hk
  rcases own_form h.held with ⟨rfl, h0⟩ | ⟨ob, hc, rfl, h1, _, _, h4, h5, _⟩
  · omega
  · refine ⟨ka, kc, ob, hc, h.c0, h.c2, h4, hka, fun i hi hi2 => ?_⟩
    obtain ⟨hl, hr⟩ := h.row i hi hi2
    rcases own_form hr with ⟨e, h0⟩ | ⟨g, cap, e, q1, _, _, q4, q5, q6⟩
    · cases e
    · injection e with e1 e2 e3
      injection e1 with e1
      injection e1 with e1
      subst e1
      refine ⟨?_, q6, fun a ha => ?_⟩
      · rw [h5 i (by omega)]
        simp [hi2]
      · have hget : hold rows i a = rows[i][a]'(by omega) := by
          unfold hold
          have e1 : rows.getD i [] = rows[i] := by simp [List.getD_eq_getElem?_getD, hi]
          rw [e1]
          have ha2 : a < rows[i].length := by omega
          simp [List.getD_eq_getElem?_getD, ha2]
        rw [hget]
        have hat := ntCells_at rows[i] a (by omega)
        refine ⟨?_, ?_, ?_, ?_, q4⟩
        · rw [q5 _ (by omega)]; exact hat 0 (by decide)
        · rw [q5 _ (by omega)]; exact hat 1 (by decide)
        · rw [q5 _ (by omega)]; exact hat 2 (by decide)
        · rw [q5 _ (by omega)]; exact hat 3 (by decide)
/-- What Put leaves: nothing, or a notice in its place. -/
def PutOut (w w' : World) (K : List Int) (rows : List (List Nt)) (rb : List (Nat × Nat)) (node : Int) (t : Nt) : Prop :=
  (putE K rows node t ≠ 0 ∧ Below w.heap.size w w') ∨ (putE K rows node t = 0 ∧ ∃ (W : World) (i a : Nat) (hi : i < rb.length), node = (i : Int) ∧ t.au = (a : Int) ∧ i < rows.length ∧ a < K.length ∧ Below w.heap.size w W ∧ w' = (((W.setCell ⟨rb[i].1, a * 4, none⟩ (.int .i64 t.au)).setCell ⟨rb[i].1, a * 4 + 1, none⟩ (.int .i64 t.no)).setCell ⟨rb[i].1, a * 4 + 2, none⟩ (.string t.tx)).setCell ⟨rb[i].1, a * 4 + 3, none⟩ (.int .i64 t.sm))
theorem c_PutN {B nb : Nat} {vk vn vh : Value} {K : List Int} {N : List (List Int)} {rows : List (List Nt)} {rb : List (Nat × Nat)} (node : Int) (t : Nt) (w : World) (h : NetAt w B nb vk vn vh K N rows rb) (hT : NTab w) (hn : 0 < rows.length) (hkey : ∀ x ∈ K, keyB x = true) (hsz : t.tx.size ≤ 9223372036854775807) :
    Calls Tryd.prog 24 #[.pointer (some ⟨nb, 0, none⟩), .int .i64 node, .agg #[.int .i64 t.au, .int .i64 t.no, .string t.tx, .int .i64 t.sm]] w fun e w' => e = .returned (.int .i64 (putE K rows node t)) ∧ PutOut w w' K rows rb node t := by
  have hlt := h.lt
  have hln := h.len
  obtain ⟨ka, kc, ob, hc, h0, h2, hob, hK, hR⟩ := net_slices h hn
  by_cases g1 : 0 ≤ node ∧ node < (rows.length : Int)
  · by_cases g2 : noE t.au t.no t.sm t.tx.data.toList = 0
    · by_cases g3 : 0 ≤ t.au ∧ t.au < (K.length : Int)
      · obtain ⟨i, hi⟩ : ∃ i : Nat, node = (i : Int) := ⟨node.toNat, by omega⟩
        obtain ⟨a, ha⟩ : ∃ a : Nat, t.au = (a : Int) := ⟨t.au.toNat, by omega⟩
        have hil : i < rows.length := by omega
        have hal : a < K.length := by omega
        obtain ⟨r1, r2, r3⟩ := hR i hil (by omega)
        have hko := hkey K[a] (List.getElem_mem hal)
        have hkd : K.getD a 0 = K[a] := by simp [List.getD_eq_getElem?_getD, hal]
        have hE : putE K rows node t = if (t.sm == noH K[a] (noS t.au t.no t.tx.data.toList)) = false then 13 else if 0 < (hold rows i a).no ∧ nwF t.no t.tx (hold rows i a).no (hold rows i a).tx = false then 9 else 0 := by
          unfold putE
          rw [if_neg (fun h => h g1), if_neg (fun h => h g2), if_neg (fun h => h g3), hi, ha, Int.toNat_natCast, Int.toNat_natCast, hkd]
        unfold PutOut
        rw [hE]
        clear hE
        subst hi
        rw [ha] at g2 ⊢
        cases hs : (t.sm == noH K[a] (noS (a : Int) t.no t.tx.data.toList)) with
        | false =>
          rw [if_pos rfl]
          exact (c_Put_sign nb ob rows.length hc ka K.length kc (i : Int) a t.no t.tx t.sm K[a] w hT h0 h2 hlt g1 hsz g2 hal (hK a hal) hko hs).mono fun e w' ⟨x1, x2⟩ => ⟨x1, .inl ⟨by decide, x2⟩⟩
        | true =>
          rw [if_neg (by decide)]
          by_cases g5 : 0 < (hold rows i a).no
          · cases hw : nwF t.no t.tx (hold rows i a).no (hold rows i a).tx with
            | false =>
              rw [if_pos ⟨g5, rfl⟩]
              exact (c_Put_order nb ob rows.length hc ka K.length kc i a t.no t.tx t.sm K[a] w hT h0 h2 hlt hil hsz g2 hal (hK a hal) hko hs rb[i].1 rb[i].2 hob r1 (hold rows i a) (r3 a hal) g5 hw).mono fun e w' ⟨x1, x2⟩ => ⟨x1, .inl ⟨by decide, x2⟩⟩
            | true =>
              rw [if_neg (fun h => by cases h.2)]
              exact (c_Put_new nb ob rows.length hc ka K.length kc i a t.no t.tx t.sm K[a] w hT h0 h2 hlt hil hsz g2 hal (hK a hal) hko hs rb[i].1 rb[i].2 hob r1 (hold rows i a) (r3 a hal) g5 hw r2).mono fun e w' ⟨x1, W, x2, x3⟩ => ⟨x1, .inr ⟨rfl, W, i, a, by omega, rfl, rfl, hil, hal, x2, x3⟩⟩
          · rw [if_neg (fun h => g5 h.1)]
            exact (c_Put_first nb ob rows.length hc ka K.length kc i a t.no t.tx t.sm K[a] w hT h0 h2 hlt hil hsz g2 hal (hK a hal) hko hs rb[i].1 rb[i].2 hob r1 (hold rows i a) (r3 a hal) g5 r2).mono fun e w' ⟨x1, W, x2, x3⟩ => ⟨x1, .inr ⟨rfl, W, i, a, by omega, rfl, rfl, hil, hal, x2, x3⟩⟩
      · have hE : putE K rows node t = 5 := by unfold putE; rw [if_neg (fun h => h g1), if_neg (fun h => h g2), if_pos g3]
        unfold PutOut
        rw [hE]
        exact (c_Put_name nb ob rows.length hc ka K.length kc node t.au t.no t.tx t.sm w h0 h2 hlt g1 hsz g2 g3).mono fun e w' ⟨x1, x2⟩ => ⟨x1, .inl ⟨by decide, x2⟩⟩
    · have hE : putE K rows node t = noE t.au t.no t.sm t.tx.data.toList := by unfold putE; rw [if_neg (fun h => h g1), if_pos g2]
      unfold PutOut
      rw [hE]
      exact (c_Put_bad nb ob rows.length hc node t.au t.no t.tx t.sm w h2 hlt g1 hsz g2).mono fun e w' ⟨x1, x2⟩ => ⟨x1, .inl ⟨g2, x2⟩⟩
  · have hE : putE K rows node t = 3 := by unfold putE; rw [if_pos g1]
    unfold PutOut
    rw [hE]
    exact (c_Put_node nb ob rows.length hc node t.au t.no t.tx t.sm w h2 hlt g1).mono fun e w' ⟨x1, x2⟩ => ⟨x1, .inl ⟨by decide, x2⟩⟩
end Go.Proofs.YtbcehnhiedbbbaaDoor
