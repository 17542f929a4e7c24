/- A network's play, in plain Lean: the program's rows and the law's table hold the same. The law's loops of one step, in plain Lean. -/
import Derived.Test.YtbcehnhiedbbbaaDoorSpC
import Derived.Test.YtbcehnhiedbbbaaDoorWalkNew4
set_option linter.unusedVariables false
set_option linter.unusedSimpArgs false
namespace Go.Proofs.YtbcehnhiedbbbaaDoor
section
/-- Rows of n notices each and a table of eight a node hold the same. -/
structure Agr (n nd : Nat) (rows : List (List Nt)) (G : Nat → Nat → Nt) : Prop where
  len : rows.length = nd
  row : ∀ k, k < nd → (rows.getD k []).length = n
  same : ∀ k a, k < nd → a < 8 → G k a = if a < n then hold rows k a else zNt
  nn : ∀ k a, k < nd → a < n → 0 ≤ (hold rows k a).no
theorem agr_start (n nd : Nat) : Agr n nd (List.replicate nd (List.replicate n zNt)) (fun _ _ => zNt) := by
  have hr : ∀ k, k < nd → (List.replicate nd (List.replicate n zNt)).getD k [] = List.replicate n zNt := fun k hk => by
    simp [List.getD_eq_getElem?_getD, hk]
  have hh : ∀ k a, k < nd → a < n → hold (List.replicate nd (List.replicate n zNt)) k a = zNt := fun k a hk ha => by
    unfold hold
    rw [hr k hk]
    simp [List.getD_eq_getElem?_getD, ha]
  refine ⟨by simp, fun k hk => by rw [hr k hk]; simp, fun k a hk _ => ?_, fun k a hk ha => by rw [hh k a hk ha]; decide⟩
  by_cases ha : a < n
  · rw [if_pos ha, hh k a hk ha]
  · rw [if_neg ha]
/-- What the law expects of Put. -/
def lawP (K : List Int) (nd : Nat) (G : Nat → Nat → Nt) (node : Int) (t : Nt) : Int :=
  if (nd : Int) ≤ node then 3
  else if noE t.au t.no t.sm t.tx.data.toList ≠ 0 then noE t.au t.no t.sm t.tx.data.toList
  else if (K.length : Int) ≤ t.au then 5
  else if (t.sm == noH (K.getD t.au.toNat 0) (noS t.au t.no t.tx.data.toList)) = false then 13
  else if nwF t.no t.tx (G node.toNat t.au.toNat).no (G node.toNat t.au.toNat).tx = false then 9 else 0
theorem noE_zero {a n s : Int} {l : List UInt8} (h : noE a n s l = 0) : 0 ≤ a ∧ a < 8 ∧ 1 ≤ n ∧ n ≤ 2147483647 ∧ l.length ≤ 200 := by
  unfold noE at h
  split at h
  · omega
  · split at h
    · omega
    · omega
theorem put_eq {K : List Int} {nd : Nat} {rows : List (List Nt)} {G : Nat → Nat → Nt} (h : Agr K.length nd rows G) (h8 : K.length ≤ 8) (node : Int) (h0 : 0 ≤ node) (t : Nt) : putE K rows node t = lawP K nd G node t := by
  unfold putE lawP
  rw [h.len]
  by_cases h1 : (nd : Int) ≤ node
  · rw [if_pos (by omega), if_pos h1]
  · rw [if_neg (by omega), if_neg h1]
    by_cases h2 : noE t.au t.no t.sm t.tx.data.toList = 0
    · have hn2 : ¬ noE t.au t.no t.sm t.tx.data.toList ≠ 0 := fun h => h h2
      rw [if_neg hn2, if_neg hn2]
      obtain ⟨a0, a1, n0, n1, _⟩ := noE_zero h2
      by_cases h3 : (K.length : Int) ≤ t.au
      · rw [if_pos (by omega), if_pos h3]
      · rw [if_neg (by omega), if_neg h3]
        cases (t.sm == noH (K.getD t.au.toNat 0) (noS t.au t.no t.tx.data.toList)) with
        | false => rfl
        | true =>
          have hn3 : ¬ (true = false) := by decide
          rw [if_neg hn3, if_neg hn3]
          have hs := h.same node.toNat t.au.toNat (by omega) (by omega)
          rw [if_pos (by omega)] at hs
          have hn := h.nn node.toNat t.au.toNat (by omega) (by omega)
          rw [hs]
          by_cases h5 : 0 < (hold rows node.toNat t.au.toNat).no
          · by_cases h6 : nwF t.no t.tx (hold rows node.toNat t.au.toNat).no (hold rows node.toNat t.au.toNat).tx = false
            · rw [if_pos ⟨h5, h6⟩, if_pos h6]
            · rw [if_neg (fun h => h6 h.2), if_neg h6]
          · rw [if_neg (fun h => h5 h.1), if_neg]
            unfold nwF
            rw [if_neg (by omega), decide_eq_true (by omega)]
            decide
    · have hn2 : noE t.au t.no t.sm t.tx.data.toList ≠ 0 := h2
      rw [if_pos hn2, if_pos hn2]
theorem hold_set {rows : List (List Nt)} {i a : Nat} (hi : i < rows.length) (ha : a < rows[i].length) (t : Nt) (k b : Nat) : hold (rows.set i (rows[i].set a t)) k b = if k = i ∧ b = a then t else hold rows k b := by
  unfold hold
  simp only [List.getD_eq_getElem?_getD]
  rw [List.getElem?_set]
  by_cases hk : i = k
  · subst hk
    rw [if_pos rfl, if_pos hi, List.getElem?_eq_getElem hi, Option.getD_some, Option.getD_some, List.getElem?_set]
    by_cases hb : a = b
    · subst hb
      rw [if_pos rfl, if_pos ha, if_pos ⟨rfl, rfl⟩]; rfl
    · rw [if_neg hb, if_neg (fun e => hb e.2.symm)]
  · rw [if_neg hk, if_neg (fun e => hk e.1.symm)]
/-- A notice is put. -/
theorem Agr.put {n nd : Nat} {rows : List (List Nt)} {G : Nat → Nat → Nt} (h : Agr n nd rows G) {i a : Nat} (hi : i < rows.length) (ha : a < n) (h8 : n ≤ 8) (t : Nt) (ht : 0 ≤ t.no) : Agr n nd (rows.set i (rows[i].set a t)) (updG G i a t) := by
  have hl := h.len
  have hri : rows[i].length = n := by
    have := h.row i (by omega)
    simpa [List.getD_eq_getElem?_getD, hi] using this
  have hs := hold_set hi (by omega : a < rows[i].length) t
  refine ⟨by simp [hl], fun k hk => ?_, fun k b hk hb => ?_, fun k b hk hb => ?_⟩
  · have := h.row k hk
    simp only [List.getD_eq_getElem?_getD, List.getElem?_set] at this ⊢
    by_cases e : i = k
    · subst e
      rw [if_pos rfl, if_pos hi]
      simp [hri]
    · rw [if_neg e]; exact this
  · unfold updG
    by_cases e : k = i ∧ b = a
    · rw [if_pos e, if_pos (by omega), hs, if_pos e]
    · rw [if_neg e, h.same k b hk hb]
      by_cases hbn : b < n
      · rw [if_pos hbn, if_pos hbn, hs, if_neg e]
      · rw [if_neg hbn, if_neg hbn]
  · rw [hs]
    split
    · exact ht
    · exact h.nn k b hk hb
/-- The table after a step. -/
def stG (E : List Ed) (G : Nat → Nat → Nt) : Nat → Nat → Nt := fun i => stpL (fun j => G j.toNat) E (i : Int)
/-- How many of the first i nodes a step changes. -/
def chgL (G G' : Nat → Nat → Nt) : Nat → Int
  | 0 => 0
  | i + 1 => chgL G G' i + (if eq8 (G' i) (G i) = true then 0 else 1)
theorem chgL_le (G G' : Nat → Nat → Nt) (i : Nat) : chgL G G' i ≤ (i : Int) := by
  induction i with
  | zero => exact Int.le_refl _
  | succ i ih => show chgL G G' i + _ ≤ _; split <;> omega
theorem chgL_nn (G G' : Nat → Nat → Nt) (i : Nat) : 0 ≤ chgL G G' i := by
  induction i with
  | zero => exact Int.le_refl _
  | succ i ih => show 0 ≤ chgL G G' i + _; split <;> omega
def toF (n : Nat) (r : List Nt) : Nat → Nt := fun a => if a < n then r.getD a default else zNt
theorem toF_up {n : Nat} {r s : List Nt} (hr : r.length = n) (hs : s.length = n) (a : Nat) : toF n (upN r s) a = upR (toF n r) (toF n s) a := by
  unfold toF upR
  by_cases ha : a < n
  · simp only [if_pos ha]
    unfold upN
    simp only [List.getD_eq_getElem?_getD]
    rw [List.getElem?_zipWith, List.getElem?_eq_getElem (by omega : a < r.length), List.getElem?_eq_getElem (by omega : a < s.length)]
    rfl
  · simp only [if_neg ha]
    split <;> rfl
theorem fold_up {n nd : Nat} {rows : List (List Nt)} {G : Nat → Nat → Nt} (h : Agr n nd rows G) : ∀ (L : List Int) (r : Nat → Nt) (rl : List Nt), (∀ k ∈ L, 0 ≤ k ∧ k < (nd : Int)) → rl.length = n → (∀ a, a < 8 → r a = toF n rl a) →
    (stRow rows L rl).length = n ∧ ∀ a, a < 8 → (L.foldl (fun r k => upR r (G k.toNat)) r) a = toF n (stRow rows L rl) a
  | [], r, rl, _, hl, hr => ⟨hl, hr⟩
  | k :: L, r, rl, hk, hl, hr => by
    obtain ⟨k0, k1⟩ := hk k (by simp)
    have hrow := h.row k.toNat (by omega)
    have e : stRow rows (k :: L) rl = stRow rows L (upN rl (rows.getD k.toNat [])) := rfl
    rw [e, List.foldl_cons]
    refine fold_up h L _ _ (fun q hq => hk q (by simp [hq])) (by rw [upN_len (by omega)]; exact hl) (fun a ha => ?_)
    rw [toF_up hl hrow]
    unfold upR
    have hs : G k.toNat a = toF n (rows.getD k.toNat []) a := h.same k.toNat a (by omega) ha
    rw [hr a ha, hs]
theorem near_in {E : List Ed} {nd : Nat} (hE : ∀ x ∈ E, edOk nd x) (i : Int) : ∀ k ∈ nearL E i, 0 ≤ k ∧ k < (nd : Int) := by
  intro k hk
  unfold nearL at hk
  obtain ⟨e, he, hke⟩ := List.mem_flatMap.1 hk
  have h := hE e he
  split at hke
  · simp at hke; subst hke; exact h.2
  · split at hke
    · simp at hke; subst hke; exact h.1
    · simp at hke
theorem nearN_at (E : List Ed) (nd i : Nat) (hi : i < nd) : ((List.range nd).map fun i : Nat => nearL E (i : Int)).getD i [] = nearL E (i : Int) := by
  simp [List.getD_eq_getElem?_getD, hi]
theorem stAll_at (rows : List (List Nt)) (N : List (List Int)) (i : Nat) (hi : i < rows.length) : (stAll rows N).getD i [] = stRow rows (N.getD i []) (rows.getD i []) := by
  unfold stAll
  simp [List.getD_eq_getElem?_getD, hi]
/-- One node of a step. -/
theorem step_at {n nd : Nat} {rows : List (List Nt)} {G : Nat → Nat → Nt} (h : Agr n nd rows G) {E : List Ed} (hE : ∀ x ∈ E, edOk nd x) (i : Nat) (hi : i < nd) :
    ((stAll rows ((List.range nd).map fun i : Nat => nearL E (i : Int))).getD i []).length = n ∧ ∀ a, a < 8 → stG E G i a = toF n ((stAll rows ((List.range nd).map fun i : Nat => nearL E (i : Int))).getD i []) a := by
  have hl := h.len
  rw [stAll_at rows _ i (by omega), nearN_at E nd i hi]
  have h1 := fold_up h (nearL E (i : Int)) (G i) (rows.getD i []) (near_in hE i) (h.row i hi) (fun a ha => h.same i a hi ha)
  refine ⟨h1.1, fun a ha => ?_⟩
  rw [← h1.2 a ha]
  unfold stG
  rw [← stp_eq]
  rfl
theorem nwF_nn {n0 n1 : Int} {t0 t1 : ByteArray} (h : nwF n0 t0 n1 t1 = true) (h1 : 0 ≤ n1) : 0 ≤ n0 := by
  unfold nwF at h
  split at h
  · omega
  · have := of_decide_eq_true h; omega
theorem fold_nn {nd : Nat} {H : Nat → Nat → Nt} (hH : ∀ k a, k < nd → 0 ≤ (H k a).no) : ∀ (L : List Int) (r : Nat → Nt), (∀ k ∈ L, 0 ≤ k ∧ k < (nd : Int)) → (∀ a, 0 ≤ (r a).no) → ∀ a, 0 ≤ ((L.foldl (fun r k => upR r (H k.toNat)) r) a).no
  | [], _, _, hr, a => hr a
  | k :: L, r, hk, hr, a => by
    rw [List.foldl_cons]
    obtain ⟨k0, k1⟩ := hk k (by simp)
    refine fold_nn hH L _ (fun q hq => hk q (by simp [hq])) (fun b => ?_) a
    unfold upR
    split
    · exact hH _ _ (by omega)
    · exact hr b
theorem Agr.step {n nd : Nat} {rows : List (List Nt)} {G : Nat → Nat → Nt} (h : Agr n nd rows G) (h8 : n ≤ 8) {E : List Ed} (hE : ∀ x ∈ E, edOk nd x) : Agr n nd (stAll rows ((List.range nd).map fun i : Nat => nearL E (i : Int))) (stG E G) := by
  have hl := h.len
  have hat := fun i hi => step_at h hE i hi
  refine ⟨by simp [stAll, hl], fun k hk => (hat k hk).1, fun k a hk ha => ?_, fun k a hk ha => ?_⟩
  · rw [(hat k hk).2 a ha]; rfl
  · have h1 := (hat k hk).2 a (by omega)
    have h2 : toF n ((stAll rows ((List.range nd).map fun i : Nat => nearL E (i : Int))).getD k []) a = hold (stAll rows ((List.range nd).map fun i : Nat => nearL E (i : Int))) k a := by unfold toF hold; rw [if_pos ha]
    rw [← h2, ← h1]
    let H : Nat → Nat → Nt := fun k a => if a < 8 then G k a else zNt
    have hH : ∀ k a, k < nd → 0 ≤ (H k a).no := fun k a hk => by
      show 0 ≤ (if a < 8 then G k a else zNt).no
      split
      · rw [h.same k a hk (by assumption)]
        split
        · exact h.nn k a hk (by assumption)
        · decide
      · decide
    have key : ∀ (L : List Int) (r r' : Nat → Nt), (∀ a, a < 8 → r a = r' a) → ∀ a, a < 8 → (L.foldl (fun r k => upR r (G k.toNat)) r) a = (L.foldl (fun r k => upR r (H k.toNat)) r') a := by
      intro L
      induction L with
      | nil => intro r r' hr a ha; exact hr a ha
      | cons q L ih =>
        intro r r' hr a ha
        rw [List.foldl_cons, List.foldl_cons]
        refine ih _ _ (fun b hb => ?_) a ha
        unfold upR
        rw [hr b hb, show H q.toNat b = G q.toNat b from if_pos hb]
    have h3 : stG E G k a = ((nearL E (k : Int)).foldl (fun r k => upR r (G k.toNat)) (G k)) a := by
      unfold stG
      rw [← stp_eq]
      rfl
    rw [h3, key _ (G k) (H k) (fun b hb => (if_pos hb).symm) a (by omega)]
    exact fold_nn hH _ _ (near_in hE k) (fun b => hH k b hk) a
theorem ntEq_self (t : Nt) : ntEq t t = true := by unfold ntEq; simp
theorem eqRow_eq8 {n : Nat} {l l' : List Nt} {r r' : Nat → Nt} (h8 : n ≤ 8) (hl : l.length = n) (hl' : l'.length = n) (hr : ∀ a, a < 8 → r a = toF n l a) (hr' : ∀ a, a < 8 → r' a = toF n l' a) : eqRow l l' = eq8 r r' := by
  rw [Bool.eq_iff_iff]
  unfold eqRow eq8
  rw [List.all_eq_true, List.all_eq_true]
  constructor
  · intro h a ha
    have ha8 := List.mem_range.1 ha
    rw [hr a ha8, hr' a ha8]
    unfold toF
    by_cases han : a < n
    · rw [if_pos han, if_pos han]
      have hz : a < (l.zip l').length := by rw [List.length_zip]; omega
      have := h _ (List.getElem_mem hz)
      rw [List.getElem_zip] at this
      simpa [List.getD_eq_getElem?_getD, (by omega : a < l.length), (by omega : a < l'.length)] using this
    · rw [if_neg han, if_neg han]
      exact ntEq_self _
  · intro h p hp
    obtain ⟨j, hj, rfl⟩ := List.getElem_of_mem hp
    have hjl : j < l.length ∧ j < l'.length := by rw [List.length_zip] at hj; omega
    have := h j (List.mem_range.2 (by omega))
    rw [hr j (by omega), hr' j (by omega)] at this
    unfold toF at this
    rw [if_pos (by omega), if_pos (by omega)] at this
    rw [List.getElem_zip]
    simpa [List.getD_eq_getElem?_getD, hjl.1, hjl.2] using this
/-- Both count the same changes. -/
theorem chg_eq {n nd : Nat} {rows : List (List Nt)} {G : Nat → Nat → Nt} (h : Agr n nd rows G) (h8 : n ≤ 8) {E : List Ed} (hE : ∀ x ∈ E, edOk nd x) : ∀ i, i ≤ nd → chgTo rows (stAll rows ((List.range nd).map fun i : Nat => nearL E (i : Int))) i = chgL G (stG E G) i
  | 0, _ => rfl
  | i + 1, hi => by
    show chgTo rows _ i + _ = chgL G _ i + _
    rw [chg_eq h h8 hE i (by omega)]
    obtain ⟨h1, h2⟩ := step_at h hE i (by omega)
    rw [eqRow_eq8 h8 h1 (h.row i (by omega)) h2 (fun a ha => h.same i a (by omega) ha)]
end
section
/-- The first k nodes have stepped. -/
def curG (E : List Ed) (G : Nat → Nat → Nt) (k : Nat) : Nat → Nat → Nt := fun i => if i < k then stG E G i else G i
/-- Node k behind the first j edges. -/
def rowJ (E : List Ed) (G : Nat → Nat → Nt) (k j : Nat) : Nat → Nt := (E.take j).foldl (stpE (fun q => G q.toNat) (k : Int)) (G k)
/-- One direction of an edge. -/
def half (G : Nat → Nat → Nt) (k : Nat) (r : Nat → Nt) (src dst : Int) : Nat → Nt := if dst = (k : Int) then upR r (G src.toNat) else r
def nextG (E : List Ed) (G : Nat → Nat → Nt) (k : Nat) (r : Nat → Nt) : Nat → Nat → Nt := fun i => if i = k then r else curG E G k i
/-- The first a places are put right. -/
def mixR (r s : Nat → Nt) (a : Nat) : Nat → Nt := fun b => if b < a then s b else r b
/-- Behind direction kk. -/
def rowS (G : Nat → Nat → Nt) (k : Nat) (r : Nat → Nt) (p q kk : Int) : Nat → Nt := if kk = 0 then r else if kk = 1 then half G k r p q else half G k (half G k r p q) q p
section
variable {E : List Ed} {G : Nat → Nat → Nt} {k : Nat}
theorem cur_zero : curG E G 0 = G := by funext i; unfold curG; rw [if_neg (Nat.not_lt_zero i)]
theorem next_zero (i : Nat) : nextG E G k (rowJ E G k 0) i = curG E G k i := by
  unfold nextG
  by_cases h : i = k
  · subst h
    rw [if_pos rfl]
    unfold rowJ curG
    rw [if_neg (Nat.lt_irrefl _)]; rfl
  · rw [if_neg h]
theorem row_succ (j : Nat) (hj : j < E.length) (p q : Int) (he : E[j] = ⟨p, q⟩) : rowJ E G k (j + 1) = rowS G k (rowJ E G k j) p q 2 := by
  unfold rowJ rowS half
  rw [List.take_succ_eq_append_getElem hj, List.foldl_append, he]
  rw [List.foldl_cons, List.foldl_nil]
  generalize (E.take j).foldl (stpE (fun q => G q.toNat) (k : Int)) (G k) = r
  unfold stpE
  dsimp only
  by_cases h1 : p = (k : Int)
  · by_cases h2 : q = (k : Int) <;> simp [h1, h2]
  · by_cases h2 : q = (k : Int) <;> simp [h1, h2]
theorem row_all : rowJ E G k E.length = stG E G k := by
  unfold rowJ stG stpL
  rw [List.take_of_length_le (Nat.le_refl _)]
  show _ = List.foldl _ (G ((k : Int).toNat)) E
  rw [Int.toNat_natCast]
theorem next_cur (i : Nat) : nextG E G k (stG E G k) i = curG E G (k + 1) i := by
  unfold nextG curG
  by_cases h : i = k
  · subst h; rw [if_pos rfl, if_pos (Nat.lt_succ_self _)]
  · rw [if_neg h]
    by_cases h2 : i < k
    · rw [if_pos h2, if_pos (by omega)]
    · rw [if_neg h2, if_neg (by omega)]
theorem mix_zero (r s : Nat → Nt) : mixR r s 0 = r := by funext b; unfold mixR; rw [if_neg (Nat.not_lt_zero b)]
theorem mix_all (r s : Nat → Nt) (i b : Nat) (hb : b < 8) : nextG E G k (mixR r s 8) i b = nextG E G k s i b := by
  unfold nextG
  split
  · unfold mixR; rw [if_pos hb]
  · rfl
theorem mix_at (r s : Nat → Nt) (a : Nat) : nextG E G k (mixR r s a) k a = r a := by
  unfold nextG mixR
  rw [if_pos rfl, if_neg (Nat.lt_irrefl a)]
theorem mix_yes (r : Nat → Nt) (src dst : Int) (a : Nat) (hd : dst = (k : Int)) (hn : nwF (G src.toNat a).no (G src.toNat a).tx (r a).no (r a).tx = true) (i b : Nat) :
    updG (nextG E G k (mixR r (half G k r src dst) a)) k a (G src.toNat a) i b = nextG E G k (mixR r (half G k r src dst) (a + 1)) i b := by
  unfold updG nextG mixR
  by_cases h : i = k
  · subst h
    by_cases h2 : b = a
    · subst h2
      rw [if_pos ⟨rfl, rfl⟩, if_pos rfl, if_pos (Nat.lt_succ_self _)]
      unfold half
      rw [if_pos hd]
      unfold upR
      rw [if_pos hn]
    · rw [if_neg (fun e => h2 e.2), if_pos rfl, if_pos rfl]
      by_cases h3 : b < a
      · rw [if_pos h3, if_pos (by omega)]
      · rw [if_neg h3, if_neg (by omega)]
  · rw [if_neg (fun e => h e.1), if_neg h, if_neg h]
theorem mix_no (r : Nat → Nt) (src dst : Int) (a : Nat) (h0 : dst = (k : Int) → nwF (G src.toNat a).no (G src.toNat a).tx (r a).no (r a).tx = false) (i b : Nat) :
    nextG E G k (mixR r (half G k r src dst) a) i b = nextG E G k (mixR r (half G k r src dst) (a + 1)) i b := by
  unfold nextG mixR
  by_cases h : i = k
  · rw [if_pos h, if_pos h]
    by_cases h3 : b < a
    · rw [if_pos h3, if_pos (by omega)]
    · rw [if_neg h3]
      by_cases h2 : b = a
      · subst h2
        rw [if_pos (Nat.lt_succ_self _)]
        unfold half
        by_cases hd : dst = (k : Int)
        · rw [if_pos hd]
          unfold upR
          rw [h0 hd]
          rfl
        · rw [if_neg hd]
      · rw [if_neg (by omega)]
  · rw [if_neg h, if_neg h]
theorem rowS_zero (r : Nat → Nt) (p q : Int) : rowS G k r p q 0 = r := if_pos rfl
theorem rowS_one (r : Nat → Nt) (p q : Int) : half G k (rowS G k r p q 0) p q = rowS G k r p q 1 := by unfold rowS; rw [if_pos rfl, if_neg (by decide), if_pos rfl]
theorem rowS_two (r : Nat → Nt) (p q : Int) : half G k (rowS G k r p q 1) q p = rowS G k r p q 2 := by unfold rowS; rw [if_neg (by decide), if_pos rfl, if_neg (by decide), if_neg (by decide)]
end
end
end Go.Proofs.YtbcehnhiedbbbaaDoor
