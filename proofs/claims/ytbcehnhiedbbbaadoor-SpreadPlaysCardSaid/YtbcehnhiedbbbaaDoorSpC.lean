/- A net of notices while spread.New makes it: what an append to a node's neighbours keeps. The law's table of what nodes hold: a slice of arrays of eight notices. -/
import Derived.Test.YtbcehnhiedbbbaaDoorSpB
import Derived.Laws.OwnMore
import Derived.Maps.AppendAt
import Derived.RegionTactic
import Derived.ChangeKeysEq
import Derived.Deep.MidRow
set_option linter.unusedVariables false
set_option linter.unusedSimpArgs false
namespace Go.Proofs.YtbcehnhiedbbbaaDoor
section
open Go.RowKit
/-- An append of an own slice: the old slice reads as it did. -/
theorem run_append_old {P : Program} (w : World) (base : Nat) (t ty e : TypeId) (i : TypeInfo) (z : Value) (size bytes : Nat) (ht : P.underlying t = some (.slice e)) (hi : P.info? e = some i) (hz : i.zero = some z)
    (hsize : i.size = size) (hby : i.bytes = bytes) (hzs : z.cells.size = size) (hsz : 0 < size)
    (v : Value) (n : Nat) (xs : List Value) (hown : w.ownsRow base e size v n xs)
    (a : Addr) (m c : Nat) (news : List Value) (hl : news.length = m * size) (hnews : ∀ j u, news[j]? = some u → w.cell? (a.add j) = some u) (h1 : ∀ u ∈ news, u.oneCell' = true)
    (h63 : n + m ≤ maxLen) (hbytes : (n + m) * bytes ≤ 140737488355328) (hbase : base ≤ w.heap.size) (hm : 0 < m) :
    ∃ g cap w', (Builtin.append_ #[t, t] ty #[v, .slice (some a) m c]).run P w = .ok (.slice (some ⟨g, 0, none⟩) (n + m) cap) w' ∧ w'.ownsRow base e size (.slice (some ⟨g, 0, none⟩) (n + m) cap) (n + m) (xs ++ news) ∧ w'.ownsRow base e size v n xs ∧ w.grownBy w' v.ownBlock ∧
      (v.ownBlock = some g ∨ g = w.heap.size) := by
  obtain ⟨v', w', hr, h2, h3, h4, h5⟩ := run_append_own_at (P := P) w base t ty e i z size bytes ht hi hz hsize hby hzs hsz v n xs hown a m c news hl hnews h1 h63 hbytes hbase
  have hold : w'.ownsRow base e size v n xs := by
    subst hsize
    subst hby
    have hsmall : n + m ≤ 9223372036854775807 := by simp only [maxLen] at h63; omega
    rcases hown.2 with ⟨rfl, h0⟩ | ⟨g, cap, cur, rfl, hbg, hg, hnc, hcm, hcs, htake⟩
    · exact ⟨hown.1, .inl ⟨rfl, h0⟩⟩
    · by_cases hroom : n + m ≤ cap
      · obtain ⟨w2, hr2, hn2, -⟩ := run_append_fits (P := P) w base t ty e i i.size ht hi rfl g n cap xs hown a m c news hl hnews h1 hroom
        rw [hr] at hr2
        injection hr2 with e1 e2
        subst e2
        rcases hn2.2 with ⟨q, _⟩ | ⟨g', cap', cur', q, r1, r2, r3, r4, r5, r6⟩
        · cases q
        · simp only [Value.slice.injEq, Option.some.injEq, Addr.mk.injEq, and_true, true_and] at q
          obtain ⟨rfl, rfl⟩ := q
          refine ⟨hown.1, .inr ⟨g, cap, cur', rfl, hbg, r2, by omega, hcm, r5, ?_⟩⟩
          have h9 := congrArg (List.take (n * i.size)) r6
          rw [List.take_take, Nat.min_eq_left (Nat.mul_le_mul_right _ (by omega)), ← hown.1, List.take_left] at h9
          rw [← hown.1]; exact h9
      · have holds : ∀ j u, xs[j]? = some u → w.cell? ((⟨g, 0, none⟩ : Addr).add j) = some u := hown.cells (g := g) rfl
        have hr2 := run_append_grow (P := P) w t ty e i z ht hi hz ⟨g, 0, none⟩ n cap xs hown.1 holds a m c news hl hnews (by omega) (by omega) (growslice_fits (by omega) hbytes)
        rw [hr] at hr2
        injection hr2 with e1 e2
        subst e2
        have hlt : g < w.heap.size := (Array.getElem?_eq_some_iff.1 hg).1
        exact ⟨hown.1, .inr ⟨g, cap, cur, rfl, hbg, (heap_alloc_old w.drew _ hlt).trans hg, hnc, hcm, hcs, htake⟩⟩
  rcases h2.2 with ⟨rfl, h0⟩ | ⟨g, cap, cur, rfl, hbg, hg, hnc, hcm, hcs, htake⟩
  · omega
  · refine ⟨g, cap, w', hr, h2, hold, h3, ?_⟩
    rcases h5 with h5 | h5
    · left; rw [← h5]; rfl
    · right; injection h5
/-- At a step of a region that draws its order. -/
theorem step_append_old {P : Program} {w : World} {ops : Array Oper} {o : Oper} {a : Act} {K : Act → World → Prop} {Q : Exit → Act → World → Prop} {E : Prop} (hgd : o.guard = none) (s x : Operand) (t : TypeId)
    (ho : o.op = .call { callee := .builtin .append, args := #[s, x], argTypes := #[t, t] })
    (base : Nat) (e : TypeId) (i : TypeInfo) (z : Value) (size bytes : Nat) (ht : P.underlying t = some (.slice e)) (hi : P.info? e = some i) (hz : i.zero = some z)
    (hsize : i.size = size) (hby : i.bytes = bytes) (hzs : z.cells.size = size) (hsz : 0 < size)
    (v : Value) (n : Nat) (xs : List Value) (hs : a.eval s = v) (hown : w.ownsRow base e size v n xs)
    (ad : Addr) (m c : Nat) (news : List Value) (hx : a.eval x = .slice (some ad) m c) (hl : news.length = m * size) (hnews : ∀ j u, news[j]? = some u → w.cell? (ad.add j) = some u) (h1 : ∀ u ∈ news, u.oneCell' = true)
    (hm : 0 < m) (h63 : n + m ≤ maxLen) (hbytes : (n + m) * bytes ≤ 140737488355328) (hbase : base ≤ w.heap.size)
    (h : ∀ g cap w', w'.ownsRow base e size (.slice (some ⟨g, 0, none⟩) (n + m) cap) (n + m) (xs ++ news) → w'.ownsRow base e size v n xs → w.grownBy w' v.ownBlock → (v.ownBlock = some g ∨ g = w.heap.size) → K (a.put o.dst (.slice (some ⟨g, 0, none⟩) (n + m) cap)) w') :
    if Region.wanted o (yielded ops a.tmps) = true then Oper.wp P o a w K Q else E := by
  have hw : Region.wanted o (yielded ops a.tmps) = true := by simp [Region.wanted, hgd]
  rw [if_pos hw]
  obtain ⟨g, cap, w', hr, h2, h3, h4, h5⟩ := run_append_old (P := P) w base t o.type e i z size bytes ht hi hz hsize hby hzs hsz v n xs hown ad m c news hl hnews h1 h63 hbytes hbase hm
  unfold Oper.wp execOp
  simp only [ho, resolve, invoke, builtin, Sem.run_bind, Sem.run_pure, Result.andThen_ok, List.map_toArray, List.map_cons, List.map_nil, hs, hx, hr]
  exact h g cap w' h2 h3 h4 h5
/-- The net in block nb, its neighbours' slices in block ob: node i has the neighbours f i. -/
structure NwAt (w : World) (B nb ob : Nat) (vk vh : Value) (K : List Int) (nd : Nat) (f : Nat → List Int) (xs : List Value) : Prop where
  c0 : w.cell? ⟨nb, 0, none⟩ = some vk
  c1 : w.cell? ⟨nb, 1, none⟩ = some (.slice (some ⟨ob, 0, none⟩) nd nd)
  c2 : w.cell? ⟨nb, 2, none⟩ = some vh
  f2 : w.frozen? ⟨nb, 2, none⟩ = false
  ty : ∃ cur, w.heap[nb]? = some (.cells cur 97 (0, 0))
  keys : w.ownsRow B 3 1 vk K.length (icells K)
  near : w.ownsRow B 39 1 (.slice (some ⟨ob, 0, none⟩) nd nd) nd xs
  row : ∀ i, i < nd → ∃ v, xs[i]? = some v ∧ w.ownsRow B 3 1 v (f i).length (icells (f i))
  ak : ∀ (i : Nat) (v : Value), xs[i]? = some v → ∀ b, v.ownBlock = some b → vk.ownBlock ≠ some b
  ap : ∀ (i j : Nat) (v u : Value), i ≠ j → xs[i]? = some v → xs[j]? = some u → ∀ b, v.ownBlock = some b → u.ownBlock ≠ some b
section
variable {w w' : World} {B nb ob : Nat} {vk vh : Value} {K : List Int} {nd : Nat} {f : Nat → List Int} {xs : List Value}
theorem NwAt.lt (h : NwAt w B nb ob vk vh K nd f xs) : nb < w.heap.size := by
  obtain ⟨cur, hc⟩ := h.ty
  exact (Array.getElem?_eq_some_iff.1 hc).1
theorem NwAt.kept (h : NwAt w B nb ob vk vh K nd f xs) (hb : Below w.heap.size w w') : NwAt w' B nb ob vk vh K nd f xs := by
  have hl := h.lt
  obtain ⟨c0, c1, c2, f2, ⟨cur, hc⟩, hk, hn, hr, ak, ap⟩ := h
  exact ⟨(hb.cell (p := ⟨nb, 0, none⟩) hl).trans c0, (hb.cell (p := ⟨nb, 1, none⟩) hl).trans c1, (hb.cell (p := ⟨nb, 2, none⟩) hl).trans c2, (hb.frozen (p := ⟨nb, 2, none⟩) hl).trans f2, ⟨cur, (hb.block nb hl).trans hc⟩, own_below hk hb, own_below hn hb,
    fun i hi => by obtain ⟨v, a, b⟩ := hr i hi; exact ⟨v, a, own_below b hb⟩, ak, ap⟩
/-- What is owned in another block than the one that is grown stays. -/
theorem own_apart {e : TypeId} {sz n : Nat} {v : Value} {ys : List Value} (h : w.ownsRow B e sz v n ys) {r : Option Nat} (hg : w.grownBy w' r) (hne : ∀ b, v.ownBlock = some b → r ≠ some b) : w'.ownsRow B e sz v n ys := by
  refine ⟨h.1, ?_⟩
  rcases h.2 with h3 | ⟨g, cap, cur, hv, hB, hh, r5⟩
  · exact .inl h3
  · refine .inr ⟨g, cap, cur, hv, hB, ?_, r5⟩
    rw [hg.block g (Array.getElem?_eq_some_iff.1 hh).1 (fun e1 => hne g (by rw [hv]; rfl) e1.symm)]
    exact hh
theorem type_apart {e e2 : TypeId} {sz n : Nat} {v : Value} {ys : List Value} (h : w.ownsRow B e sz v n ys) (hg : w.grownBy w' v.ownBlock) {k : Nat} {cur : Array Value} (hk : w.heap[k]? = some (.cells cur e2 (0, 0))) (hne : e ≠ e2) : w'.heap[k]? = w.heap[k]? := by
  refine hg.block k (Array.getElem?_eq_some_iff.1 hk).1 (fun e1 => ?_)
  obtain ⟨-, c2, hc2⟩ := own_typ h k e1.symm
  rw [hk] at hc2
  injection hc2 with hc2
  injection hc2 with _ hc2
  exact hne hc2.symm
/-- Node p's slice was appended to: the net stands as before. -/
theorem NwAt.app (h : NwAt w B nb ob vk vh K nd f xs) {p : Nat} (hp : p < nd) {v : Value} (hv : xs[p]? = some v) (hold : w'.ownsRow B 3 1 v (f p).length (icells (f p))) (hg : w.grownBy w' v.ownBlock) : NwAt w' B nb ob vk vh K nd f xs := by
  obtain ⟨c0, c1, c2, f2, ⟨cur, hc⟩, hk, hn, hr, ak, ap⟩ := h
  obtain ⟨v2, hv2, hov⟩ := hr p hp
  rw [hv] at hv2
  injection hv2 with hv2
  subst hv2
  have hb := type_apart hov hg hc (by decide)
  have hcell : ∀ o, w'.cell? ⟨nb, o, none⟩ = w.cell? ⟨nb, o, none⟩ := fun o => World.cell?_of_block hb
  refine ⟨(hcell 0).trans c0, (hcell 1).trans c1, (hcell 2).trans c2, (World.frozen?_of_block (a := ⟨nb, 2, none⟩) hb).trans f2, ⟨cur, hb.trans hc⟩, own_apart hk hg (fun b hb e => ak p v hv b e hb), own_grown hn hov (by decide) hg, fun i hi => ?_, ak, ap⟩
  by_cases hip : i = p
  · subst hip
    exact ⟨v, hv, hold⟩
  · obtain ⟨u, hu, hou⟩ := hr i hi
    exact ⟨u, hu, own_apart hou hg (fun b hb e => ap p i v u (by omega) hv hu b e hb)⟩
/-- Both ends' slices are stored. -/
theorem NwAt.put2 (h : NwAt w B nb ob vk vh K nd f xs) {p q : Nat} (hp : p < nd) (hq : q < nd) {v1 v2 : Value} {g1 g2 : Nat} {f' : Nat → List Int} (hf : ∀ i, i ≠ p → i ≠ q → f' i = f i)
    (b1 : v1.ownBlock = some g1) (b2 : v2.ownBlock = some g2)
    (o1 : p ≠ q → w.ownsRow B 3 1 v1 (f' p).length (icells (f' p))) (o2 : w.ownsRow B 3 1 v2 (f' q).length (icells (f' q)))
    (k1 : vk.ownBlock ≠ some g1) (k2 : vk.ownBlock ≠ some g2) (a1 : ∀ (j : Nat) (u : Value), j ≠ p → xs[j]? = some u → u.ownBlock ≠ some g1) (a2 : ∀ (j : Nat) (u : Value), j ≠ q → xs[j]? = some u → u.ownBlock ≠ some g2) (a12 : p ≠ q → g1 ≠ g2) :
    NwAt ((w.setCell ⟨ob, p, none⟩ v1).setCell ⟨ob, q, none⟩ v2) B nb ob vk vh K nd f' ((xs.set p v1).set q v2) := by
  obtain ⟨c0, c1, c2, f2, ⟨cur, hc⟩, hk, hn, hr, ak, ap⟩ := h
  obtain ⟨-, co, hco⟩ := own_typ hn ob rfl
  obtain ⟨co1, hco1⟩ := setCell_type hco p v1
  have hne : nb ≠ ob := fun e => by
    rw [e, hco] at hc
    injection hc with hc
    injection hc with _ hc
    exact absurd hc (by decide)
  have hheap : ((w.setCell ⟨ob, p, none⟩ v1).setCell ⟨ob, q, none⟩ v2).heap[nb]? = w.heap[nb]? := (heap_set hne).trans (heap_set hne)
  have hcell : ∀ o, ((w.setCell ⟨ob, p, none⟩ v1).setCell ⟨ob, q, none⟩ v2).cell? ⟨nb, o, none⟩ = w.cell? ⟨nb, o, none⟩ := fun o => World.cell?_of_block hheap
  have hxl : xs.length = nd := by have := hn.1; omega
  have hint : ∀ {v : Value} {n : Nat} {ys : List Value}, w.ownsRow B 3 1 v n ys → ((w.setCell ⟨ob, p, none⟩ v1).setCell ⟨ob, q, none⟩ v2).ownsRow B 3 1 v n ys := fun hv => own_set (own_set hv hco (by decide) _ _) hco1 (by decide) _ _
  have hget : ∀ i u, ((xs.set p v1).set q v2)[i]? = some u → (i = q ∧ u = v2) ∨ (i ≠ q ∧ i = p ∧ u = v1) ∨ (i ≠ q ∧ i ≠ p ∧ xs[i]? = some u) := fun i u hi => by
    rw [List.getElem?_set, List.getElem?_set] at hi
    by_cases h1 : q = i
    · rw [if_pos h1] at hi
      split at hi
      · injection hi with hi; exact .inl ⟨h1.symm, hi.symm⟩
      · cases hi
    · rw [if_neg h1] at hi
      by_cases h2 : p = i
      · rw [if_pos h2] at hi
        split at hi
        · injection hi with hi; exact .inr (.inl ⟨fun e => h1 e.symm, h2.symm, hi.symm⟩)
        · cases hi
      · rw [if_neg h2] at hi
        exact .inr (.inr ⟨fun e => h1 e.symm, fun e => h2 e.symm, hi⟩)
  refine ⟨(hcell 0).trans c0, (hcell 1).trans c1, (hcell 2).trans c2, (World.frozen?_of_block (a := ⟨nb, 2, none⟩) hheap).trans f2, ⟨cur, hheap.trans hc⟩, hint hk, (World.ownsRow.stored (World.ownsRow.stored hn p v1).1 q v2).1, fun i hi => ?_, fun i v hv b hb => ?_, fun i j v u hij hv hu b hb => ?_⟩
  · by_cases h1 : i = q
    · subst h1
      exact ⟨v2, by rw [List.getElem?_set, if_pos rfl, if_pos (by rw [List.length_set]; omega)], hint o2⟩
    · by_cases h2 : i = p
      · subst h2
        exact ⟨v1, by rw [List.getElem?_set, if_neg (fun e => h1 e.symm), List.getElem?_set, if_pos rfl, if_pos (by omega)], hint (o1 h1)⟩
      · obtain ⟨u, hu, hou⟩ := hr i hi
        exact ⟨u, by rw [List.getElem?_set, if_neg (fun e => h1 e.symm), List.getElem?_set, if_neg (fun e => h2 e.symm)]; exact hu, by rw [hf i h2 h1]; exact hint hou⟩
  · rcases hget i v hv with ⟨_, rfl⟩ | ⟨_, _, rfl⟩ | ⟨_, _, h3⟩
    · rw [b2] at hb; injection hb with hb; subst hb; exact k2
    · rw [b1] at hb; injection hb with hb; subst hb; exact k1
    · exact ak i v h3 b hb
  · rcases hget i v hv with ⟨i1, rfl⟩ | ⟨i1, i2, rfl⟩ | ⟨i1, i2, h3⟩ <;> rcases hget j u hu with ⟨j1, rfl⟩ | ⟨j1, j2, rfl⟩ | ⟨j1, j2, h4⟩
    · omega
    · rw [b2] at hb; injection hb with hb; subst hb
      rw [b1]; intro e; injection e with e; exact a12 (by omega) e
    · rw [b2] at hb; injection hb with hb; subst hb
      exact a2 j u j1 h4
    · rw [b1] at hb; injection hb with hb; subst hb
      rw [b2]; intro e; injection e with e; exact a12 (by omega) e.symm
    · omega
    · rw [b1] at hb; injection hb with hb; subst hb
      exact a1 j u j2 h4
    · rw [b2]; intro e; injection e with e; subst e; exact a2 i v i1 h3 hb
    · rw [b1]; intro e; injection e with e; subst e; exact a1 i v i2 h3 hb
    · exact ap i j v u hij h3 h4 b hb
theorem own_lt {e : TypeId} {sz n : Nat} {v : Value} {ys : List Value} (h : w.ownsRow B e sz v n ys) : ∀ b, v.ownBlock = some b → B ≤ b ∧ b < w.heap.size := by
  intro b hb
  obtain ⟨h1, cur, h2⟩ := own_typ h b hb
  exact ⟨h1, (Array.getElem?_eq_some_iff.1 h2).1⟩
theorem own_len {e : TypeId} {sz n : Nat} {v : Value} {ys : List Value} (h : w.ownsRow B e sz v n ys) : ∃ a c, v = .slice a n c := by
  rcases h.2 with ⟨rfl, rfl⟩ | ⟨g, cap, cur, rfl, -⟩
  · exact ⟨_, _, rfl⟩
  · exact ⟨_, _, rfl⟩
theorem NwAt.row_at (h : NwAt w B nb ob vk vh K nd f xs) {p : Nat} (hp : p < nd) {v : Value} (hv : xs[p]? = some v) : w.ownsRow B 3 1 v (f p).length (icells (f p)) := by
  obtain ⟨u, hu, ho⟩ := h.row p hp
  rw [hv] at hu
  injection hu with hu
  rw [hu]; exact ho
/-- A block that an append made or grew is another than what the net holds elsewhere. -/
theorem NwAt.fresh (h : NwAt w B nb ob vk vh K nd f xs) {p g : Nat} {v : Value} (hv : xs[p]? = some v) (hl : v.ownBlock = some g ∨ w.heap.size ≤ g) :
    vk.ownBlock ≠ some g ∧ ∀ (j : Nat) (u : Value), j ≠ p → xs[j]? = some u → u.ownBlock ≠ some g := by
  have hxl : xs.length = nd := by have := h.near.1; omega
  rcases hl with hl | hl
  · exact ⟨h.ak p v hv g hl, fun j u hj hu => h.ap p j v u (by omega) hv hu g hl⟩
  · refine ⟨fun e => ?_, fun j u hj hu e => ?_⟩
    · have := (own_lt h.keys g e).2; omega
    · have hjl : j < nd := by have := (List.getElem?_eq_some_iff.1 hu).1; omega
      have := (own_lt (h.row_at hjl hu) g e).2; omega
/-- An edge: both ends' slices are appended to, then stored. -/
theorem NwAt.edge {wa w1 wb w2 : World} (hA : NwAt wa B nb ob vk vh K nd f xs) {p q : Nat} (hp : p < nd) (hq : q < nd) {vp vq : Value} (xp : xs[p]? = some vp) (xq : xs[q]? = some vq) {g1 c1 g2 c2 : Nat}
    (o1 : w1.ownsRow B 3 1 (.slice (some ⟨g1, 0, none⟩) ((f p).length + 1) c1) ((f p).length + 1) (icells (f p) ++ [.int .i64 (q : Int)])) (d1 : w1.ownsRow B 3 1 vp (f p).length (icells (f p))) (h1 : wa.grownBy w1 vp.ownBlock) (l1 : vp.ownBlock = some g1 ∨ g1 = wa.heap.size)
    (hb : Below w1.heap.size w1 wb)
    (o2 : w2.ownsRow B 3 1 (.slice (some ⟨g2, 0, none⟩) ((f q).length + 1) c2) ((f q).length + 1) (icells (f q) ++ [.int .i64 (p : Int)])) (d2 : w2.ownsRow B 3 1 vq (f q).length (icells (f q))) (h2 : wb.grownBy w2 vq.ownBlock) (l2 : vq.ownBlock = some g2 ∨ g2 = wb.heap.size)
    {f' : Nat → List Int} (hf : ∀ i : Nat, f' i = f i ++ if (p : Int) = (i : Int) then [(q : Int)] else if (q : Int) = (i : Int) then [(p : Int)] else []) :
    NwAt ((w2.setCell ⟨ob, p, none⟩ (.slice (some ⟨g1, 0, none⟩) ((f p).length + 1) c1)).setCell ⟨ob, q, none⟩ (.slice (some ⟨g2, 0, none⟩) ((f q).length + 1) c2)) B nb ob vk vh K nd f' ((xs.set p (.slice (some ⟨g1, 0, none⟩) ((f p).length + 1) c1)).set q (.slice (some ⟨g2, 0, none⟩) ((f q).length + 1) c2)) := by
  have hN1 := hA.app hp xp d1 h1
  have hNb := hN1.kept hb
  have hN2 := hNb.app hq xq d2 h2
  have hg1 := (own_lt o1 g1 rfl).2
  have hs1 := h1.size
  have hsb := hb.size
  obtain ⟨k1, a1⟩ := hA.fresh xp (l1.imp id (fun e => by omega))
  obtain ⟨k2, a2⟩ := hNb.fresh xq (l2.imp id (fun e => by omega))
  have ep : f' p = f p ++ [(q : Int)] := by rw [hf, if_pos rfl]
  have eq : f' q = f q ++ [(p : Int)] := by
    rw [hf]
    by_cases hpq : p = q
    · subst hpq; rw [if_pos rfl]
    · rw [if_neg (by omega), if_pos rfl]
  refine hN2.put2 hp hq (fun i h1 h2 => by rw [hf, if_neg (by omega), if_neg (by omega), List.append_nil]) rfl rfl (fun hpq => ?_) ?_ k1 k2 a1 a2 (fun hpq e => ?_)
  · rw [ep, List.length_append, show icells (f p ++ [(q : Int)]) = icells (f p) ++ [.int .i64 (q : Int)] by simp [icells]]
    exact own_apart (own_below o1 hb) h2 (fun b hb2 e => by
      injection hb2 with hb2
      subst hb2
      exact a1 q vq (fun e2 => hpq e2.symm) xq e)
  · rw [eq, List.length_append, show icells (f q ++ [(p : Int)]) = icells (f q) ++ [.int .i64 (p : Int)] by simp [icells]]
    exact o2
  · have e2 : g1 = g2 := e
    rcases l2 with l2 | l2
    · exact a1 q vq (fun e2 => hpq e2.symm) xq (by rw [l2, e2])
    · omega
theorem NwAt.edge_below {w0 wa w1 wb w2 : World} (hA : NwAt wa B nb ob vk vh K nd f xs) {p q : Nat} (hp : p < nd) (hq : q < nd) {vp vq : Value} (xp : xs[p]? = some vp) (xq : xs[q]? = some vq) (h0 : Below B w0 wa) (hB : B ≤ wa.heap.size)
    (h1 : wa.grownBy w1 vp.ownBlock) (hb : Below w1.heap.size w1 wb) (h2 : wb.grownBy w2 vq.ownBlock) (v1 v2 : Value) : Below B w0 ((w2.setCell ⟨ob, p, none⟩ v1).setCell ⟨ob, q, none⟩ v2) := by
  have hs1 := h1.size
  have hsb := hb.size
  have k1 : Below B w0 w1 := h0.grown h1 hB (fun k hk => (own_lt (hA.row_at hp xp) k hk).1)
  have k2 : Below B w0 w2 := (k1.trans (hb.mono (by omega))).grown h2 (by omega) (fun k hk => (own_lt (hA.row_at hq xq) k hk).1)
  have hob := (own_lt hA.near ob rfl).1
  exact (k2.setCell hob v1).setCell hob v2
/-- A cell of a block that an append of node p's slice does not touch. -/
theorem NwAt.far (h : NwAt w B nb ob vk vh K nd f xs) {p : Nat} (hp : p < nd) {v : Value} (hv : xs[p]? = some v) (hg : w.grownBy w' v.ownBlock) {b o : Nat} (hb : b < w.heap.size) (hne : ∀ g, v.ownBlock = some g → g ≠ b) : w'.cell? ⟨b, o, none⟩ = w.cell? ⟨b, o, none⟩ :=
  World.cell?_of_block (hg.block b hb (fun e => hne b e.symm rfl))
end
end
section
open Go.RowKit
abbrev ntA (t : Nt) : Value := .agg #[.int .i64 t.au, .int .i64 t.no, .string t.tx, .int .i64 t.sm]
def r8 (r : Nat → Nt) : List Nt := [r 0, r 1, r 2, r 3, r 4, r 5, r 6, r 7]
def c8 (r : Nat → Nt) : List Value := ntCells (r8 r)
theorem c8_len (r : Nat → Nt) : (c8 r).length = 32 := by unfold c8; rw [ntCells_len]; rfl
theorem r8_at (r : Nat → Nt) (a : Nat) (h : a < 8) : (r8 r)[a]? = some (r a) := by
  rcases (show a = 0 ∨ a = 1 ∨ a = 2 ∨ a = 3 ∨ a = 4 ∨ a = 5 ∨ a = 6 ∨ a = 7 by omega) with rfl | rfl | rfl | rfl | rfl | rfl | rfl | rfl <;> rfl
theorem part8 (r : Nat → Nt) (a : Nat) (h : a < 8) : ∀ w, (part 23 (c8 r).toArray (a * 4)).run Tryd.prog w = .ok (ntA (r a)) w := by
  rcases (show a = 0 ∨ a = 1 ∨ a = 2 ∨ a = 3 ∨ a = 4 ∨ a = 5 ∨ a = 6 ∨ a = 7 by omega) with rfl | rfl | rfl | rfl | rfl | rfl | rfl | rfl <;> (intro w; kernel_rfl)
theorem ix8 (r : Nat → Nt) (a : Nat) (h : a < 8) : ∀ w, (Instr.index 49 (.agg (c8 r).toArray) (.int .i64 (a : Int))).run Tryd.prog w = .ok (ntA (r a)) w := by
  rcases (show a = 0 ∨ a = 1 ∨ a = 2 ∨ a = 3 ∨ a = 4 ∨ a = 5 ∨ a = 6 ∨ a = 7 by omega) with rfl | rfl | rfl | rfl | rfl | rfl | rfl | rfl <;> (intro w; kernel_rfl)
theorem eqNt9 (t s : Nt) : ∀ w, (Op.equalIn 9999 23 (ntA t) (ntA s)).run Tryd.prog w = .ok (ntEq t s) w := by
  intro w
  unfold ntEq
  cases h1 : (t.au == s.au) <;> cases h2 : (t.no == s.no) <;> cases h3 : (t.tx.toList == s.tx.toList) <;> cases h4 : (t.sm == s.sm) <;> go_simp
def eq8 (r s : Nat → Nt) : Bool := (List.range 8).all fun a => ntEq (r a) (s a)
theorem eqItems8 (r s : Nat → Nt) : ∀ (is : List Nat), (∀ i ∈ is, i < 8) → ∀ w, (Op.eqItems 9999 23 4 (c8 r).toArray (c8 s).toArray is).run Tryd.prog w = .ok (is.all fun a => ntEq (r a) (s a)) w
  | [], _, w => by simp [Op.eqItems]
  | i :: is, h, w => by
    have hi := h i (by simp)
    simp only [Op.eqItems, Sem.run_bind, part8 r i hi w, part8 s i hi w, Result.andThen_ok, eqNt9 (r i) (s i) w, List.all_cons]
    cases ntEq (r i) (s i) with
    | true => simpa using eqItems8 r s is (fun j hj => h j (by simp [hj])) w
    | false => simp
theorem eqAt8 (r s : Nat → Nt) : ∀ w, (Op.equalIn 10000 49 (.agg (c8 r).toArray) (.agg (c8 s).toArray)).run Tryd.prog w = .ok (eq8 r s) w := by
  intro w
  obtain ⟨i0, hi, -⟩ := info_parts (show (Tryd.prog.info? 23).map (fun i => (i.zero, i.size, i.bytes)) = some (some (.agg #[.int .i64 0, .int .i64 0, .string ⟨#[]⟩, .int .i64 0]), 4, 40) by kernel_rfl)
  have h := run_equalIn_array (P := Tryd.prog) w 9999 (c8 r).toArray (c8 s).toArray Tryd.underlying49 hi
  have hc : Tryd.prog.cellsOf 23 = 4 := by kernel_rfl
  rw [hc, eqItems8 r s (List.range 8) (fun i hi => List.mem_range.1 hi) w] at h
  exact h
/-- All rows, one behind the other. -/
def flatH : Nat → (Nat → Nat → Nt) → List Nt
  | 0, _ => []
  | n + 1, G => flatH n G ++ r8 (G n)
theorem flatH_len (n : Nat) (G : Nat → Nat → Nt) : (flatH n G).length = n * 8 := by
  induction n with
  | zero => rfl
  | succ n ih => rw [flatH, List.length_append, ih]; simp [r8]; omega
theorem flatH_at (n : Nat) (G : Nat → Nat → Nt) (k a : Nat) (hk : k < n) (ha : a < 8) : (flatH n G)[k * 8 + a]? = some (G k a) := by
  induction n with
  | zero => omega
  | succ n ih =>
    rw [flatH]
    by_cases h : k < n
    · rw [List.getElem?_append_left (by rw [flatH_len]; omega)]
      exact ih h
    · obtain rfl : k = n := by omega
      rw [List.getElem?_append_right (by rw [flatH_len]; omega), flatH_len, show k * 8 + a - k * 8 = a by omega]
      exact r8_at _ _ ha
theorem flatH_congr (n : Nat) (G G' : Nat → Nat → Nt) (h : ∀ k a, k < n → a < 8 → G k a = G' k a) : flatH n G = flatH n G' := by
  induction n with
  | zero => rfl
  | succ n ih =>
    rw [flatH, flatH, ih (fun k a hk ha => h k a (by omega) ha)]
    congr 1
    unfold r8
    rw [h n 0 (by omega) (by omega), h n 1 (by omega) (by omega), h n 2 (by omega) (by omega), h n 3 (by omega) (by omega), h n 4 (by omega) (by omega), h n 5 (by omega) (by omega), h n 6 (by omega) (by omega), h n 7 (by omega) (by omega)]
/-- Notice t at place (k, a). -/
def updG (G : Nat → Nat → Nt) (k a : Nat) (t : Nt) : Nat → Nat → Nt := fun i b => if i = k ∧ b = a then t else G i b
theorem flatH_upd (n : Nat) (G : Nat → Nat → Nt) (k a : Nat) (hk : k < n) (ha : a < 8) (t : Nt) : (flatH n G).set (k * 8 + a) t = flatH n (updG G k a t) := by
  apply List.ext_getElem?
  intro j
  rw [List.getElem?_set]
  by_cases hj : j < n * 8
  · have hq := flatH_at n (updG G k a t) (j / 8) (j % 8) (by omega) (Nat.mod_lt _ (by decide))
    have hq0 := flatH_at n G (j / 8) (j % 8) (by omega) (Nat.mod_lt _ (by decide))
    rw [show j / 8 * 8 + j % 8 = j by omega] at hq hq0
    rw [hq, hq0]
    by_cases e : k * 8 + a = j
    · rw [if_pos e, if_pos (by rw [flatH_len]; omega)]
      unfold updG
      rw [if_pos (by omega)]
    · rw [if_neg e]
      unfold updG
      rw [if_neg (by omega)]
  · rw [if_neg (by omega), List.getElem?_eq_none (by rw [flatH_len]; omega), List.getElem?_eq_none (by rw [flatH_len]; omega)]
/-- What nodes hold, in block hb. -/
def HdAt (w : World) (B hb c nd : Nat) (G : Nat → Nat → Nt) : Prop := w.ownsRow B 49 32 (.slice (some ⟨hb, 0, none⟩) nd c) nd (ntCells (flatH nd G))
section
variable {w w' : World} {B hb c nd : Nat} {G : Nat → Nat → Nt}
theorem HdAt.congr {G' : Nat → Nat → Nt} (h : HdAt w B hb c nd G) (hg : ∀ k a, k < nd → a < 8 → G k a = G' k a) : HdAt w B hb c nd G' := by
  unfold HdAt
  rw [← flatH_congr nd G G' hg]
  exact h
theorem HdAt.kept (h : HdAt w B hb c nd G) (hbl : Below w.heap.size w w') : HdAt w' B hb c nd G := own_below h hbl
theorem HdAt.lt (h : HdAt w B hb c nd G) : B ≤ hb ∧ hb < w.heap.size := own_lt h hb rfl
theorem HdAt.ty (h : HdAt w B hb c nd G) : ∃ cur, w.heap[hb]? = some (.cells cur 49 (0, 0)) := (own_typ h hb rfl).2
theorem HdAt.frozen (h : HdAt w B hb c nd G) (j : Nat) : w.frozen? ⟨hb, j, none⟩ = false := World.ownsRow.frozenAt h j
theorem HdAt.cells (h : HdAt w B hb c nd G) (k a : Nat) (hk : k < nd) (ha : a < 8) : w.cell? ⟨hb, k * 32 + a * 4, none⟩ = some (.int .i64 (G k a).au) ∧ w.cell? ⟨hb, k * 32 + a * 4 + 1, none⟩ = some (.int .i64 (G k a).no) ∧ w.cell? ⟨hb, k * 32 + a * 4 + 2, none⟩ = some (.string (G k a).tx) ∧ w.cell? ⟨hb, k * 32 + a * 4 + 3, none⟩ = some (.int .i64 (G k a).sm) := by
  have hl : k * 8 + a < (flatH nd G).length := by rw [flatH_len]; omega
  have hat := ntCells_at (flatH nd G) (k * 8 + a) hl
  have he : (flatH nd G)[k * 8 + a] = G k a := by
    have := flatH_at nd G k a hk ha
    rw [List.getElem?_eq_getElem hl] at this
    exact Option.some.inj this
  rw [he] at hat
  have e : ∀ j, k * 32 + a * 4 + j = (k * 8 + a) * 4 + j := fun j => by omega
  refine ⟨?_, ?_, ?_, ?_⟩
  · rw [show k * 32 + a * 4 = (k * 8 + a) * 4 + 0 by omega, World.ownsRow.cellAt h _ (by omega)]; exact hat 0 (by decide)
  · rw [e 1, World.ownsRow.cellAt h _ (by omega)]; exact hat 1 (by decide)
  · rw [e 2, World.ownsRow.cellAt h _ (by omega)]; exact hat 2 (by decide)
  · rw [e 3, World.ownsRow.cellAt h _ (by omega)]; exact hat 3 (by decide)
theorem HdAt.range (h : HdAt w B hb c nd G) (k : Nat) (hk : k < nd) : w.rangeAt hb (k * 32) (c8 (G k)) := by
  intro j v hj
  have hj32 : j < 32 := by have := (List.getElem?_eq_some_iff.1 hj).1; rw [c8_len] at this; exact this
  have ha : j / 4 < 8 := by omega
  have h1 := ntCells_at (r8 (G k)) (j / 4) ha (j % 4) (by omega)
  rw [show j / 4 * 4 + j % 4 = j by omega] at h1
  have h2 : (r8 (G k))[j / 4] = G k (j / 4) := by
    have := r8_at (G k) (j / 4) ha
    rw [List.getElem?_eq_getElem ha] at this
    exact Option.some.inj this
  rw [h2] at h1
  have hl : k * 8 + j / 4 < (flatH nd G).length := by rw [flatH_len]; omega
  have h3 := ntCells_at (flatH nd G) (k * 8 + j / 4) hl (j % 4) (by omega)
  have he : (flatH nd G)[k * 8 + j / 4] = G k (j / 4) := by
    have := flatH_at nd G k (j / 4) hk ha
    rw [List.getElem?_eq_getElem hl] at this
    exact Option.some.inj this
  rw [he] at h3
  rw [show k * 32 + j = (k * 8 + j / 4) * 4 + j % 4 by omega, World.ownsRow.cellAt h _ (by omega), h3, ← h1]
  exact hj
/-- A notice is written at place (k, a). -/
theorem HdAt.put (h : HdAt w B hb c nd G) (k a : Nat) (hk : k < nd) (ha : a < 8) (t : Nt) :
    HdAt ((((w.setCell ⟨hb, k * 32 + a * 4, none⟩ (.int .i64 t.au)).setCell ⟨hb, k * 32 + a * 4 + 1, none⟩ (.int .i64 t.no)).setCell ⟨hb, k * 32 + a * 4 + 2, none⟩ (.string t.tx)).setCell ⟨hb, k * 32 + a * 4 + 3, none⟩ (.int .i64 t.sm)) B hb c nd (updG G k a t) := by
  have r1 := (World.ownsRow.stored h (k * 32 + a * 4) (.int .i64 t.au)).1
  have r2 := (World.ownsRow.stored r1 (k * 32 + a * 4 + 1) (.int .i64 t.no)).1
  have r3 := (World.ownsRow.stored r2 (k * 32 + a * 4 + 2) (.string t.tx)).1
  have r4 := (World.ownsRow.stored r3 (k * 32 + a * 4 + 3) (.int .i64 t.sm)).1
  rw [show (((((ntCells (flatH nd G)).set (k * 32 + a * 4) (.int .i64 t.au)).set (k * 32 + a * 4 + 1) (.int .i64 t.no)).set (k * 32 + a * 4 + 2) (.string t.tx)).set (k * 32 + a * 4 + 3) (.int .i64 t.sm)) = ntCells (flatH nd (updG G k a t)) from by
    rw [show k * 32 + a * 4 = (k * 8 + a) * 4 by omega, ntCells_set _ _ (by rw [flatH_len]; omega), flatH_upd nd G k a hk ha t]] at r4
  exact r4
end
/-- A cell of a block of another type is written: the net stays. -/
theorem NetAt.far {w : World} {B nb : Nat} {vk vn vh : Value} {K : List Int} {N : List (List Int)} {rows : List (List Nt)} {rb : List (Nat × Nat)} (h : NetAt w B nb vk vn vh K N rows rb) {g : Nat} {cur : Array Value} (hg : w.heap[g]? = some (.cells cur 49 (0, 0))) (j : Nat) (u : Value) : NetAt (w.setCell ⟨g, j, none⟩ u) B nb vk vn vh K N rows rb := by
  obtain ⟨c0, c1, c2, f2, ⟨cur2, hc⟩, hk, ⟨xs, n1, n2⟩, hln, hh, hr, ha⟩ := h
  have hne : nb ≠ g := fun e => by
    rw [e, hg] at hc
    injection hc with hc
    injection hc with _ hc
    exact absurd hc (by decide)
  have hheap : (w.setCell ⟨g, j, none⟩ u).heap[nb]? = w.heap[nb]? := heap_set hne
  exact ⟨(World.cell?_of_block (a := ⟨nb, 0, none⟩) hheap).trans c0, (World.cell?_of_block (a := ⟨nb, 1, none⟩) hheap).trans c1, (World.cell?_of_block (a := ⟨nb, 2, none⟩) hheap).trans c2, (World.frozen?_of_block (a := ⟨nb, 2, none⟩) hheap).trans f2, ⟨cur2, hheap.trans hc⟩,
    own_set hk hg (by decide) j u, ⟨xs, own_set n1 hg (by decide) j u, fun k hk => by obtain ⟨v, a, b⟩ := n2 k hk; exact ⟨v, a, own_set b hg (by decide) j u⟩⟩, hln, own_set hh hg (by decide) j u, fun k h1 h2 => ⟨(hr k h1 h2).1, own_set (hr k h1 h2).2 hg (by decide) j u⟩, ha⟩
end
end Go.Proofs.YtbcehnhiedbbbaaDoor
