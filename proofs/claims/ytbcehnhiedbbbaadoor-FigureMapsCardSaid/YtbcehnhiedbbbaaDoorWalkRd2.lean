/- The contract of figure.Read: the walk. -/
import Derived.Test.YtbcehnhiedbbbaaDoorWalkRd
set_option linter.unusedVariables false
set_option linter.unusedSimpArgs false
namespace Go.Proofs.YtbcehnhiedbbbaaDoor
open Go.RowKit
theorem c_Read_large (S : ByteArray) (w : World) (hs : 16000 < S.size) (hm : S.size ≤ 9223372036854775807) :
    Calls Tryd.prog 31 #[.string S] w fun e w' => e = .returned (.tuple #[.agg #[.slice none 0 0, .slice none 0 0], .int .i64 2]) ∧ Below w.heap.size w w' := by
  have g := decide_eq_true (show (16000 : Int) < (S.size : Int) by omega)
  have hgen := sgen; have hgen2 := sgen2; have hgen3 := sgen3; go_enter Tryd.func31, Tryd.ntmps31
  go_wp2
  refine bodyPost_ret (v := .tuple #[.agg #[.slice none 0 0, .slice none 0 0], .int .i64 2]) (by simp only [results, Tryd.results31]; go_simp) rfl ⟨rfl, ?_⟩
  exact belz
/-- A figure whose slices are owned from B on. -/
structure FigOwn (w : World) (B : Nat) (v1 v2 : Value) (P : List Fp) (L : List (List Int)) : Prop where
  pts : w.ownsRow B 63 4 v1 P.length (fpcs P)
  row : ∃ xs, w.ownsRow B 39 1 v2 L.length xs ∧ ∀ k (h : k < L.length), ∃ v, xs[k]? = some v ∧ w.ownsRow B 3 1 v L[k].length (icells L[k])
/-- What figure.Read answers of a text. -/
def RdOk (s : List UInt8) (w : World) (e : Ending) (w' : World) : Prop := match rd s with
  | none => e = .returned (.tuple #[.agg #[.slice none 0 0, .slice none 0 0], .int .i64 4])
  | some (P, L) => if fgE P L = 0 then ∃ a b ca cb, e = .returned (.tuple #[.agg #[.slice a P.length ca, .slice b L.length cb], .int .i64 0]) ∧ FpSlice w' a P ∧ MatSlice w' b L ∧ P.length ≤ ca ∧ L.length ≤ cb ∧ FigOwn w' w.heap.size (.slice a P.length ca) (.slice b L.length cb) P L
    else e = .returned (.tuple #[.agg #[.slice none 0 0, .slice none 0 0], .int .i64 (fgE P L)])
structure RsAt (w : World) (q : Nat) : Prop where
  c0 : w.cell? ⟨q, 0, none⟩ = some (.slice none 0 0)
  c1 : w.cell? ⟨q, 1, none⟩ = some (.slice none 0 0)
  f0 : w.frozen? ⟨q, 0, none⟩ = false
  f1 : w.frozen? ⟨q, 1, none⟩ = false
  lt : q < w.heap.size
theorem RsAt.below {w w' : World} {q : Nat} (h : RsAt w q) (hb : Below w.heap.size w w') : RsAt w' q :=
  ⟨(hb.cell (p := ⟨q, 0, none⟩) h.lt).trans h.c0, (hb.cell (p := ⟨q, 1, none⟩) h.lt).trans h.c1, (hb.frozen (p := ⟨q, 0, none⟩) h.lt).trans h.f0, (hb.frozen (p := ⟨q, 1, none⟩) h.lt).trans h.f1, Nat.lt_of_lt_of_le h.lt hb.size⟩
theorem setCell_heap (w : World) (a : Addr) (v : Value) (g : Nat) (h : g ≠ a.block) : (w.setCell a v).heap[g]? = w.heap[g]? := by
  unfold World.setCell
  simp only [Array.getElem?_modify]
  rw [if_neg (fun e => h e.symm)]
theorem ownK {w w' : World} {B : Nat} {e : TypeId} {sz : Nat} {v : Value} {n : Nat} {xs : List Value} (h : w.ownsRow B e sz v n xs) (hk : ∀ g, B ≤ g → g < w.heap.size → w'.heap[g]? = w.heap[g]?) : w'.ownsRow B e sz v n xs := by
  refine ⟨h.1, ?_⟩
  rcases h.2 with h2 | ⟨g, cap, cur, hv, hg, hh, r⟩
  · exact .inl h2
  · exact .inr ⟨g, cap, cur, hv, hg, by rw [hk g hg (Array.getElem?_eq_some_iff.1 hh).1]; exact hh, r⟩
theorem own_base {w : World} {B B' : Nat} {e : TypeId} {sz : Nat} {v : Value} {n : Nat} {xs : List Value} (h : w.ownsRow B e sz v n xs) (hB : B' ≤ B) : w.ownsRow B' e sz v n xs := by
  refine ⟨h.1, ?_⟩
  rcases h.2 with h3 | ⟨g, cap, cur, hv, hg, r⟩
  · exact .inl h3
  · exact .inr ⟨g, cap, cur, hv, Nat.le_trans hB hg, r⟩
theorem FigOwn.kept {w w' : World} {B : Nat} {v1 v2 : Value} {P : List Fp} {L : List (List Int)} (h : FigOwn w B v1 v2 P L) (hk : ∀ g, B ≤ g → g < w.heap.size → w'.heap[g]? = w.heap[g]?) : FigOwn w' B v1 v2 P L := by
  obtain ⟨h1, xs, h2, h3⟩ := h
  exact ⟨ownK h1 hk, xs, ownK h2 hk, fun k hl => by obtain ⟨v, a, b⟩ := h3 k hl; exact ⟨v, a, ownK b hk⟩⟩
theorem FigOwn.base {w : World} {B B' : Nat} {v1 v2 : Value} {P : List Fp} {L : List (List Int)} (h : FigOwn w B v1 v2 P L) (hB : B' ≤ B) : FigOwn w B' v1 v2 P L := by
  obtain ⟨h1, xs, h2, h3⟩ := h
  exact ⟨own_base h1 hB, xs, own_base h2 hB, fun k hl => by obtain ⟨v, a, b⟩ := h3 k hl; exact ⟨v, a, own_base b hB⟩⟩
theorem FigOwn.fp {w : World} {B : Nat} {a : Option Addr} {ca : Nat} {v2 : Value} {P : List Fp} {L : List (List Int)} (h : FigOwn w B (.slice a P.length ca) v2 P L) : FpSlice w a P := by
  obtain ⟨a', ca', e, _, h2⟩ := own_Fp h.pts
  injection e with e1
  subst e1
  exact h2
theorem FigOwn.mt {w : World} {B : Nat} {b : Option Addr} {cb : Nat} {v1 : Value} {P : List Fp} {L : List (List Int)} (h : FigOwn w B v1 (.slice b L.length cb) P L) : MatSlice w b L := by
  obtain ⟨xs, h2, h3⟩ := h.row
  obtain ⟨a', ca', e, _, h4⟩ := own_Mat h2 h3
  injection e with e1
  subst e1
  exact h4
theorem own_sl {w : World} {B : Nat} {e : TypeId} {sz : Nat} {v : Value} {n : Nat} {xs : List Value} (h : w.ownsRow B e sz v n xs) : ∃ a m c, v = .slice a m c := by
  rcases h.2 with ⟨rfl, -⟩ | ⟨g, cap, cur, rfl, -⟩
  · exact ⟨_, _, _, rfl⟩
  · exact ⟨_, _, _, rfl⟩
theorem own_ty {w : World} {B : Nat} {e : TypeId} {sz : Nat} {v : Value} {n : Nat} {xs : List Value} (h : w.ownsRow B e sz v n xs) : ∀ k, v.ownBlock = some k → B ≤ k ∧ ∃ cur, w.heap[k]? = some (.cells cur e (0, 0)) := by
  intro k hk
  rcases h.2 with ⟨rfl, -⟩ | ⟨g, cap, cur, rfl, hg, hh, -⟩
  · cases hk
  · injection hk with hk
    subst hk
    exact ⟨hg, cur, hh⟩
theorem own_other {w w' : World} {B B2 : Nat} {e e2 : TypeId} {sz sz2 : Nat} {v v2 : Value} {n n2 : Nat} {xs xs2 : List Value} (h : w.ownsRow B e sz v n xs) (h2 : w.ownsRow B2 e2 sz2 v2 n2 xs2) (hne : e ≠ e2) (hg : w.grownBy w' v2.ownBlock) : w'.ownsRow B e sz v n xs := by
  refine ⟨h.1, ?_⟩
  rcases h.2 with h3 | ⟨g, cap, cur, hv, hB, hh, r⟩
  · exact .inl h3
  · refine .inr ⟨g, cap, cur, hv, hB, ?_, r⟩
    rw [hg.block g (Array.getElem?_eq_some_iff.1 hh).1 ?_]
    · exact hh
    · intro e1
      obtain ⟨-, c2, hc2⟩ := own_ty h2 g e1.symm
      rw [hh] at hc2
      injection hc2 with hc2
      injection hc2 with _ hc2
      exact hne hc2
theorem c_polyS (a : Option Addr) (ws : List (List UInt8)) (r : List Int) (w : World) (hT : NTab w) (hE : NEr w) (hl : ∀ x ∈ ws, x.length ≤ 16000) (hn : ws.length ≤ 16001) (h : TxSlice w a ws) (hr : lnR ws = some r) :
    Calls Tryd.prog 58 #[.slice a ws.length ws.length] w fun e w' => ∃ b m c, e = .returned (.tuple #[.slice b m c, .bool true]) ∧ w'.ownsRow w.heap.size 3 1 (.slice b m c) r.length (icells r) ∧ Below w.heap.size w w' :=
  (c_poly a ws.length ws w hT hE hl hn h (Nat.le_refl _)).mono fun e w' ⟨h1, h2⟩ => by
    rcases h1 with ⟨v, r', e1, e2, e3⟩ | ⟨e1, -⟩
    · rw [hr] at e1
      injection e1 with e1
      subst e1
      obtain ⟨b, m, c, rfl⟩ := own_sl e3
      exact ⟨b, m, c, e2, e3, h2⟩
    · rw [hr] at e1; cases e1
theorem c_polyN (a : Option Addr) (ws : List (List UInt8)) (w : World) (hT : NTab w) (hE : NEr w) (hl : ∀ x ∈ ws, x.length ≤ 16000) (hn : ws.length ≤ 16001) (h : TxSlice w a ws) (hr : lnR ws = none) :
    Calls Tryd.prog 58 #[.slice a ws.length ws.length] w fun e w' => e = .returned (.tuple #[.slice none 0 0, .bool false]) ∧ Below w.heap.size w w' :=
  (c_poly a ws.length ws w hT hE hl hn h (Nat.le_refl _)).mono fun e w' ⟨h1, h2⟩ => by
    rcases h1 with ⟨v, r', e1, -⟩ | ⟨-, e2⟩
    · rw [hr] at e1; cases e1
    · exact ⟨e2, h2⟩
set_option maxRecDepth 100000 in
set_option maxHeartbeats 4000000 in
theorem c_Read (s : List UInt8) (w : World) (hT : NTab w) (hE : NEr w) (hM : NMx w) (hs : s.length ≤ 16000) :
    Calls Tryd.prog 31 #[.string (strB s)] w fun e w' => RdOk s w e w' ∧ Below w.heap.size w w' := by
  have hsz := strB_size s
  have g := decide_eq_false (show ¬ (16000 : Int) < ((strB s).size : Int) by omega)
  have HT := Lib.hid hT
  have HE := Lib.hid hE
  have HM := Lib.hid hM
  have e0 : (strB s).data.toList = s := strB_l s
  obtain ⟨i0, hi0, hz0, hz1, hz2⟩ := info_parts (show (Tryd.prog.info? 63).map (fun i => (i.zero, i.size, i.bytes)) = some (some (.agg #[.int .i64 0, .int .i64 0, .int .i64 0, .int .i64 0]), 4, 32) by kernel_rfl)
  obtain ⟨j0, hj0, jz0, jz1, jz2⟩ := info_parts (show (Tryd.prog.info? 39).map (fun i => (i.zero, i.size, i.bytes)) = some (some (.slice none 0 0), 1, 24) by kernel_rfl)
  clear hT hE hM
  have hgen := sgen; have hgen2 := sgen2; have hgen3 := sgen3; go_enter Tryd.func31, Tryd.ntmps31
  go_wp2
  go_loopg [0] s.length (fun gk x0 wr => ∃ (rest : List UInt8) (P : List Fp) (L : List (List Int)) (v1 v2 : Value), x0 = .string (strB rest) ∧ rest.length ≤ gk ∧ rdF gk rest P L = rd s ∧ P.length + L.length + rest.length ≤ s.length ∧ RsAt wr w.heap.size ∧ (L = [] → v2 = .slice none 0 0) ∧ FgAt wr (w.heap.size + 1) (w.heap.size + 1 + 1) v1 v2 P L ∧ Below w.heap.size w wr)
  case atStart =>
    refine ⟨s, [], [], .slice none 0 0, .slice none 0 0, rfl, Nat.le_refl _, rfl, by simp, ?_, fun _ => rfl, ?_, by exact belz⟩
    · constructor
      case lt => go_simp
      all_goals first | (go_simp; done) | go_keep
    · refine ⟨?_, ?_, ?_, ?_, ?_, World.ownsRow_nil _ _ _ _, [], World.ownsRow_nil _ _ _ _, fun k h => by simp at h⟩
      case refine_5 => go_simp
      all_goals first | (go_simp; done) | go_keep
  case round =>
    obtain ⟨rest, P, L, v1, v2, rfl, hrk, hrd, hlen, hR, hv2, hF, hbel⟩ := hrel
    obtain ⟨r0, r1, rf0, rf1, rlt⟩ := hR
    have hsz2 := hbel.size
    by_cases hz : rest = []
    · subst hz
      rw [rdF_nil] at hrd
      obtain ⟨f0, f1, ff0, ff1, flt, hp, xs, hx, hxr⟩ := hF
      obtain ⟨a, ca, rfl, hca, hfp⟩ := own_Fp hp
      obtain ⟨b, cb, rfl, hcb, hmt⟩ := own_Mat hx hxr
      have hk := fun w1 (h1 : FpSlice w1 a P) (h2 : MatSlice w1 b L) => c_fgCheck a b ca cb P L w1 h1 h2 hca hcb
      have HP := Lib.hid hfp
      have HL := Lib.hid hmt
      have HRd := Lib.hid hrd
      have HO1 := Lib.hid hp
      have HO2 := Lib.hid hx
      have HO3 := Lib.hid hxr
      clear hp hx hxr hfp hmt
      have ee : strB [] = ⟨#[]⟩ := rfl
      rw [ee]
      by_cases hE : fgE P L = 0
      · rw [hE] at hk
        have HK := Lib.hid hk
        clear hk
        go_wp2_with (go_at_call 29; (with_reducible refine (HK.out _ (HP.out.below (Nat.le_refl _) (by exact belz)) (HL.out.below (Nat.le_refl _) (by exact belz))).mono ?_); rintro e w1 ⟨rfl, hb⟩; have hz := hb.size; (try simp only [szA, szS, szD, szN] at hz); (try (refine bcB (n := wr.heap.size) hb ?_; intro h_wr_0 e_wr_0 d_wr_0 _ _)); (try (refine bcB (n := w.heap.size) hb ?_; intro h_w_0 e_w_0 d_w_0 _ _)); (try (refine bcB (n := w.heap.size + 1) hb ?_; intro h_w_1 e_w_1 d_w_1 _ _)))
        have hb1 : Below wr.heap.size wr w1 := by (clear hbel; exact belz)
        have hbw : Below w.heap.size w w1 := hbel.trans (hb1.mono (by omega))
        refine bodyPost_ret (v := .tuple #[.agg #[.slice a P.length ca, .slice b L.length cb], .int .i64 0]) (by simp only [results, Tryd.results31]; go_simp) rfl ⟨?_, by exact belz⟩
        unfold RdOk
        rw [← HRd.out]
        simp only
        rw [if_pos hE]
        have key : ∀ (g : Nat), w.heap.size + 1 + 1 ≤ g → g < wr.heap.size → ((w1.setCell ⟨w.heap.size, 0, none⟩ (.slice a P.length ca)).setCell ⟨w.heap.size, 1, none⟩ (.slice b L.length cb)).heap[g]? = wr.heap[g]? := fun g h1 h2 => by
          rw [setCell_heap _ _ _ _ (by show g ≠ w.heap.size; omega), setCell_heap _ _ _ _ (by show g ≠ w.heap.size; omega), hb1.block g h2]
        have hfo : FigOwn wr (w.heap.size + 1 + 1) (.slice a P.length ca) (.slice b L.length cb) P L := ⟨HO1.out, _, HO2.out, HO3.out⟩
        have hfw := hfo.kept key
        exact ⟨_, _, _, _, rfl, hfw.fp, hfw.mt, hca, hcb, hfw.base (by omega)⟩
      · have gE : (fgE P L == 0) = false := by simpa using hE
        have gE2 : (fgE P L != 0) = true := by simpa using hE
        go_wp2_with (go_at_call 29; (with_reducible refine (hk _ (HP.out.below (Nat.le_refl _) (by exact belz)) (HL.out.below (Nat.le_refl _) (by exact belz))).mono ?_); rintro e w1 ⟨rfl, hb⟩; have hz := hb.size; (try simp only [szA, szS, szD, szN] at hz); (try (refine bcB (n := wr.heap.size) hb ?_; intro h_wr_0 e_wr_0 d_wr_0 _ _)); (try (refine bcB (n := w.heap.size) hb ?_; intro h_w_0 e_w_0 d_w_0 _ _)); (try (refine bcB (n := w.heap.size + 1) hb ?_; intro h_w_1 e_w_1 d_w_1 _ _)))
        refine bodyPost_ret (v := .tuple #[.agg #[.slice none 0 0, .slice none 0 0], .int .i64 (fgE P L)]) (by simp only [results, Tryd.results31]; go_simp) rfl ⟨?_, by exact belz⟩
        unfold RdOk
        rw [← HRd.out]
        simp only
        rw [if_neg hE]
        trivial
    · have hpos : 0 < rest.length := by cases rest with
        | nil => exact absurd rfl hz
        | cons c l => simp
      obtain ⟨j, rfl⟩ : ∃ j, gk = j + 1 := ⟨gk - 1, by omega⟩
      have gz : (strB rest).toList.isEmpty = false := by
        rw [ByteArray.toList_eq, strB_l]
        cases rest with
        | nil => exact absurd rfl hz
        | cons c l => rfl
      have hC := fun w1 => c_CutC 10 (strB rest) w1 (by rw [strB_size]; omega)
      rw [strB_l] at hC
      rw [rdF, if_neg hz] at hrd
      clear hz
      rcases byte_cases 10 rest with q | ⟨line, r2, q, rfl⟩
      · rw [cutb_miss 10 rest q] at hC hrd
        simp only at hrd hC
        have HC := Lib.hid hC
        have HS := Lib.hid (fun w1 h1 => c_Split rest w1 h1 (by omega))
        have HRd := Lib.hid hrd
        obtain ⟨f0, f1, ff0, ff1, flt, hp, xs, hx, hxr⟩ := hF
        clear hC hrd hp hx hxr q
        generalize strB rest = R at *
        generalize strB [] = E9 at *
        generalize spl rest = ws at *
        go_wp2_with (first | (go_at_call 41; (with_reducible refine (HC.out _).mono ?_); rintro e w1 ⟨rfl, hb⟩; have hz := hb.size; (try simp only [szA, szS, szD, szN] at hz); (try (refine bcB (n := wr.heap.size) hb ?_; intro h_wr_0 e_wr_0 d_wr_0 _ _)); (try (refine bcB (n := w.heap.size) hb ?_; intro h_w_0 e_w_0 d_w_0 _ _)); (try (refine bcB (n := w.heap.size + 1) hb ?_; intro h_w_1 e_w_1 d_w_1 _ _))) | (go_at_call 56; (with_reducible refine (HS.out _ (HM.out.below (by exact belz))).mono ?_); rintro e w2 ⟨bw, rfl, hbw, hTx, hb⟩; have hz := hb.size; (try simp only [szA, szS, szD, szN] at hz); (try (refine bcB (n := wr.heap.size) hb ?_; intro h_wr_0 e_wr_0 d_wr_0 _ _)); (try (refine bcB (n := w.heap.size) hb ?_; intro h_w_0 e_w_0 d_w_0 _ _)); (try (refine bcB (n := w.heap.size + 1) hb ?_; intro h_w_1 e_w_1 d_w_1 _ _)); (try (refine bcB (n := w1.heap.size) hb ?_; intro h_w1_0 e_w1_0 d_w1_0 _ _))))
        refine bodyPost_ret (v := .tuple #[.agg #[.slice none 0 0, .slice none 0 0], .int .i64 4]) (by simp only [results, Tryd.results31]; go_simp) rfl ⟨?_, by exact belz⟩
        unfold RdOk
        rw [← HRd.out]
      · rw [cutb_hit 10 line r2 q] at hC hrd
        simp only at hrd hC
        have hll : line.length + r2.length + 1 = (line ++ 10 :: r2).length := by simp; omega
        have HC := Lib.hid hC
        have HS := Lib.hid (fun w1 h1 => c_Split line w1 h1 (by omega))
        have hsl := spl_le line
        have hsc := spl_count line
        obtain ⟨w0, ws, hw⟩ : ∃ w0 ws, spl line = w0 :: ws := by
          cases hq : spl line with
          | nil => exact absurd hq (spl_ne line)
          | cons x y => exact ⟨x, y, rfl⟩
        rw [hw] at hrd hsl hsc HS
        obtain ⟨nw, hnw⟩ : ∃ nw, nw = (w0 :: ws).length := ⟨_, rfl⟩
        rw [← hnw] at HS
        have HN := Lib.hid hnw
        clear hnw
        simp only at hrd
        clear hC hw q
        generalize strB (line ++ 10 :: r2) = R at *
        generalize strB line = Ln at *
        obtain ⟨f0, f1, ff0, ff1, flt, hp, xs, hx, hxr⟩ := hF
        have HO1 := Lib.hid hp
        have HO2 := Lib.hid hx
        have HO3 := Lib.hid hxr
        clear hp hx hxr
        go_upto_region 8 with (first | (go_at_call 41; (with_reducible refine (HC.out _).mono ?_); rintro e w1 ⟨rfl, hb⟩; have hz := hb.size; (try simp only [szA, szS, szD, szN] at hz); (try (refine bcB (n := wr.heap.size) hb ?_; intro h_wr_0 e_wr_0 d_wr_0 _ _)); (try (refine bcB (n := w.heap.size) hb ?_; intro h_w_0 e_w_0 d_w_0 _ _)); (try (refine bcB (n := w.heap.size + 1) hb ?_; intro h_w_1 e_w_1 d_w_1 _ _))) | (go_at_call 56; (with_reducible refine (HS.out _ (HM.out.below (by exact belz))).mono ?_); rintro e w2 ⟨bw, rfl, hbw, hTx, hb⟩; have hz := hb.size; (try simp only [szA, szS, szD, szN] at hz); (try (refine bcB (n := wr.heap.size) hb ?_; intro h_wr_0 e_wr_0 d_wr_0 _ _)); (try (refine bcB (n := w.heap.size) hb ?_; intro h_w_0 e_w_0 d_w_0 _ _)); (try (refine bcB (n := w.heap.size + 1) hb ?_; intro h_w_1 e_w_1 d_w_1 _ _)); (try (refine bcB (n := w1.heap.size) hb ?_; intro h_w1_0 e_w1_0 d_w1_0 _ _))))
        obtain ⟨bw', off', ea, hbl, hc0⟩ := hTx 0 (by simp)
        injection ea with ea
        injection ea with ea1 ea2
        subst ea1 ea2
        have ixw := @ix_Tx (some ⟨bw, 0, none⟩) bw 0 nw nw 0 rfl (by rw [HN.out]; simp)
        have ixv : ∀ w, (Instr.indexAt 107 (.slice (some ⟨bw, 0, none⟩) nw nw) (.int .i64 0)).run Tryd.prog w = .ok (.pointer (some ⟨bw, 0, none⟩)) w := ixw
        have hcw : w2.cell? ⟨bw, 0, none⟩ = some (.string (strB w0)) := hc0
        clear ixw hc0
        obtain ⟨bm, cb, rfl, hcb, hmt⟩ := own_Mat HO2.out HO3.out
        obtain ⟨aw, haw, hTs⟩ : ∃ aw, (∀ w, (Instr.slice 107 (.slice (some ⟨bw, 0, none⟩) nw nw) (some (.int .i64 1)) none none).run Tryd.prog w = .ok (.slice aw ws.length ws.length) w) ∧ TxSlice w2 aw ws := by
          have hnw := HN.out
          subst hnw
          cases ws with
          | nil => exact ⟨some ⟨bw, 0, none⟩, fun w => by go_simp, fun k hk => by simp at hk⟩
          | cons x l => exact ⟨some ⟨bw, 1, none⟩, fun w => by
              have h9 : ¬ ((l.length : Int) + 1 + 1 < 1) := by omega
              have h8 : (1 : Int) ≤ (l.length : Int) + 1 + 1 := by omega
              go_simp, fun k hk => by
              obtain ⟨b8, o8, e8, l8, c8⟩ := hTx (k + 1) (by simpa using hk)
              injection e8 with e8
              injection e8 with e81 e82
              subst e81 e82
              refine ⟨bw, 1, rfl, l8, ?_⟩
              rw [show 1 + k = 0 + (k + 1) by omega]
              exact c8⟩
        by_cases hw0 : w0 = [112]
        · by_cases hL : L = []
          · subst hw0 hL
            rw [if_pos ⟨rfl, rfl⟩] at hrd
            change w2.cell? ⟨bw, 0, none⟩ = some (.string ⟨#[112]⟩) at hcw
            have HPt := Lib.hid (fun w1 h1 h2 h3 => c_point aw ws.length ws w1 h1 h2 (fun x hx => by have := hsl x (List.mem_cons_of_mem _ hx); omega) h3 (Nat.le_refl _))
            have HTx := Lib.hid hTs
            have HRd := Lib.hid hrd
            clear hTs hrd hTx
            clear HN
            have e9 := hv2 rfl
            injection e9 with e91 _ e92
            subst e91 e92
            clear hv2 hmt hcb
            go_upto_region 11 with (go_at_call 57; (with_reducible refine (HPt.out _ (HT.out.below (by exact belz)) (HE.out.below (by exact belz)) (HTx.out.below (Nat.le_refl _) (by exact belz))).mono ?_); rintro e w3 ⟨p, bo, rfl, hpr, hb⟩; have hz := hb.size; (try simp only [szA, szS, szD, szN] at hz); (try (refine bcB (n := wr.heap.size) hb ?_; intro h_wr_0 e_wr_0 d_wr_0 _ _)); (try (refine bcB (n := w.heap.size) hb ?_; intro h_w_0 e_w_0 d_w_0 _ _)); (try (refine bcB (n := w.heap.size + 1) hb ?_; intro h_w_1 e_w_1 d_w_1 _ _)); (try (refine bcB (n := w2.heap.size) hb ?_; intro h_w2_0 e_w2_0 d_w2_0 _ _)))
            have hb3 : Below wr.heap.size wr w3 := by (clear hbel; exact belz)
            have hs3 : wr.heap.size ≤ w3.heap.size := by omega
            obtain ⟨p0, p1, p2, p3⟩ := p
            dsimp only at hpr ⊢
            go_wp2_with (at_builtin; go_loud (refine wpList_append_own _ rfl (.tmp 47) (.tmp 49) 54 rfl (w.heap.size + 1 + 1) 63 i0 (.agg #[.int .i64 0, .int .i64 0, .int .i64 0, .int .i64 0]) 4 32 Tryd.underlying54 hi0 hz0 hz1 hz2 rfl (by decide) v1 P.length (fpcs P) rfl (own_below HO1.out (by (clear hbel; exact belz))) ⟨w3.heap.size, 0, none⟩ 1 1 [.int .i64 p0, .int .i64 p1, .int .i64 p2, .int .i64 p3] rfl rfl ?c1 ?c2 ?c3 ?c4 ?c5 ?_))
            case c1 =>
              intro j u hj
              match j, hj with
              | 0, hj => simp at hj; subst hj; simp only [Addr.add]; go_simp
              | 1, hj => simp at hj; subst hj; simp only [Addr.add]; go_simp
              | 2, hj => simp at hj; subst hj; simp only [Addr.add]; go_simp
              | 3, hj => simp at hj; subst hj; simp only [Addr.add]; go_simp
            case c2 => intro u hu; simp at hu; rcases hu with rfl | rfl | rfl | rfl <;> rfl
            case c3 => unfold maxLen; omega
            case c4 => omega
            case c5 => simp; omega
            intro v' w7 ho7 hg7 _
            have hb7 : Below (w.heap.size + 1 + 1) wr w7 := by
              refine Below.grown ?_ hg7 ?_ ?_
              · (clear hbel; exact belz)
              · simp; omega
              · intro q hq
                exact (own_ty HO1.out q hq).1
            have k0 := (hb7.cell (p := ⟨w.heap.size, 0, none⟩) (by show w.heap.size < w.heap.size + 1 + 1; omega)).trans r0
            have k1 := (hb7.cell (p := ⟨w.heap.size, 1, none⟩) (by show w.heap.size < w.heap.size + 1 + 1; omega)).trans r1
            have k2 := (hb7.frozen (p := ⟨w.heap.size, 0, none⟩) (by show w.heap.size < w.heap.size + 1 + 1; omega)).trans rf0
            have k3 := (hb7.frozen (p := ⟨w.heap.size, 1, none⟩) (by show w.heap.size < w.heap.size + 1 + 1; omega)).trans rf1
            have k4 := (hb7.cell (p := ⟨w.heap.size + 1, 0, none⟩) (by show w.heap.size + 1 < w.heap.size + 1 + 1; omega)).trans f0
            have k5 := (hb7.cell (p := ⟨w.heap.size + 1, 1, none⟩) (by show w.heap.size + 1 < w.heap.size + 1 + 1; omega)).trans f1
            have k6 := (hb7.frozen (p := ⟨w.heap.size + 1, 0, none⟩) (by show w.heap.size + 1 < w.heap.size + 1 + 1; omega)).trans ff0
            have k7 := (hb7.frozen (p := ⟨w.heap.size + 1, 1, none⟩) (by show w.heap.size + 1 < w.heap.size + 1 + 1; omega)).trans ff1
            have hz7 := hb7.size
            have hb8 : Below w.heap.size w w7 := hbel.trans (hb7.mono (by omega))
            obtain ⟨va, vn, vc, rfl⟩ := own_sl ho7
            have HO7 := Lib.hid ho7
            clear ho7 hg7
            cases bo with
            | false =>
              go_wp2_with fail
              refine bodyPost_ret (v := .tuple #[.agg #[.slice none 0 0, .slice none 0 0], .int .i64 4]) (by simp only [results, Tryd.results31]; go_simp) rfl ⟨?_, by exact belz⟩
              have h9 := HRd.out
              rw [hpr] at h9
              unfold RdOk
              rw [← h9]
              rfl
            | true =>
              go_wp2_with fail
              have h9 : rdF j r2 (P ++ [⟨p0, p1, p2, p3⟩]) [] = rd s := by
                have h9 := HRd.out
                rw [hpr] at h9
                exact h9
              go_roundg j
              case measure => omega
              case rel =>
                refine ⟨r2, P ++ [⟨p0, p1, p2, p3⟩], [], .slice va vn vc, .slice none 0 0, rfl, by omega, h9, ?_, ⟨?_, ?_, ?_, ?_, ?_⟩, fun _ => rfl, ⟨?_, ?_, ?_, ?_, ?_, ?_, [], World.ownsRow_nil _ _ _ _, fun k h => by simp at h⟩, ?_⟩
                case refine_1 => simp only [List.length_append, List.length_cons, List.length_nil] at hlen hll ⊢; omega
                case refine_12 =>
                  have e1 : (P ++ [(⟨p0, p1, p2, p3⟩ : Fp)]).length = P.length + 1 := by simp
                  have e2 : fpcs (P ++ [(⟨p0, p1, p2, p3⟩ : Fp)]) = fpcs P ++ [.int .i64 p0, .int .i64 p1, .int .i64 p2, .int .i64 p3] := by simp [fpcs, fpc]
                  rw [e1, e2]
                  exact ownK HO7.out (fun g h1 _ => setCell_heap _ _ _ _ (by show g ≠ w.heap.size + 1; omega))
                case refine_13 => exact belz
                case refine_6 => simp; omega
                case refine_11 => simp; omega
                all_goals first | (go_simp; done) | go_keep
          · have gL : ((L.length : Int) == 0) = false := by
              cases L with
              | nil => exact absurd rfl hL
              | cons x y => exact beq_eq_false_iff_ne.2 (by simp; omega)
            subst hw0
            rw [if_neg (fun h => hL h.2), if_neg (by decide)] at hrd
            change w2.cell? ⟨bw, 0, none⟩ = some (.string ⟨#[112]⟩) at hcw
            have HRd := Lib.hid hrd
            clear hrd hTx HN HO1 HO2 HO3
            go_wp2_with fail
            refine bodyPost_ret (v := .tuple #[.agg #[.slice none 0 0, .slice none 0 0], .int .i64 4]) (by simp only [results, Tryd.results31]; go_simp) rfl ⟨?_, by exact belz⟩
            unfold RdOk
            rw [← HRd.out]
        · rw [if_neg (fun h => hw0 h.1)] at hrd
          by_cases hw1 : w0 = [108]
          · subst hw1
            rw [if_pos rfl] at hrd
            change w2.cell? ⟨bw, 0, none⟩ = some (.string ⟨#[108]⟩) at hcw
            have HTx := Lib.hid hTs
            have HRd := Lib.hid hrd
            have hnws : ws.length ≤ 16001 := by simp only [List.length_cons] at hsc; omega
            clear hTs hrd hTx HN hmt hcb
            cases hlr : lnR ws with
            | none =>
              have HPn := Lib.hid (fun w1 h1 h2 h3 => c_polyN aw ws w1 h1 h2 (fun x hx => by have := hsl x (List.mem_cons_of_mem _ hx); omega) hnws h3 hlr)
              go_upto_region 15 with (go_at_call 58; (with_reducible refine (HPn.out _ (HT.out.below (by exact belz)) (HE.out.below (by exact belz)) (HTx.out.below (Nat.le_refl _) (by exact belz))).mono ?_); rintro e w3 ⟨rfl, hb⟩; have hz := hb.size; (try simp only [szA, szS, szD, szN] at hz); (try (refine bcB (n := wr.heap.size) hb ?_; intro h_wr_0 e_wr_0 d_wr_0 _ _)); (try (refine bcB (n := w.heap.size) hb ?_; intro h_w_0 e_w_0 d_w_0 _ _)); (try (refine bcB (n := w.heap.size + 1) hb ?_; intro h_w_1 e_w_1 d_w_1 _ _)); (try (refine bcB (n := w2.heap.size) hb ?_; intro h_w2_0 e_w2_0 d_w2_0 _ _)))
              go_wp2_with (at_builtin; go_loud (refine wpList_append_own _ rfl (.tmp 67) (.tmp 69) 55 rfl (w.heap.size + 1 + 1) 39 j0 (.slice none 0 0) 1 24 Tryd.underlying55 hj0 jz0 jz1 jz2 rfl (by decide) (.slice bm L.length cb) L.length xs rfl (own_below HO2.out (by (clear hbel; exact belz))) ⟨w3.heap.size, 0, none⟩ 1 1 [.slice none 0 0] rfl rfl ?c1 ?c2 ?c3 ?c4 ?c5 ?_))
              case c1 =>
                intro j u hj
                match j, hj with
                | 0, hj => simp at hj; subst hj; simp only [Addr.add]; go_simp
              case c2 => intro u hu; simp at hu; subst hu; rfl
              case c3 => unfold maxLen; omega
              case c4 => omega
              case c5 => simp; omega
              intro v' w7 ho7 hg7 _
              have hb7 : Below (w.heap.size + 1 + 1) wr w7 := by
                refine Below.grown ?_ hg7 ?_ ?_
                · (clear hbel; exact belz)
                · simp; omega
                · intro q hq
                  exact (own_ty HO2.out q hq).1
              have k0 := (hb7.cell (p := ⟨w.heap.size, 0, none⟩) (by show w.heap.size < w.heap.size + 1 + 1; omega)).trans r0
              have k1 := (hb7.cell (p := ⟨w.heap.size, 1, none⟩) (by show w.heap.size < w.heap.size + 1 + 1; omega)).trans r1
              have k2 := (hb7.frozen (p := ⟨w.heap.size, 0, none⟩) (by show w.heap.size < w.heap.size + 1 + 1; omega)).trans rf0
              have k3 := (hb7.frozen (p := ⟨w.heap.size, 1, none⟩) (by show w.heap.size < w.heap.size + 1 + 1; omega)).trans rf1
              have k4 := (hb7.cell (p := ⟨w.heap.size + 1, 0, none⟩) (by show w.heap.size + 1 < w.heap.size + 1 + 1; omega)).trans f0
              have k5 := (hb7.cell (p := ⟨w.heap.size + 1, 1, none⟩) (by show w.heap.size + 1 < w.heap.size + 1 + 1; omega)).trans f1
              have k6 := (hb7.frozen (p := ⟨w.heap.size + 1, 0, none⟩) (by show w.heap.size + 1 < w.heap.size + 1 + 1; omega)).trans ff0
              have k7 := (hb7.frozen (p := ⟨w.heap.size + 1, 1, none⟩) (by show w.heap.size + 1 < w.heap.size + 1 + 1; omega)).trans ff1
              have hz7 := hb7.size
              have hb8 : Below w.heap.size w w7 := hbel.trans (hb7.mono (by omega))
              obtain ⟨va, vn, vc, rfl⟩ := own_sl ho7
              clear ho7 hg7
              go_wp2_with fail
              refine bodyPost_ret (v := .tuple #[.agg #[.slice none 0 0, .slice none 0 0], .int .i64 4]) (by simp only [results, Tryd.results31]; go_simp) rfl ⟨?_, by exact belz⟩
              have h9 := HRd.out
              rw [hlr] at h9
              unfold RdOk
              rw [← h9]
            | some r =>
              have HPn := Lib.hid (fun w1 h1 h2 h3 => c_polyS aw ws r w1 h1 h2 (fun x hx => by have := hsl x (List.mem_cons_of_mem _ hx); omega) hnws h3 hlr)
              go_upto_region 15 with (go_at_call 58; (with_reducible refine (HPn.out _ (HT.out.below (by exact belz)) (HE.out.below (by exact belz)) (HTx.out.below (Nat.le_refl _) (by exact belz))).mono ?_); rintro e w3 ⟨b9, m9, c9, rfl, hrow, hb⟩; have hz := hb.size; (try simp only [szA, szS, szD, szN] at hz); (try (refine bcB (n := wr.heap.size) hb ?_; intro h_wr_0 e_wr_0 d_wr_0 _ _)); (try (refine bcB (n := w.heap.size) hb ?_; intro h_w_0 e_w_0 d_w_0 _ _)); (try (refine bcB (n := w.heap.size + 1) hb ?_; intro h_w_1 e_w_1 d_w_1 _ _)); (try (refine bcB (n := w2.heap.size) hb ?_; intro h_w2_0 e_w2_0 d_w2_0 _ _)))
              have hs3 : wr.heap.size ≤ w3.heap.size := by omega
              have hs2 : wr.heap.size ≤ w2.heap.size := by omega
              have hb3 : Below wr.heap.size wr w3 := by (clear hbel; exact belz)
              have HR9 := Lib.hid hrow
              clear hrow
              go_wp2_with (at_builtin; go_loud (refine wpList_append_own _ rfl (.tmp 67) (.tmp 69) 55 rfl (w.heap.size + 1 + 1) 39 j0 (.slice none 0 0) 1 24 Tryd.underlying55 hj0 jz0 jz1 jz2 rfl (by decide) (.slice bm L.length cb) L.length xs rfl (own_below HO2.out (by (clear hbel; exact belz))) ⟨w3.heap.size, 0, none⟩ 1 1 [.slice b9 m9 c9] rfl rfl ?c1 ?c2 ?c3 ?c4 ?c5 ?_))
              case c1 =>
                intro j u hj
                match j, hj with
                | 0, hj => simp at hj; subst hj; simp only [Addr.add]; go_simp
              case c2 => intro u hu; simp at hu; subst hu; rfl
              case c3 => unfold maxLen; omega
              case c4 => omega
              case c5 => simp; omega
              intro v' w7 ho7 hg7 _
              have hb7 : Below (w.heap.size + 1 + 1) wr w7 := by
                refine Below.grown ?_ hg7 ?_ ?_
                · (clear hbel; exact belz)
                · simp; omega
                · intro q hq
                  exact (own_ty HO2.out q hq).1
              have k0 := (hb7.cell (p := ⟨w.heap.size, 0, none⟩) (by show w.heap.size < w.heap.size + 1 + 1; omega)).trans r0
              have k1 := (hb7.cell (p := ⟨w.heap.size, 1, none⟩) (by show w.heap.size < w.heap.size + 1 + 1; omega)).trans r1
              have k2 := (hb7.frozen (p := ⟨w.heap.size, 0, none⟩) (by show w.heap.size < w.heap.size + 1 + 1; omega)).trans rf0
              have k3 := (hb7.frozen (p := ⟨w.heap.size, 1, none⟩) (by show w.heap.size < w.heap.size + 1 + 1; omega)).trans rf1
              have k4 := (hb7.cell (p := ⟨w.heap.size + 1, 0, none⟩) (by show w.heap.size + 1 < w.heap.size + 1 + 1; omega)).trans f0
              have k5 := (hb7.cell (p := ⟨w.heap.size + 1, 1, none⟩) (by show w.heap.size + 1 < w.heap.size + 1 + 1; omega)).trans f1
              have k6 := (hb7.frozen (p := ⟨w.heap.size + 1, 0, none⟩) (by show w.heap.size + 1 < w.heap.size + 1 + 1; omega)).trans ff0
              have k7 := (hb7.frozen (p := ⟨w.heap.size + 1, 1, none⟩) (by show w.heap.size + 1 < w.heap.size + 1 + 1; omega)).trans ff1
              have hz7 := hb7.size
              have hb8 : Below w.heap.size w w7 := hbel.trans (hb7.mono (by omega))
              have HO9 := Lib.hid (show w7.ownsRow (w.heap.size + 1 + 1) 3 1 (.slice b9 m9 c9) r.length (icells r) from own_base (own_other ((HR9.out).alloc _) (((own_below HO2.out hb3).alloc _)) (by decide) hg7) (by omega))
              have HP9 := Lib.hid (show w7.ownsRow (w.heap.size + 1 + 1) 63 4 v1 P.length (fpcs P) from own_other ((own_below HO1.out hb3).alloc _) (((own_below HO2.out hb3).alloc _)) (by decide) hg7)
              have HL9 := Lib.hid (show ∀ k (h : k < L.length), ∃ v, xs[k]? = some v ∧ w7.ownsRow (w.heap.size + 1 + 1) 3 1 v L[k].length (icells L[k]) from fun k hk => by
                obtain ⟨v, x1, x2⟩ := HO3.out k hk
                exact ⟨v, x1, own_other ((own_below x2 hb3).alloc _) (((own_below HO2.out hb3).alloc _)) (by decide) hg7⟩)
              obtain ⟨va, vn, vc, rfl⟩ := own_sl ho7
              have HO7 := Lib.hid ho7
              clear ho7 hg7
              go_wp2_with fail
              have h9 : rdF j r2 P (L ++ [r]) = rd s := by
                have h9 := HRd.out
                rw [hlr] at h9
                exact h9
              go_roundg j
              case measure => omega
              case rel =>
                have key : ∀ (g : Nat), w.heap.size + 1 + 1 ≤ g → g < w7.heap.size → (w7.setCell ⟨w.heap.size + 1, 1, none⟩ (.slice va vn vc)).heap[g]? = w7.heap[g]? := fun g h1 _ => setCell_heap _ _ _ _ (by show g ≠ w.heap.size + 1; omega)
                have e1 : (L ++ [r]).length = L.length + 1 := by simp
                have hxl : xs.length = L.length := by have := HO2.out.1; omega
                refine ⟨r2, P, L ++ [r], v1, .slice va vn vc, rfl, by omega, h9, ?_, ⟨?_, ?_, ?_, ?_, ?_⟩, fun h => by simp at h, ⟨?_, ?_, ?_, ?_, ?_, ?_, xs ++ [.slice b9 m9 c9], ?_, ?_⟩, ?_⟩
                case refine_1 => simp only [List.length_append, List.length_cons, List.length_nil] at hlen hll ⊢; omega
                case refine_6 => simp; omega
                case refine_11 => simp; omega
                case refine_12 => exact ownK HP9.out key
                case refine_13 => rw [e1]; exact ownK HO7.out key
                case refine_14 =>
                  intro k hk
                  by_cases hkl : k < L.length
                  · obtain ⟨v, x1, x2⟩ := HL9.out k hkl
                    refine ⟨v, ?_, ?_⟩
                    · rw [List.getElem?_append_left (by omega)]; exact x1
                    · rw [List.getElem_append_left hkl]; exact ownK x2 key
                  · have hk2 : k = L.length := by omega
                    subst hk2
                    refine ⟨.slice b9 m9 c9, ?_, ?_⟩
                    · rw [List.getElem?_append_right (by omega), hxl, Nat.sub_self]; rfl
                    · rw [List.getElem_append_right (Nat.le_refl _)]
                      simp only [Nat.sub_self, List.getElem_cons_zero]
                      exact ownK HO9.out key
                case refine_15 => exact belz
                all_goals first | (go_simp; done) | go_keep
          · rw [if_neg hw1] at hrd
            have q1 : ((strB w0).toList == [112]) = false := by
              rw [ByteArray.toList_eq, strB_l]; exact beq_eq_false_iff_ne.2 hw0
            have q2 : ((strB w0).toList == [108]) = false := by
              rw [ByteArray.toList_eq, strB_l]; exact beq_eq_false_iff_ne.2 hw1
            have HRd := Lib.hid hrd
            clear hrd hTx HN HO1 HO2 HO3 hsl hsc
            generalize strB w0 = S0 at *
            go_wp2_with fail
            refine bodyPost_ret (v := .tuple #[.agg #[.slice none 0 0, .slice none 0 0], .int .i64 4]) (by simp only [results, Tryd.results31]; go_simp) rfl ⟨?_, by exact belz⟩
            unfold RdOk
            rw [← HRd.out]
end Go.Proofs.YtbcehnhiedbbbaaDoor
