/- The contract of figure.polyline. -/
import Derived.Test.YtbcehnhiedbbbaaDoorWalkFp
import Derived.Test.YtbcehnhiedbbbaaDoorWalkOwn
set_option linter.unusedVariables false
set_option linter.unusedSimpArgs false
namespace Go.Proofs.YtbcehnhiedbbbaaDoor
open Go.RowKit
theorem lnR_snoc : ∀ (l : List (List UInt8)) (x : List UInt8) (q : List Int) (v : Int), lnR l = some q → inR x = some v → lnR (l ++ [x]) = some (q ++ [v])
  | [], x, q, v, h, hx => by injection h with h; subst h; simp [lnR, hx]
  | y :: l, x, q, v, h, hx => by
    unfold lnR at h
    split at h
    · rename_i u p hu hp
      injection h with h
      subst h
      rw [List.cons_append, lnR, hu, lnR_snoc l x p v hp hx]
      rfl
    · cases h
theorem lnR_bad : ∀ (l : List (List UInt8)) (k : Nat) (h : k < l.length), inR l[k] = none → lnR l = none
  | [], k, h, _ => by simp at h
  | y :: l, 0, h, hx => by
    have hx' : inR y = none := hx
    rw [lnR, hx']
  | y :: l, k + 1, h, hx => by
    have := lnR_bad l k (by simpa using h) hx
    rw [lnR, this]
    cases inR y <;> rfl
def icells (r : List Int) : List Value := r.map (Value.int .i64)
inductive Wd (x : List UInt8) : Prop where
  | ok (n : Int) (h : inR x = some n) (a : ∀ w, Calls Tryd.prog 42 #[.string (strB x)] w fun e w' => e = .returned (.tuple #[.int .i64 n, .nilIface]) ∧ Below w.heap.size w w')
      (i : ∀ w, NTab w → Calls Tryd.prog 40 #[.int .i64 n] w fun e w' => e = .returned (.string (strB x)) ∧ Below w.heap.size w w')
  | er (h : inR x = none) (a : ∀ w, NEr w → Calls Tryd.prog 42 #[.string (strB x)] w fun e w' => ∃ (v : Int) (tp : TypeId) (p : Value), e = .returned (.tuple #[.int .i64 v, .iface tp p]) ∧ Below w.heap.size w w')
  | ne (h : inR x = none) (n : Int) (y : ByteArray) (a : ∀ w, Calls Tryd.prog 42 #[.string (strB x)] w fun e w' => e = .returned (.tuple #[.int .i64 n, .nilIface]) ∧ Below w.heap.size w w')
      (i : ∀ w, NTab w → Calls Tryd.prog 40 #[.int .i64 n] w fun e w' => e = .returned (.string y) ∧ Below w.heap.size w w') (q : (y.toList == (strB x).toList) = false)
theorem wd_all (x : List UInt8) (hx : x.length ≤ 16000) : Wd x := by
  have hz : (strB x).size ≤ 281474976710656 := by rw [strB_size]; omega
  cases ha : Go.Lib.atoiAll x with
  | ok v =>
    have hb := Go.Lib.atoiAll_bounds ha
    have h1 := fun w => c_AtoiOk (strB x) w hz (v := v) (by rw [strB_l]; exact ha)
    have h2 := fun w hT => c_ItoaB v w hT hb.1 hb.2
    by_cases e : Go.Lib.itoa v = x
    · rw [e] at h2
      exact .ok v (by unfold inR; rw [ha]; simp [e]) h1 h2
    · exact .ne (by unfold inR; rw [ha]; simp [e]) v _ h1 h2 (by rw [ByteArray.toList_eq, ByteArray.toList_eq]; exact beq_eq_false_iff_ne.2 (fun r => e (strB_inj (Go.WideShapes.bytes_inj r))))
  | «syntax» => exact .er (by unfold inR; rw [ha]) (fun w h => c_AtoiErr (strB x) w h hz (by rw [strB_l, ha]; intro v q; cases q))
  | range => exact .er (by unfold inR; rw [ha]) (fun w h => c_AtoiErr (strB x) w h hz (by rw [strB_l, ha]; intro v q; cases q))
set_option maxRecDepth 100000 in
set_option maxHeartbeats 4000000 in
theorem c_poly (a : Option Addr) (cap : Nat) (ws : List (List UInt8)) (w : World) (hT : NTab w) (hE : NEr w) (hl : ∀ x ∈ ws, x.length ≤ 16000) (hn : ws.length ≤ 16001) (h : TxSlice w a ws) (hcap : ws.length ≤ cap) :
    Calls Tryd.prog 58 #[.slice a ws.length cap] w fun e w' => ((∃ v r, lnR ws = some r ∧ e = .returned (.tuple #[v, .bool true]) ∧ w'.ownsRow w.heap.size 3 1 v r.length (icells r)) ∨ (lnR ws = none ∧ e = .returned (.tuple #[.slice none 0 0, .bool false]))) ∧ Below w.heap.size w w' := by
  obtain ⟨i0, hi0, hz0, hz1, hz2⟩ := info_parts (show (Tryd.prog.info? 3).map (fun i => (i.zero, i.size, i.bytes)) = some (some (.int .i64 0), 1, 8) by kernel_rfl)
  have HW := Lib.hid h
  have HT := Lib.hid hT
  have HE := Lib.hid hE
  clear h hT hE
  have hgen := sgen; have hgen2 := sgen2; have hgen3 := sgen3; go_enter Tryd.func58, Tryd.ntmps58
  go_wp2
  go_loopg [4, 11] ws.length (fun gk x4 i wr => ∃ (k : Nat) (r : List Int), gk + k = ws.length ∧ i = .int .i64 k ∧ lnR (ws.take k) = some r ∧ r.length = k ∧ wr.ownsRow w.heap.size 3 1 x4 k (icells r) ∧ Below w.heap.size w wr)
  case atStart => exact ⟨0, [], by omega, rfl, rfl, rfl, World.ownsRow_nil _ _ _ _, by exact belz⟩
  case round =>
    obtain ⟨k, r, hk, rfl, hr, hrl, hO, hbel⟩ := hrel
    have HO := Lib.hid hO
    have hsz := hbel.size
    clear hO
    by_cases hlt : k < ws.length
    · obtain ⟨bb, off, ha, hb1, c0⟩ := (HW.out.below (Nat.le_refl _) hbel) k hlt
      have ix1 := @ix_Tx a bb off ws.length cap k ha hlt
      have hbad := lnR_bad ws k hlt
      have hsn : ws.take (k + 1) = ws.take k ++ [ws[k]] := List.take_succ_eq_append_getElem hlt
      have hwd := wd_all ws[k] (hl _ (List.getElem_mem hlt))
      have hstep := lnR_snoc (ws.take k) ws[k] r
      rw [← hsn] at hstep
      clear ha hsn
      generalize ws[k] = x at *
      cases hwd with
      | ok n h1 a1 i1 =>
        have HA := Lib.hid a1
        have HI := Lib.hid i1
        have HST := Lib.hid (hstep n hr h1)
        clear a1 i1 hstep hbad h1 hr
        generalize strB x = X at *
        go_upto_region 8 with (first | (go_at_call 42; (with_reducible refine (HA.out _).mono ?_); rintro e w2 ⟨rfl, hb⟩; have hz := hb.size; (try simp only [szA, szS, szD, szN] at hz); (try (refine bcB (n := w.heap.size) hb ?_; intro h_w_0 e_w_0 d_w_0 _ _)); (try (refine bcB (n := wr.heap.size) hb ?_; intro h_wr_0 e_wr_0 d_wr_0 _ _))) | (go_at_call 40; (with_reducible refine (HI.out _ (HT.out.below (by exact belz))).mono ?_); rintro e w3 ⟨rfl, hb⟩; have hz := hb.size; (try simp only [szA, szS, szD, szN] at hz); (try (refine bcB (n := w.heap.size) hb ?_; intro h_w_0 e_w_0 d_w_0 _ _)); (try (refine bcB (n := wr.heap.size) hb ?_; intro h_wr_0 e_wr_0 d_wr_0 _ _)); (try (refine bcB (n := w2.heap.size) hb ?_; intro h_w2_0 e_w2_0 d_w2_0 _ _))))
        have hb3 : Below wr.heap.size wr w3 := by (clear hbel; exact belz)
        have hs3 : wr.heap.size ≤ w3.heap.size := by omega
        go_wp2_with (at_builtin; refine wpList_append_own _ rfl _ _ 39 rfl w.heap.size 3 i0 (.int .i64 0) 1 8 Tryd.underlying39 hi0 hz0 hz1 hz2 rfl (by decide) _ k _ rfl ((own_below HO.out hb3).alloc _) ⟨w3.heap.size, 0, none⟩ 1 1 [.int .i64 n] rfl rfl ?c1 ?c2 ?c3 ?c4 ?c5 ?_)
        case c1 =>
          intro j u hj
          match j, hj with
          | 0, hj => simp at hj; subst hj; simp only [Addr.add]; go_simp
        case c2 => intro u hu; simp at hu; subst hu; rfl
        case c3 => unfold maxLen; omega
        case c4 => omega
        case c5 => simp; omega
        intro v' w5 hown' hgrow hnil
        have hb2 : Below w.heap.size w w5 := by
          refine Below.grown ?_ hgrow ?_ ?_
          · exact belz
          · simp; omega
          · intro g hg
            exact (HO.out.lt g hg).1
        have HO2 : Hid (w5.ownsRow w.heap.size 3 1 v' (k + 1) (icells (r ++ [n]))) := Lib.hid (by
          rw [show icells (r ++ [n]) = icells r ++ [.int .i64 n] by simp [icells]]; exact hown')
        clear hown' hgrow hnil
        go_wp2_with fail
        go_roundg (ws.length - (k + 1))
        case measure => omega
        case rel => exact ⟨k + 1, r ++ [n], by omega, by go_num, HST.out, by simp [hrl], HO2.out, hb2⟩
      | er h1 a1 =>
        have HA := Lib.hid a1
        have HB := Lib.hid (hbad h1)
        clear a1 hstep hbad h1 hr
        generalize strB x = X at *
        go_wp2_with (first | (go_at_call 42; (with_reducible refine (HA.out _ (HE.out.below (by exact belz))).mono ?_); rintro e w2 ⟨v9, tp9, p9, rfl, hb⟩; have hz := hb.size; (try simp only [szA, szS, szD, szN] at hz); (try (refine bcB (n := w.heap.size) hb ?_; intro h_w_0 e_w_0 d_w_0 _ _)); (try (refine bcB (n := wr.heap.size) hb ?_; intro h_wr_0 e_wr_0 d_wr_0 _ _))))
        refine bodyPost_ret (v := .tuple #[.slice none 0 0, .bool false]) (by simp only [results, Tryd.results58]; go_simp) rfl ⟨.inr ⟨HB.out, rfl⟩, ?_⟩
        exact belz
      | ne h1 n y a1 i1 q =>
        have HA := Lib.hid a1
        have HI := Lib.hid i1
        have HB := Lib.hid (hbad h1)
        clear a1 i1 hstep hbad h1 hr
        generalize strB x = X at *
        go_wp2_with (first | (go_at_call 42; (with_reducible refine (HA.out _).mono ?_); rintro e w2 ⟨rfl, hb⟩; have hz := hb.size; (try simp only [szA, szS, szD, szN] at hz); (try (refine bcB (n := w.heap.size) hb ?_; intro h_w_0 e_w_0 d_w_0 _ _)); (try (refine bcB (n := wr.heap.size) hb ?_; intro h_wr_0 e_wr_0 d_wr_0 _ _))) | (go_at_call 40; (with_reducible refine (HI.out _ (HT.out.below (by exact belz))).mono ?_); rintro e w3 ⟨rfl, hb⟩; have hz := hb.size; (try simp only [szA, szS, szD, szN] at hz); (try (refine bcB (n := w.heap.size) hb ?_; intro h_w_0 e_w_0 d_w_0 _ _)); (try (refine bcB (n := wr.heap.size) hb ?_; intro h_wr_0 e_wr_0 d_wr_0 _ _)); (try (refine bcB (n := w2.heap.size) hb ?_; intro h_w2_0 e_w2_0 d_w2_0 _ _))))
        refine bodyPost_ret (v := .tuple #[.slice none 0 0, .bool false]) (by simp only [results, Tryd.results58]; go_simp) rfl ⟨.inr ⟨HB.out, rfl⟩, ?_⟩
        exact belz
    · obtain rfl : k = ws.length := by omega
      rw [List.take_of_length_le (Nat.le_refl _)] at hr
      rw [← hrl] at HO
      have HR := Lib.hid hr
      clear hr
      go_wp2
      refine bodyPost_ret (by simp only [results, Tryd.results58]; go_simp) rfl ⟨.inl ⟨_, r, HR.out, rfl, HO.out⟩, ?_⟩
      exact belz
end Go.Proofs.YtbcehnhiedbbbaaDoor
