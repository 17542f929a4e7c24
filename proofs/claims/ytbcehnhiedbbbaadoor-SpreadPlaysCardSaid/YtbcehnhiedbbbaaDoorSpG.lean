/- The law SpreadPlays: what New answers; the law where New refuses. The law SpreadPlays: what its main loop keeps. -/
import Derived.Test.YtbcehnhiedbbbaaDoorSpF
import Derived.Deep.CutBlock
set_option linter.unusedVariables false
set_option linter.unusedSimpArgs false
namespace Go.Proofs.YtbcehnhiedbbbaaDoor
section
open Go.RowKit
def badE (nd : Int) (x : Ed) : Bool := decide (min x.p x.q < 0) || decide (nd ≤ max x.p x.q)
/-- The error of sizes and nodes. -/
def new0 (K : List Int) (nd : Int) (E : List Ed) : Int := if 8 < K.length ∨ 12 < nd ∨ 40 < E.length then 2 else if nd < 1 then 8 else 0
/-- The error of the first k keys too. -/
def newK (K : List Int) (nd : Int) (E : List Ed) (k : Nat) : Int := if new0 K nd E ≠ 0 then new0 K nd E else if (K.take k).any badK = true then 1 else 0
/-- The error of the first j edges too. -/
def newE (K : List Int) (nd : Int) (E : List Ed) (j : Nat) : Int := if newK K nd E K.length ≠ 0 then newK K nd E K.length else if (E.take j).any (badE nd) = true then 3 else 0
theorem badE_ok {nd : Nat} {x : Ed} : badE (nd : Int) x = false ↔ edOk nd x := by
  unfold badE edOk
  simp only [Bool.or_eq_false_iff, decide_eq_false_iff_not]
  omega
theorem newK_succ (K : List Int) (nd : Int) (E : List Ed) (k : Nat) (h : k < K.length) : newK K nd E (k + 1) = if newK K nd E k ≠ 0 then newK K nd E k else if badK K[k] = true then 1 else 0 := by
  unfold newK
  by_cases h0 : new0 K nd E ≠ 0
  · rw [if_pos h0, if_pos h0, if_pos h0]
  · rw [if_neg h0, if_neg h0, List.take_succ_eq_append_getElem h, List.any_append]
    cases (K.take k).any badK with
    | true => rfl
    | false => simp
theorem newE_succ (K : List Int) (nd : Int) (E : List Ed) (j : Nat) (h : j < E.length) : newE K nd E (j + 1) = if newE K nd E j ≠ 0 then newE K nd E j else if badE nd E[j] = true then 3 else 0 := by
  unfold newE
  by_cases h0 : newK K nd E K.length ≠ 0
  · rw [if_pos h0, if_pos h0, if_pos h0]
  · rw [if_neg h0, if_neg h0, List.take_succ_eq_append_getElem h, List.any_append]
    cases (E.take j).any (badE nd) with
    | true => rfl
    | false => simp
theorem newE_zero (K : List Int) (nd : Int) (E : List Ed) : newE K nd E 0 = newK K nd E K.length := by
  unfold newE
  by_cases h0 : newK K nd E K.length ≠ 0
  · rw [if_pos h0]
  · rw [if_neg h0]
    simp at h0
    simp [h0]
theorem newK_zero (K : List Int) (nd : Int) (E : List Ed) : newK K nd E 0 = new0 K nd E := by
  unfold newK
  by_cases h0 : new0 K nd E ≠ 0
  · rw [if_pos h0]
  · rw [if_neg h0]
    simp at h0
    simp [h0]
/-- What New answers where it refuses. -/
theorem c_New_bad (ka ea : Option Addr) (kc ec : Nat) (K : List Int) (E : List Ed) (nd : Int) (w : World) (hs : IntSlice w ka K) (hes : EdSlice w ea E) (hX : newE K nd E E.length ≠ 0) :
    Calls Tryd.prog 21 #[.slice ka K.length kc, .int .i64 nd, .slice ea E.length ec] w fun e w' => e = .returned (.tuple #[.pointer none, .int .i64 (newE K nd E E.length)]) ∧ Below w.heap.size w w' := by
  by_cases h1 : 8 < K.length ∨ 12 < nd ∨ 40 < E.length
  · have e0 : new0 K nd E = 2 := by unfold new0; rw [if_pos h1]
    have e1 : newK K nd E K.length = 2 := by unfold newK; rw [e0]; rfl
    have e2 : newE K nd E E.length = 2 := by unfold newE; rw [e1]; rfl
    rw [e2]
    exact c_New_large ka ea kc ec K E nd w h1
  · by_cases h2 : nd < 1
    · have e0 : new0 K nd E = 8 := by unfold new0; rw [if_neg h1, if_pos h2]
      have e1 : newK K nd E K.length = 8 := by unfold newK; rw [e0]; rfl
      have e2 : newE K nd E E.length = 8 := by unfold newE; rw [e1]; rfl
      rw [e2]
      exact c_New_form ka ea kc ec K E nd w (by omega) (by omega) (by omega) h2
    · have e0 : new0 K nd E = 0 := by unfold new0; rw [if_neg h1, if_neg h2]
      cases hk : K.any badK with
      | true =>
        have e1 : newK K nd E K.length = 1 := by unfold newK; rw [e0, List.take_of_length_le (Nat.le_refl _), hk]; rfl
        have e2 : newE K nd E E.length = 1 := by unfold newE; rw [e1]; rfl
        rw [e2]
        exact c_New_arg ka ea kc ec K E nd w hs (by omega) (by omega) (by omega) (by omega) hk
      | false =>
        obtain ⟨n, rfl⟩ : ∃ n : Nat, nd = (n : Int) := ⟨nd.toNat, by omega⟩
        have e1 : newK K (n : Int) E K.length = 0 := by unfold newK; rw [e0, List.take_of_length_le (Nat.le_refl _), hk]; rfl
        have e2 : newE K (n : Int) E E.length = if E.any (badE (n : Int)) = true then 3 else 0 := by unfold newE; rw [e1, List.take_of_length_le (Nat.le_refl _)]; rfl
        rw [e2] at hX ⊢
        cases ha : E.any (badE (n : Int)) with
        | false => rw [ha] at hX; exact absurd rfl hX
        | true =>
          rw [if_pos rfl]
          refine (c_New_net ka ea kc ec K E n w hs hes (by omega) (by omega) (by omega) (by omega) hk).mono fun e w' h => ?_
          rcases h with ⟨_, h3, h4⟩ | ⟨h3, _⟩
          · exact ⟨h3, h4⟩
          · obtain ⟨x, hx, hb⟩ := List.any_eq_true.1 ha
            rw [badE_ok.2 (h3 x hx)] at hb
            cases hb
/-- What New answers where it does not refuse. -/
theorem new_good {K : List Int} {nd : Int} {E : List Ed} (hX : newE K nd E E.length = 0) : K.length ≤ 8 ∧ E.length ≤ 40 ∧ (∃ n : Nat, nd = (n : Int) ∧ 1 ≤ n ∧ n ≤ 12 ∧ ∀ x ∈ E, edOk n x) ∧ K.any badK = false := by
  unfold newE at hX
  split at hX
  · contradiction
  · rename_i h1
    simp only [ne_eq, Decidable.not_not] at h1
    unfold newK at h1
    split at h1
    · contradiction
    · rename_i h0
      simp only [ne_eq, Decidable.not_not] at h0
      unfold new0 at h0
      split at h0
      · cases h0
      · split at h0
        · cases h0
        · rw [List.take_of_length_le (Nat.le_refl _)] at h1 hX
          refine ⟨by omega, by omega, ⟨nd.toNat, by omega, by omega, by omega, fun x hx => ?_⟩, ?_⟩
          · have h3 : E.any (badE nd) = false := by
              cases ha : E.any (badE nd) with
              | false => rfl
              | true => rw [ha, if_pos rfl] at hX; cases hX
            have := List.any_eq_false.1 h3 x hx
            have h4 : badE nd x = false := by simpa using this
            rw [show nd = ((nd.toNat : Nat) : Int) by omega] at h4
            exact badE_ok.1 h4
          · cases ha : K.any badK with
            | false => rfl
            | true => rw [ha, if_pos rfl] at h1; cases h1
theorem run_min2 (x y : Int) : ∀ ts t w, (Builtin.min_ ts t #[.int .i64 x, .int .i64 y]).run Tryd.prog w = .ok (.int .i64 (min x y)) w := by
  intro ts t w
  simp [Builtin.min_, Builtin.min2, List.foldlM]
  omega
theorem run_max2i (x y : Int) : ∀ ts t w, (Builtin.max_ ts t #[.int .i64 x, .int .i64 y]).run Tryd.prog w = .ok (.int .i64 (max x y)) w := by
  intro ts t w
  simp [Builtin.max_, Builtin.max2, List.foldlM]
  omega
set_option maxRecDepth 100000 in
set_option maxHeartbeats 4000000 in
theorem walk_SpreadBad (ka ea aa la : Option Addr) (kc ec an ac ln lc : Nat) (K : List Int) (E : List Ed) (nd : Int) (w : World) (hT : NTab w) (hs : IntSlice w ka K) (hes : EdSlice w ea E) (hkl : K.length ≤ maxLen) (hel : E.length ≤ maxLen) (hX : newE K nd E E.length ≠ 0) :
    Calls Tryd.prog 6 #[.slice ka K.length kc, .int .i64 nd, .slice ea E.length ec, .slice aa an ac, .slice la ln lc] w fun e w' => e = .returned (.bool true) ∧ Below w.heap.size w w' := by
  have HNw := Lib.hid (fun w1 h1 h2 => c_New_bad ka ea kc ec K E nd w1 h1 h2 hX)
  have HS := Lib.hid hs
  have HE := Lib.hid hes
  have HT := Lib.hid hT
  have HX := Lib.hid hX
  clear hs hes hT hX
  have hgen := sgen; have hgen2 := sgen2; have hgen3 := sgen3; go_enter Tryd.func6, Tryd.ntmps6
  go_upto_region 3 with (go_at_call 20; (with_reducible refine (c_spreadWorks _ (HT.out.below (by exact belz))).mono ?_); rintro e w1 ⟨rfl, hb⟩; have hz := hb.size; (try simp only [szA, szS, szD, szN] at hz); (try (refine bcB (n := w.heap.size) hb ?_; intro h_w_0 e_w_0 d_w_0 _ _)))
  have HB1 := Lib.hid (show Below w.heap.size w w1 by exact belz)
  go_upto_region 4 with (go_at_call 21; (with_reducible refine (HNw.out _ (HS.out.below (Nat.le_refl _) HB1.out) (HE.out.below (Nat.le_refl _) HB1.out)).mono ?_); rintro e w2 ⟨rfl, hb⟩; have hz := hb.size; (try simp only [szA, szS, szD, szN] at hz); (try (refine bcB (n := w.heap.size) hb ?_; intro h_w_0 e_w_0 d_w_0 _ _)); (try (refine bcB (n := w1.heap.size) hb ?_; intro h_w1_0 e_w1_0 d_w1_0 _ _)))
  have hB2 : Below w.heap.size w w2 := by exact belz
  have HB2 := Lib.hid hB2
  have hz2 := hB2.size
  clear hb hB2 HNw
  go_upto_block 0 with fail
  go_cut [13] (fun x wc => x = .int .i64 (new0 K nd E) ∧ w2 = wc)
  case first =>
    by_cases h1 : 8 < K.length
    · have d1 := decide_eq_true (show (8 : Int) < (K.length : Int) by omega)
      have hv : new0 K nd E = 2 := by unfold new0; rw [if_pos (.inl h1)]
      go_wp2_with fail
      go_meet
      case rel => exact ⟨by rw [hv], rfl⟩
    · have d1 := decide_eq_false (show ¬ (8 : Int) < (K.length : Int) by omega)
      by_cases h2 : 12 < nd
      · have d2 := decide_eq_true h2
        have hv : new0 K nd E = 2 := by unfold new0; rw [if_pos (.inr (.inl h2))]
        go_wp2_with fail
        go_meet
        case rel => exact ⟨by rw [hv], rfl⟩
      · have d2 := decide_eq_false h2
        by_cases h3 : 40 < E.length
        · have d3 := decide_eq_true (show (40 : Int) < (E.length : Int) by omega)
          have hv : new0 K nd E = 2 := by unfold new0; rw [if_pos (.inr (.inr h3))]
          go_wp2_with fail
          go_meet
          case rel => exact ⟨by rw [hv], rfl⟩
        · have d3 := decide_eq_false (show ¬ (40 : Int) < (E.length : Int) by omega)
          by_cases h4 : nd < 1
          · have d4 := decide_eq_true h4
            have hv : new0 K nd E = 8 := by unfold new0; rw [if_neg (by omega), if_pos h4]
            go_wp2_with fail
            go_meet
            case rel => exact ⟨by rw [hv], rfl⟩
          · have d4 := decide_eq_false h4
            have hv : new0 K nd E = 0 := by unfold new0; rw [if_neg (by omega), if_neg h4]
            go_wp2_with fail
            go_meet
            case rel => exact ⟨by rw [hv], rfl⟩
  case rest =>
    obtain ⟨rfl, rfl⟩ := hcut
    rw [← newK_zero]
    go_wp2_with fail
    go_loopg [13, 62] K.length (fun gk x13 x62 wr => ∃ k : Nat, gk + k = K.length ∧ x62 = .int .i64 k ∧ x13 = .int .i64 (newK K nd E k) ∧ Below w.heap.size w wr)
    case atStart => exact ⟨0, by omega, rfl, rfl, HB2.out⟩
    case round =>
      obtain ⟨k, hk, rfl, rfl, hbel⟩ := hrel
      by_cases hlt : k < K.length
      · obtain ⟨bb, off, hka, hbb, hbc⟩ := HS.out k hlt
        have ixk := @ix_Int ka bb off K.length kc k hka hlt
        have c1 := (hbel.cell (p := ⟨bb, off + k, none⟩) hbb).trans hbc
        clear hka
        have hsu := newK_succ K nd E k hlt
        generalize hq : K[k] = q at *
        have HQ := Lib.hid hq
        clear hq hbc
        have hkm : (k : Int) + 1 ≤ 9223372036854775807 := by unfold maxLen at hkl; omega
        by_cases h0 : newK K nd E k = 0
        · rw [if_neg (fun h => h h0)] at hsu
          unfold badK at hsu
          rw [h0]
          by_cases h1 : q < 1
          · have d1 := decide_eq_true h1
            rw [d1] at hsu
            go_wp2_with fail
            go_roundg (K.length - (k + 1))
            case measure => omega
            case rel => exact ⟨k + 1, by omega, by go_num, by rw [hsu]; rfl, hbel⟩
          · have d1 := decide_eq_false h1
            by_cases h2 : 1000000000 < q
            · have d2 := decide_eq_true h2
              rw [d1, d2] at hsu
              go_wp2_with fail
              go_roundg (K.length - (k + 1))
              case measure => omega
              case rel => exact ⟨k + 1, by omega, by go_num, by rw [hsu]; rfl, hbel⟩
            · have d2 := decide_eq_false h2
              rw [d1, d2] at hsu
              go_wp2_with fail
              go_roundg (K.length - (k + 1))
              case measure => omega
              case rel => exact ⟨k + 1, by omega, by go_num, by rw [hsu]; rfl, hbel⟩
        · have d0 : (newK K nd E k == 0) = false := by simpa using h0
          rw [if_pos h0] at hsu
          generalize newK K nd E k = z at *
          go_wp2_with fail
          go_roundg (K.length - (k + 1))
          case measure => omega
          case rel => exact ⟨k + 1, by omega, by go_num, by rw [hsu], hbel⟩
      · obtain rfl : k = K.length := by omega
        rw [← newE_zero]
        obtain ⟨wo, rfl⟩ : ∃ wo : World, wo = wr := ⟨_, rfl⟩
        go_wp2_with fail
        go_loopg [13, 79] E.length (fun gk x13 x79 wr => ∃ j : Nat, gk + j = E.length ∧ x79 = .int .i64 j ∧ x13 = .int .i64 (newE K nd E j) ∧ Below w.heap.size w wr)
        case atStart => exact ⟨0, by omega, rfl, rfl, hbel⟩
        case round =>
          obtain ⟨j, hj, rfl, rfl, hbe⟩ := hrel
          by_cases hlt2 : j < E.length
          · obtain ⟨bb, off, hea, hbb, y0, y1⟩ := HE.out j hlt2
            have ixe := @ix_Ed ea bb off E.length ec j hea hlt2
            have c1 := (hbe.cell (p := ⟨bb, off + j * 2, none⟩) hbb).trans y0
            have c2 := (hbe.cell (p := ⟨bb, off + j * 2 + 1, none⟩) hbb).trans y1
            have hze := hbe.size
            have hlb : bb < wr.heap.size := by omega
            clear hea y0 y1
            have hsu := newE_succ K nd E j hlt2
            generalize hq : E[j] = q at *
            obtain ⟨p, q⟩ := q
            have HQ := Lib.hid hq
            clear hq
            dsimp only at c1 c2
            have hkm : (j : Int) + 1 ≤ 9223372036854775807 := by unfold maxLen at hel; omega
            by_cases h0 : newE K nd E j = 0
            · rw [if_neg (fun h => h h0)] at hsu
              unfold badE at hsu
              dsimp only at hsu
              rw [h0]
              have hm1 := run_min2 p q
              have hm2 := run_max2i p q
              generalize min p q = mn at *
              generalize max p q = mx at *
              by_cases g1 : mn < 0
              · have d1 := decide_eq_true g1
                rw [d1] at hsu
                go_wp2_with fail
                go_roundg (E.length - (j + 1))
                case measure => omega
                case rel => exact ⟨j + 1, by omega, by go_num, by rw [hsu]; rfl, by exact belz⟩
              · have d1 := decide_eq_false g1
                by_cases g2 : nd ≤ mx
                · have d2 := decide_eq_true g2
                  rw [d1, d2] at hsu
                  go_wp2_with fail
                  go_roundg (E.length - (j + 1))
                  case measure => omega
                  case rel => exact ⟨j + 1, by omega, by go_num, by rw [hsu]; rfl, by exact belz⟩
                · have d2 := decide_eq_false g2
                  rw [d1, d2] at hsu
                  go_wp2_with fail
                  go_roundg (E.length - (j + 1))
                  case measure => omega
                  case rel => exact ⟨j + 1, by omega, by go_num, by rw [hsu]; rfl, by exact belz⟩
            · have d0 : (newE K nd E j == 0) = false := by simpa using h0
              rw [if_pos h0] at hsu
              generalize newE K nd E j = z at *
              go_wp2_with fail
              go_roundg (E.length - (j + 1))
              case measure => omega
              case rel => exact ⟨j + 1, by omega, by go_num, by rw [hsu], by exact belz⟩
          · obtain rfl : j = E.length := by omega
            have d0 : (newE K nd E E.length == 0) = false := by simpa using HX.out
            generalize newE K nd E E.length = z at *
            go_wp2_with fail
            go_ret
            exact ⟨rfl, hbe⟩
end
section
open Go.RowKit
def nearN (E : List Ed) (nd : Nat) : List (List Int) := (List.range nd).map fun i : Nat => nearL E (i : Int)
theorem c_New_good (ka ea : Option Addr) (kc ec : Nat) (K : List Int) (E : List Ed) (nd : Nat) (w : World) (hs : IntSlice w ka K) (hes : EdSlice w ea E) (h8 : K.length ≤ 8) (h1 : 1 ≤ nd) (h12 : nd ≤ 12) (h40 : E.length ≤ 40) (hk : K.any badK = false) (hE : ∀ x ∈ E, edOk nd x) :
    Calls Tryd.prog 21 #[.slice ka K.length kc, .int .i64 (nd : Int), .slice ea E.length ec] w fun e w' => ∃ nb vk vn vh rb, e = .returned (.tuple #[.pointer (some ⟨nb, 0, none⟩), .int .i64 0]) ∧ NetAt w' w.heap.size nb vk vn vh K (nearN E nd) (List.replicate nd (List.replicate K.length zNt)) rb ∧ w.heap.size ≤ nb ∧ Below w.heap.size w w' :=
  (c_New_net ka ea kc ec K E nd w hs hes h8 h1 h12 h40 hk).mono fun e w' h => by
    rcases h with ⟨⟨x, hx, hn⟩, _⟩ | ⟨_, nb, vk, vn, vh, rb, h1, h2, h3, h4⟩
    · exact absurd (hE x hx) hn
    · exact ⟨nb, vk, vn, vh, rb, h1, h2, h3, h4⟩
/-- The program's net and the law's table, side by side. -/
structure PlAt (w wr : World) (Bn nb : Nat) (vk vn vh : Value) (K : List Int) (E : List Ed) (nd : Nat) (rows : List (List Nt)) (rb : List (Nat × Nat)) (hb hc : Nat) (G : Nat → Nat → Nt) : Prop where
  net : NetAt wr Bn nb vk vn vh K (nearN E nd) rows rb
  held : HdAt wr w.heap.size hb hc nd G
  agr : Agr K.length nd rows G
  below : Below w.heap.size w wr
  b0 : w.heap.size ≤ Bn
  b1 : Bn ≤ nb
  b2 : Bn ≤ wr.heap.size
section
variable {w wr w' : World} {Bn nb : Nat} {vk vn vh : Value} {K : List Int} {E : List Ed} {nd : Nat} {rows : List (List Nt)} {rb : List (Nat × Nat)} {hb hc : Nat} {G : Nat → Nat → Nt}
theorem PlAt.kept (h : PlAt w wr Bn nb vk vn vh K E nd rows rb hb hc G) (hbl : Below wr.heap.size wr w') : PlAt w w' Bn nb vk vn vh K E nd rows rb hb hc G :=
  ⟨h.net.below hbl, h.held.kept hbl, h.agr, h.below.trans (hbl.mono h.below.size), h.b0, h.b1, Nat.le_trans h.b2 hbl.size⟩
/-- Put, refused by both. -/
theorem PlAt.put_no (h : PlAt w wr Bn nb vk vn vh K E nd rows rb hb hc G) {node : Int} {t : Nt} (hp : PutOut wr w' K rows rb node t) (hne : putE K rows node t ≠ 0) : PlAt w w' Bn nb vk vn vh K E nd rows rb hb hc G := by
  rcases hp with ⟨_, h2⟩ | ⟨h2, _⟩
  · exact h.kept h2
  · exact absurd h2 hne
/-- Put, taken by both: the law has written its table already. -/
theorem put_yes {G' : Nat → Nat → Nt} {node : Int} {t : Nt} (hN : NetAt wr Bn nb vk vn vh K (nearN E nd) rows rb) (hH : HdAt wr w.heap.size hb hc nd G') (hA : Agr K.length nd rows G) (h8 : K.length ≤ 8) (hbl : Below w.heap.size w wr) (b0 : w.heap.size ≤ Bn) (b1 : Bn ≤ nb) (b2 : Bn ≤ wr.heap.size) (ht : 0 ≤ t.no) (hG : ∀ i a : Nat, node = (i : Int) → t.au = (a : Int) → G' = updG G i a t)
    (hp : PutOut wr w' K rows rb node t) (h0 : putE K rows node t = 0) : ∃ rows', PlAt w w' Bn nb vk vn vh K E nd rows' rb hb hc G' := by
  rcases hp with ⟨h1, _⟩ | ⟨_, W, i, a, hi, h2, h3, h4, h5, h6, rfl⟩
  · exact absurd h0 h1
  · have hW := hN.below h6
    have hHW := hH.kept h6
    obtain ⟨hrl, hrow⟩ := hW.row i h4 hi
    have hrb := hrow.form.1
    obtain ⟨-, cur, hc0⟩ := own_typ hrow rb[i].1 rfl
    obtain ⟨c1, hc1⟩ := setCell_type hc0 (a * 4) (.int .i64 t.au)
    obtain ⟨c2, hc2⟩ := setCell_type hc1 (a * 4 + 1) (.int .i64 t.no)
    obtain ⟨c3, hc3⟩ := setCell_type hc2 (a * 4 + 2) (.string t.tx)
    have hz := h6.size
    refine ⟨rows.set i (rows[i].set a t), hW.put i a h4 hi h5 t, own_set (own_set (own_set (own_set hHW hc0 (by decide) _ _) hc1 (by decide) _ _) hc2 (by decide) _ _) hc3 (by decide) _ _, ?_, ?_, b0, b1, ?_⟩
    · rw [hG i a h2 h3]
      exact hA.put h4 h5 h8 t ht
    · have hle : w.heap.size ≤ rb[i].1 := by omega
      exact ((((hbl.trans (h6.mono hbl.size)).setCell hle _).setCell hle _).setCell hle _).setCell hle _
    · simp only [World.size_setCell]; omega
/-- The law's table behind its own part of a Put. -/
theorem law_put {w3 wc U : World} {node : Int} {t : Nt} {y : Int} (h : PlAt w w3 Bn nb vk vn vh K E nd rows rb hb hc G) (hbU : Below w3.heap.size w3 U) (h8 : K.length ≤ 8)
    (hor : (y ≠ 0 ∧ wc = U) ∨ (y = 0 ∧ ∃ k a : Nat, node = (k : Int) ∧ t.au = (a : Int) ∧ k < nd ∧ a < K.length ∧ 1 ≤ t.no ∧
      wc = (((U.setCell ⟨hb, k * 32 + a * 4, none⟩ (.int .i64 t.au)).setCell ⟨hb, k * 32 + a * 4 + 1, none⟩ (.int .i64 t.no)).setCell ⟨hb, k * 32 + a * 4 + 2, none⟩ (.string t.tx)).setCell ⟨hb, k * 32 + a * 4 + 3, none⟩ (.int .i64 t.sm))) :
    ∃ G', NetAt wc Bn nb vk vn vh K (nearN E nd) rows rb ∧ HdAt wc w.heap.size hb hc nd G' ∧ (y ≠ 0 → G' = G) ∧ (y = 0 → 1 ≤ t.no ∧ ∀ i a : Nat, node = (i : Int) → t.au = (a : Int) → G' = updG G i a t) ∧ Below w.heap.size w wc ∧ (∀ b j, b ≠ hb → b < w3.heap.size → wc.cell? ⟨b, j, none⟩ = w3.cell? ⟨b, j, none⟩) ∧ w3.heap.size ≤ wc.heap.size := by
  have hN := h.net.below hbU
  have hH := h.held.kept hbU
  have hB := h.below.trans (hbU.mono h.below.size)
  rcases hor with ⟨h1, rfl⟩ | ⟨h1, k, a, e1, e2, hk, ha, hn, rfl⟩
  · exact ⟨G, hN, hH, fun _ => rfl, fun e => absurd e h1, hB, fun b j _ hb => hbU.cell (p := ⟨b, j, none⟩) hb, hbU.size⟩
  · obtain ⟨cur, hc0⟩ := hH.ty
    obtain ⟨c1, hc1⟩ := setCell_type hc0 (k * 32 + a * 4) (.int .i64 t.au)
    obtain ⟨c2, hc2⟩ := setCell_type hc1 (k * 32 + a * 4 + 1) (.int .i64 t.no)
    obtain ⟨c3, hc3⟩ := setCell_type hc2 (k * 32 + a * 4 + 2) (.string t.tx)
    have hle := hH.lt.1
    refine ⟨updG G k a t, (((hN.far hc0 _ _).far hc1 _ _).far hc2 _ _).far hc3 _ _, hH.put k a hk (by omega) t, fun e => absurd h1 e, fun _ => ⟨hn, fun i b q1 q2 => ?_⟩, (((hB.setCell hle _).setCell hle _).setCell hle _).setCell hle _, fun b j hb hl => ?_, ?_⟩
    · obtain rfl : i = k := by omega
      obtain rfl : b = a := by omega
      rfl
    · refine Eq.trans (World.cell?_of_block (a := ⟨b, j, none⟩) ?_) (hbU.cell (p := ⟨b, j, none⟩) hl)
      exact ((heap_set hb).trans (heap_set hb)).trans ((heap_set hb).trans (heap_set hb))
    · simp only [World.size_setCell]; exact hbU.size
/-- The program's Put, with what it leaves alone. -/
theorem c_PutX {w1 : World} {node : Int} {t : Nt} {tb : Nat} (hN : NetAt w1 Bn nb vk vn vh K (nearN E nd) rows rb) (hT : NTab w1) (hn : 0 < rows.length) (hkey : ∀ x ∈ K, keyB x = true) (hsz : t.tx.size ≤ 9223372036854775807) (hr : ∀ q ∈ rb, q.1 < tb) (b0 : w.heap.size ≤ Bn) (b2 : Bn ≤ w1.heap.size) {y : Int} (hy : putE K rows node t = y) :
    Calls Tryd.prog 24 #[.pointer (some ⟨nb, 0, none⟩), .int .i64 node, .agg #[.int .i64 t.au, .int .i64 t.no, .string t.tx, .int .i64 t.sm]] w1 fun e w' => e = .returned (.int .i64 y) ∧ Hid (PutOut w1 w' K rows rb node t) ∧ (∀ b j, b < w1.heap.size → (b < w.heap.size ∨ b = tb) → w'.cell? ⟨b, j, none⟩ = w1.cell? ⟨b, j, none⟩) ∧ Below w.heap.size w1 w' :=
  (c_PutN node t w1 hN hT hn hkey hsz).mono fun e w' ⟨x1, x2⟩ => by
    refine ⟨by rw [x1, hy], x2, ?_⟩
    rcases x2 with ⟨_, h2⟩ | ⟨_, W, i, a, hi, _, _, h4, _, h6, rfl⟩
    · exact ⟨fun b j hb _ => h2.cell (p := ⟨b, j, none⟩) hb, h2.mono (by omega)⟩
    · have hrow := ((hN.below h6).row i h4 hi).2.form.1
      have hlt := hr rb[i] (List.getElem_mem hi)
      have hle : w.heap.size ≤ rb[i].1 := by omega
      refine ⟨fun b j hb hor => ?_, ((((h6.mono (by omega)).setCell hle _).setCell hle _).setCell hle _).setCell hle _⟩
      have hne : b ≠ rb[i].1 := by rcases hor with h | h <;> omega
      refine Eq.trans (World.cell?_of_block (a := ⟨b, j, none⟩) ?_) (h6.cell (p := ⟨b, j, none⟩) hb)
      exact ((heap_set hne).trans (heap_set hne)).trans ((heap_set hne).trans (heap_set hne))
/-- Behind both Puts. -/
theorem fin_put {w1 wc : World} {node : Int} {t : Nt} {y : Int} {G' : Nat → Nat → Nt} (hN : NetAt wc Bn nb vk vn vh K (nearN E nd) rows rb) (hH : HdAt wc w.heap.size hb hc nd G') (hA : Agr K.length nd rows G) (h8 : K.length ≤ 8) (hbl : Below w.heap.size w wc) (b0 : w.heap.size ≤ Bn) (b1 : Bn ≤ nb) (b2 : Bn ≤ wc.heap.size) (hy : putE K rows node t = y) (hg1 : y ≠ 0 → G' = G) (hg2 : y = 0 → 1 ≤ t.no ∧ ∀ i a : Nat, node = (i : Int) → t.au = (a : Int) → G' = updG G i a t)
    (hb1 : Below wc.heap.size wc w1) (hp : PutOut w1 w' K rows rb node t) : ∃ rows' G'', PlAt w w' Bn nb vk vn vh K E nd rows' rb hb hc G'' := by
  have hN1 := hN.below hb1
  have hH1 := hH.kept hb1
  have hB1 := hbl.trans (hb1.mono hbl.size)
  have hz := hb1.size
  by_cases h0 : y = 0
  · obtain ⟨h1, h2⟩ := hg2 h0
    obtain ⟨rows', h3⟩ := put_yes hN1 hH1 hA h8 hB1 b0 b1 (by omega) (by omega) h2 hp (by rw [hy, h0])
    exact ⟨rows', G', h3⟩
  · have hG := hg1 h0
    subst hG
    exact ⟨rows, G', PlAt.put_no ⟨hN1, hH1, hA, hB1, b0, b1, by omega⟩ hp (by rw [hy]; exact h0)⟩
/-- The program's Step. -/
theorem c_StepX {w1 : World} (hN : NetAt w1 Bn nb vk vn vh K (nearN E nd) rows rb) (hA : Agr K.length nd rows G) (h1 : 1 ≤ nd) (h12 : nd ≤ 12) (h8 : K.length ≤ 8) (h40 : E.length ≤ 40) (hE : ∀ x ∈ E, edOk nd x) (b2 : Bn ≤ w1.heap.size) (b1 : Bn ≤ nb) :
    Calls Tryd.prog 23 #[.pointer (some ⟨nb, 0, none⟩)] w1 fun e w' => e = .returned (.int .i64 (chgL G (stG E G) nd)) ∧ ∃ vh' rb' W, Hid (NetAt (W.setCell ⟨nb, 2, none⟩ vh') Bn nb vk vn vh' K (nearN E nd) (stAll rows (nearN E nd)) rb') ∧ Hid (Below w1.heap.size w1 W) ∧ w' = W.setCell ⟨nb, 2, none⟩ vh' ∧ Below Bn w1 w' := by
  have hl := hA.len
  have hnl : (nearN E nd).length = rows.length := by unfold nearN; rw [List.length_map, List.length_range, hl]
  have hmem : ∀ r ∈ nearN E nd, ∃ i : Nat, r = nearL E (i : Int) := fun r hr => by
    unfold nearN at hr
    obtain ⟨i, _, rfl⟩ := List.mem_map.1 hr
    exact ⟨i, rfl⟩
  refine (c_Step w1 hN (by omega) (by omega) h8 hnl (fun r hr k hk => ?_) (fun r hr => ?_) b2).mono fun e w' ⟨x1, vh', rb', W, x2, x3, x4⟩ => ⟨?_, vh', rb', W, ?_, x3, x4, ?_⟩
  · obtain ⟨i, rfl⟩ := hmem r hr
    rw [hl]
    exact near_in hE _ k hk
  · obtain ⟨i, rfl⟩ := hmem r hr
    have := nearL_len E E.length (i : Int) h40
    rwa [List.take_of_length_le (Nat.le_refl _)] at this
  · rw [x1, hl]
    have := chg_eq hA h8 hE nd (Nat.le_refl _)
    unfold nearN
    rw [this]
  · rw [← x4]; exact x2
  · rw [x4]; exact (x3.mono b2).setCell b1 _
/-- A step of both. -/
theorem step_yes {g c : Nat} {wa W : World} {rb' : List (Nat × Nat)} {vh' : Value} (hNa : NetAt wa Bn nb vk vn vh K (nearN E nd) rows rb) (hN : NetAt (W.setCell ⟨nb, 2, none⟩ vh') Bn nb vk vn vh' K (nearN E nd) (stAll rows (nearN E nd)) rb') (hH : HdAt wa w.heap.size g c nd (stG E G)) (hA : Agr K.length nd rows G) (h8 : K.length ≤ 8) (hE : ∀ x ∈ E, edOk nd x) (hbl : Below w.heap.size w wa) (hW : Below wa.heap.size wa W) (b0 : w.heap.size ≤ Bn) (b1 : Bn ≤ nb) (b2 : Bn ≤ wa.heap.size) :
    PlAt w (W.setCell ⟨nb, 2, none⟩ vh') Bn nb vk vn vh' K E nd (stAll rows (nearN E nd)) rb' g c (stG E G) := by
  have hz := hW.size
  have hty := (hNa.below hW).ty
  obtain ⟨cur2, hc2⟩ := hty
  exact ⟨hN, own_set (own_below hH hW) hc2 (by decide) 2 _, hA.step h8 hE, (hbl.trans (hW.mono hbl.size)).setCell (by show w.heap.size ≤ nb; omega) _, b0, b1, by simp only [World.size_setCell]; omega⟩
end
end
end Go.Proofs.YtbcehnhiedbbbaaDoor
