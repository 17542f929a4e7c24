/- The walk through the law DialLines. -/
import Derived.Test.YtjkhoepohiafeaaDoorPlainDl
import Derived.Test.YtjkhoepohiafeaaDoorWalkLine
import Derived.Test.YtjkhoepohiafeaaDoorTrL
import Derived.Test.YtjkhoepohiafeaaDoorWalkCells
import Derived.Test.YtjkhoepohiafeaaDoorIxSpan2
import Derived.Test.YtjkhoepohiafeaaDoorWalkOwn
import Derived.Test.YtjkhoepohiafeaaDoorWalkSva
import Derived.Deep.AppendLies
import Derived.Deep.LoopGhost
import Derived.Deep.RegionHeld3
import Derived.Deep.DeepCutAuto
set_option linter.unusedVariables false
set_option linter.unusedSimpArgs false
namespace Go.Proofs.YtjkhoepohiafeaaDoor
open Go.RowKit
def dlP (lat h : Int) : Int := arcLo (dlY0 lat h) (dlY1 lat h) (dlC0 h) (dlC1 h) % 1000000000
def dlQ (lat h : Int) : Int := dlP lat h + arcHi (dlY0 lat h) (dlY1 lat h) (dlC0 h) (dlC1 h) - arcLo (dlY0 lat h) (dlY1 lat h) (dlC0 h) (dlC1 h)
theorem dlH_bd {n : Int} (h0 : 6 ≤ n) (h1 : n ≤ 18) : -250000000 ≤ dlH n ∧ dlH n ≤ 250000000 := by
  unfold dlH
  by_cases c : 0 ≤ (n - 12) * 1000000000
  · rw [Int.tdiv_eq_ediv_of_nonneg c]; omega
  · have := Int.neg_tdiv ((n - 12) * 1000000000) 24
    rw [Int.tdiv_eq_ediv_of_nonneg (by omega)] at this
    omega
theorem ang_ok {a : Int} (h0 : -1000000000 ≤ a) (h1 : a ≤ 1000000000) : angOk a = true := by unfold angOk; simp; omega
theorem dl_lin {lat h : Int} (o : DlOk lat h) (l0 : -1000000000 ≤ lat) (l1 : lat ≤ 1000000000) (h0 : -1000000000 ≤ h) (h1 : h ≤ 1000000000) : LinC lat h (sineLo h) (sineHi h) (dlC0 h) (dlC1 h) (sineLo lat) (sineHi lat) (dlY0 lat h) (dlY1 lat h) (dlP lat h) (dlQ lat h) := by
  obtain ⟨⟨D0, E, L, H, hv⟩, -, ha⟩ := c_Arc_all (dlY0 lat h) (dlY1 lat h) (dlC0 h) (dlC1 h) o.oy o.oc (by have := o.y0; omega) (by have := o.y1; omega) (by have := o.c0; omega) (by have := o.c1; omega) o.z
  have hw := o.w hv
  refine ⟨fun w hT => c_Sin_ok h w hT (ang_ok h0 h1), fun w hT => c_Cos_ok h w hT (ang_ok h0 h1), fun w hT => c_Sin_ok lat w hT (ang_ok l0 l1), fun w => c_Times _ _ _ _ w (sine_sp lat) (sine_sp h), fun w => (ha w).mono ?_⟩
  rintro e w' ⟨⟨hx, -⟩ | ⟨-, hx⟩, hb⟩
  · omega
  · exact ⟨hx, hb⟩
/-- The interval of the line of an hour. -/
def dlA (lat n : Int) : Int := liP (dlP lat (dlH n)) (dlQ lat (dlH n))
def dlB (lat n : Int) : Int := liQ (dlP lat (dlH n)) (dlQ lat (dlH n))
structure DlR (lat n : Int) : Prop where
  p0 : 0 ≤ dlP lat (dlH n)
  p1 : dlP lat (dlH n) < 1000000000
  pq : dlP lat (dlH n) ≤ dlQ lat (dlH n)
  w : dlQ lat (dlH n) - dlP lat (dlH n) ≤ 50
  i : InArcOk (dlP lat (dlH n)) (dlQ lat (dlH n) % 1000000000) (fm (sc (lat * 1000000)).1 (sc (dlH n % 1000000000 * 1000000)).1) (sc (dlH n % 1000000000 * 1000000)).2
  u : -1160000000000000000 ≤ fm (sc (lat * 1000000)).1 (sc (dlH n % 1000000000 * 1000000)).1 ∧ fm (sc (lat * 1000000)).1 (sc (dlH n % 1000000000 * 1000000)).1 ≤ 1160000000000000000
  v : -1160000000000000000 ≤ (sc (dlH n % 1000000000 * 1000000)).2 ∧ (sc (dlH n % 1000000000 * 1000000)).2 ≤ 1160000000000000000
theorem dl_r {lat n : Int} (l0 : 10000000 ≤ lat) (l1 : lat ≤ 220000000) (h0 : 6 ≤ n) (h1 : n ≤ 18) : DlR lat n := by
  have o := dl_ok l0 l1 (dl_hour h0 h1)
  obtain ⟨⟨D0, E, L, H, hv⟩, ho, -⟩ := c_Arc_all (dlY0 lat (dlH n)) (dlY1 lat (dlH n)) (dlC0 (dlH n)) (dlC1 (dlH n)) o.oy o.oc (by have := o.y0; omega) (by have := o.y1; omega) (by have := o.c0; omega) (by have := o.c1; omega) o.z
  have hw := o.w hv
  obtain ⟨i1, i2, i3⟩ := dl_in l0 l1 o hv
  have m := emod_bd (arcLo (dlY0 lat (dlH n)) (dlY1 lat (dlH n)) (dlC0 (dlH n)) (dlC1 (dlH n)))
  have e : dlQ lat (dlH n) % 1000000000 = arcHi (dlY0 lat (dlH n)) (dlY1 lat (dlH n)) (dlC0 (dlH n)) (dlC1 (dlH n)) % 1000000000 := by unfold dlQ dlP; omega
  refine ⟨m.1, m.2, by unfold dlQ; omega, by unfold dlQ; omega, by rw [e]; exact i1, i2, i3⟩
theorem c_LineD (lat n : Int) (w : World) (hT : Tab w) (l0 : 10000000 ≤ lat) (l1 : lat ≤ 220000000) (h0 : 6 ≤ n) (h1 : n ≤ 18) :
    Calls Tryd.prog 12 #[.int .i64 lat, .int .i64 n] w fun e w' => e = .returned (.tuple #[.agg #[.int .i64 (dlA lat n), .int .i64 (dlB lat n)], .int .i64 0]) ∧ Below w.heap.size w w' := by
  have r := dl_r l0 l1 h0 h1
  have hb := dlH_bd h0 h1
  exact c_LineV (dl_lin (dl_ok l0 l1 (dl_hour h0 h1)) (by omega) (by omega) (by omega) (by omega)) w hT l0 l1 h0 h1 rfl (by have := r.p0; omega) (by have := r.p1; omega) (by have := r.p0; have := r.pq; omega) (by have := r.p1; have := r.w; omega)
theorem c_Line_range (lat n : Int) (w : World) (h : lat < 10000000 ∨ 220000000 < lat) :
    Calls Tryd.prog 12 #[.int .i64 lat, .int .i64 n] w fun e w' => e = .returned (.tuple #[.agg #[.int .i64 0, .int .i64 0], .int .i64 3]) ∧ Below w.heap.size w w' := by
  by_cases h1 : lat < 10000000
  · have d1 : decide (lat < 10000000) = true := decide_eq_true h1
    clear h
    have hgen := sgen; have hgen2 := sgen2; have hgen3 := sgen3; go_enter Tryd.func12, Tryd.ntmps12
    go_wp2_with fail
    refine bodyPost_ret (v := .tuple #[.agg #[.int .i64 0, .int .i64 0], .int .i64 3]) (by simp only [results, Tryd.results12]; go_simp) rfl ⟨rfl, ?_⟩
    exact belz
  · have d1 : decide (lat < 10000000) = false := decide_eq_false h1
    have d2 : decide (220000000 < lat) = true := decide_eq_true (by omega)
    clear h
    have hgen := sgen; have hgen2 := sgen2; have hgen3 := sgen3; go_enter Tryd.func12, Tryd.ntmps12
    go_wp2_with fail
    refine bodyPost_ret (v := .tuple #[.agg #[.int .i64 0, .int .i64 0], .int .i64 3]) (by simp only [results, Tryd.results12]; go_simp) rfl ⟨rfl, ?_⟩
    exact belz
theorem c_Line_arg (lat n : Int) (w : World) (l0 : 10000000 ≤ lat) (l1 : lat ≤ 220000000) (h : n < 6 ∨ 18 < n) :
    Calls Tryd.prog 12 #[.int .i64 lat, .int .i64 n] w fun e w' => e = .returned (.tuple #[.agg #[.int .i64 0, .int .i64 0], .int .i64 1]) ∧ Below w.heap.size w w' := by
  have d1 : decide (lat < 10000000) = false := decide_eq_false (by omega)
  have d2 : decide (220000000 < lat) = false := decide_eq_false (by omega)
  by_cases h1 : n < 6
  · have d3 : decide (n < 6) = true := decide_eq_true h1
    clear h
    have hgen := sgen; have hgen2 := sgen2; have hgen3 := sgen3; go_enter Tryd.func12, Tryd.ntmps12
    go_wp2_with fail
    refine bodyPost_ret (v := .tuple #[.agg #[.int .i64 0, .int .i64 0], .int .i64 1]) (by simp only [results, Tryd.results12]; go_simp) rfl ⟨rfl, ?_⟩
    exact belz
  · have d3 : decide (n < 6) = false := decide_eq_false h1
    have d4 : decide (18 < n) = true := decide_eq_true (by omega)
    clear h
    have hgen := sgen; have hgen2 := sgen2; have hgen3 := sgen3; go_enter Tryd.func12, Tryd.ntmps12
    go_wp2_with fail
    refine bodyPost_ret (v := .tuple #[.agg #[.int .i64 0, .int .i64 0], .int .i64 1]) (by simp only [results, Tryd.results12]; go_simp) rfl ⟨rfl, ?_⟩
    exact belz
theorem c_Lines_range (lat : Int) (w : World) (h : lat < 10000000 ∨ 220000000 < lat) :
    Calls Tryd.prog 13 #[.int .i64 lat] w fun e w' => e = .returned (.tuple #[.slice none 0 0, .int .i64 3]) ∧ Below w.heap.size w w' := by
  have HL := Lib.hid (fun w1 => c_Line_range lat 6 w1 h)
  clear h
  have hgen := sgen; have hgen2 := sgen2; have hgen3 := sgen3; go_enter Tryd.func13, Tryd.ntmps13
  go_wp2_with fail
  refine wp_loop_rounds 1 ?_
  rw [rounds_succ]
  go_wp2_with (go_at_call 12; (with_reducible refine (HL.out _).mono ?_); rintro e w1 ⟨rfl, hb⟩; have hz := hb.size; (try simp only [szA, szS, szD, szN] at hz); (try (refine bcB (n := w.heap.size) hb ?_; intro h_w_0 e_w_0 d_w_0 _ _)))
  go_ret2
  refine ⟨rfl, ?_⟩
  exact belz
/-- The lines of the hours so far. -/
def dlL (lat : Int) : Nat → List Sp
  | 0 => []
  | k + 1 => dlL lat k ++ [⟨dlA lat (6 + k), dlB lat (6 + k)⟩]
theorem dlL_succ (lat : Int) (k : Nat) : dlL lat (k + 1) = dlL lat k ++ [⟨dlA lat (6 + k), dlB lat (6 + k)⟩] := rfl
theorem dlL_len (lat : Int) : ∀ k, (dlL lat k).length = k
  | 0 => rfl
  | k + 1 => by rw [dlL_succ, List.length_append, dlL_len lat k]; rfl
theorem dlL_get (lat : Int) : ∀ k j, (h : j < (dlL lat k).length) → (dlL lat k)[j] = ⟨dlA lat (6 + j), dlB lat (6 + j)⟩
  | 0, j, h => absurd h (by simp [dlL])
  | k + 1, j, h => by
    have hl := dlL_len lat k
    have e : (dlL lat (k + 1))[j] = (dlL lat k ++ [⟨dlA lat (6 + k), dlB lat (6 + k)⟩])[j]'(by rw [List.length_append, hl]; rw [dlL_len] at h; simpa using h) := rfl
    rw [e]
    by_cases hj : j < k
    · rw [List.getElem_append_left (by omega)]
      exact dlL_get lat k j (by omega)
    · have h2 := h
      rw [dlL_len] at h2
      have ej : j = k := by omega
      subst ej
      rw [List.getElem_append_right (by omega)]
      simp [hl]
theorem own_spD {w : World} {base : Nat} {v : Value} {l : List Sp} (h : w.ownsRow base 24 2 v l.length (spCells l)) : ∃ a cap, v = .slice a l.length cap ∧ l.length ≤ cap ∧ SpSlice w a l := by
  rcases own_form h with ⟨h1, h2⟩ | ⟨g, cap', h1, h2, h3, h4, h5, h6, h7⟩
  · exact ⟨none, 0, by rw [h1, h2], by omega, fun k hk => absurd hk (by omega)⟩
  · refine ⟨some ⟨g, 0, none⟩, cap', h1, h2, fun k hk => ?_⟩
    obtain ⟨e1, e2⟩ := spCells_get l k hk
    refine ⟨g, 0, rfl, h5, ?_, ?_⟩
    · rw [Nat.zero_add, h6 _ (by omega), e1]
    · rw [Nat.zero_add, h6 _ (by omega), e2]
def LinesR (lat : Int) (w : World) (e : Ending) (w' : World) : Prop := ∃ a cap, e = .returned (.tuple #[.slice a 13 cap, .int .i64 0]) ∧ 13 ≤ cap ∧ SpSlice w' a (dlL lat 13) ∧ Below w.heap.size w w'
set_option maxHeartbeats 2000000 in
theorem c_Lines (lat : Int) (w : World) (hT : Tab w) (l0 : 10000000 ≤ lat) (l1 : lat ≤ 220000000) :
    Calls Tryd.prog 13 #[.int .i64 lat] w (LinesR lat w) := by
  obtain ⟨i0, hi0, hz0, hz1, hz2⟩ := info_parts info_span
  have HT := Lib.hid hT
  have HL := Lib.hid (fun n w1 (h : Tab w1) (h0 : 6 ≤ n) (h1 : n ≤ 18) => c_LineD lat n w1 h l0 l1 h0 h1)
  clear hT
  have hgen := sgen; have hgen2 := sgen2; have hgen3 := sgen3; go_enter Tryd.func13, Tryd.ntmps13
  go_wp2_with fail
  go_loopg [4, 5] 13 (fun gk x4 i wr => ∃ k : Nat, gk + k = 13 ∧ i = .int .i64 (6 + (k : Int)) ∧ Below w.heap.size w wr ∧ wr.ownsRow w.heap.size 24 2 x4 (dlL lat k).length (spCells (dlL lat k)))
  case atStart => exact ⟨0, by omega, rfl, Below.refl _ _, World.ownsRow_nil _ _ _ _⟩
  case round =>
    obtain ⟨k, hk, rfl, hbel, hown⟩ := hrel
    have hsz := hbel.size
    rw [dlL_len] at hown
    by_cases hlt : k < 13
    · have c1 : decide (6 + (k : Int) ≤ 18) = true := decide_eq_true (by omega)
      have HL2 := Lib.hid (fun w1 (h : Tab w1) => HL.out (6 + (k : Int)) w1 h (by omega) (by omega))
      have HO := Lib.hid hown
      have HS : Hid (spCells (dlL lat (k + 1)) = spCells (dlL lat k) ++ [.int .i64 (dlA lat (6 + (k : Int))), .int .i64 (dlB lat (6 + (k : Int)))]) := Lib.hid (by rw [dlL_succ, spCells_append]; rfl)
      have hkk : k + 1 ≤ maxLen := by unfold maxLen; omega
      have vi : IntKind.i64.wrap (6 + (k : Int) + 1) = 6 + ((k + 1 : Nat) : Int) := (IntWalk.i64_in _ (by omega)).trans (by omega)
      generalize dlA lat (6 + (k : Int)) = p at *
      generalize dlB lat (6 + (k : Int)) = q at *
      clear hown
      go_wp2_with (first | (go_at_call 12; (with_reducible refine (HL2.out _ (HT.out.below (by exact belz))).mono ?_); rintro e w1 ⟨rfl, hb⟩; have hz := hb.size; (try simp only [szA, szS, szD, szN] at hz); (try (refine bcB (n := w.heap.size) hb ?_; intro h_w_0 e_w_0 d_w_0 _ _)); (try (refine bcB (n := wr.heap.size) hb ?_; intro h_wr_0 e_wr_0 d_wr_0 _ _))) | (at_builtin; refine wpList_append_own _ rfl (.tmp 21) (.tmp 23) 28 rfl w.heap.size 24 i0 (.agg #[.int .i64 0, .int .i64 0]) 2 16 Tryd.underlying28 hi0 hz0 hz1 hz2 rfl (by decide) _ k _ rfl (((own_below HO.out (by assumption)).alloc _).alloc _) ⟨w1.heap.size + 1, 0, none⟩ 1 1 [.int .i64 p, .int .i64 q] rfl rfl ?c1 ?c2 ?c3 ?c4 ?c5 ?_))
      case c1 =>
        intro j u hj
        match j, hj with
        | 0, hj => simp at hj; subst hj; go_simp
        | 1, hj => simp at hj; subst hj; simp only [Addr.add]; go_simp
      case c2 => intro u hu; simp at hu; rcases hu with rfl | rfl <;> rfl
      case c3 => exact hkk
      case c4 => omega
      case c5 => have := hbel.size; simp; omega
      intro v' w2 hown' hgrow hnil
      have hb2 : Below w.heap.size w w2 := by
        refine Below.grown ?_ hgrow ?_ ?_
        · have := hbel.size
          exact belz
        · have := hbel.size; simp; omega
        · intro g hg
          exact (HO.out.lt g hg).1
      have hown2 : w2.ownsRow w.heap.size 24 2 v' (dlL lat (k + 1)).length (spCells (dlL lat (k + 1))) := by
        rw [HS.out, dlL_len]; exact hown'
      clear hown' hgrow hnil
      have HO2 := Lib.hid hown2
      clear hown2
      go_wp2
      go_roundg (13 - (k + 1))
      case measure => omega
      case rel => exact ⟨k + 1, by omega, by rfl, hb2, HO2.out⟩
    · have ek : k = 13 := by omega
      subst ek
      rw [show 13 = (dlL lat 13).length from (dlL_len lat 13).symm] at hown
      obtain ⟨a, cap, hv, hcap, hsl⟩ := own_spD hown
      rw [dlL_len] at hv hcap
      subst hv
      have HS := Lib.hid hsl
      clear hown hsl
      go_wp2
      go_ret2
      exact ⟨a, cap, rfl, hcap, HS.out, hbel⟩
theorem walk_Dl_range (lat n : Int) (w : World) (hT : Tab w) (h : lat < 10000000 ∨ 220000000 < lat) :
    Calls Tryd.prog 3 #[.int .i64 lat, .int .i64 n] w fun e w' => e = .returned (.bool true) ∧ Below w.heap.size w w' := by
  have HL := Lib.hid (fun w1 => c_Line_range lat n w1 h)
  have HLS := Lib.hid (fun w1 => c_Lines_range lat w1 h)
  have HT := Lib.hid hT
  have d : (decide (lat < 10000000) = true) ∨ (decide (lat < 10000000) = false ∧ decide (220000000 < lat) = true) := by
    by_cases h1 : lat < 10000000
    · exact .inl (decide_eq_true h1)
    · exact .inr ⟨decide_eq_false h1, decide_eq_true (by omega)⟩
  clear hT h
  rcases d with d1 | ⟨d1, d2⟩
  all_goals
    have hgen := sgen; have hgen2 := sgen2; have hgen3 := sgen3; go_enter Tryd.func3, Tryd.ntmps3
    go_wp2_with (first | (go_at_call 11; (refine (c_dialWorks _ (HT.out.below (by exact belz))).mono ?_); rintro e w1 ⟨rfl, hb⟩; have hz := hb.size; (try simp only [szA, szS, szD, szN] at hz); (try (refine bcB (n := w.heap.size) hb ?_; intro h_w_0 e_w_0 d_w_0 _ _))) | (go_at_call 12; (with_reducible refine (HL.out _).mono ?_); rintro e w2 ⟨rfl, hb⟩; have hz := hb.size; (try simp only [szA, szS, szD, szN] at hz); (try (refine bcB (n := w.heap.size) hb ?_; intro h_w_0 e_w_0 d_w_0 _ _)); (try (refine bcB (n := w1.heap.size) hb ?_; intro h_w1_0 e_w1_0 d_w1_0 _ _))) | (go_at_call 13; (with_reducible refine (HLS.out _).mono ?_); rintro e w3 ⟨rfl, hb⟩; have hz := hb.size; (try simp only [szA, szS, szD, szN] at hz); (try (refine bcB (n := w.heap.size) hb ?_; intro h_w_0 e_w_0 d_w_0 _ _)); (try (refine bcB (n := w1.heap.size) hb ?_; intro h_w1_0 e_w1_0 d_w1_0 _ _)); (try (refine bcB (n := w2.heap.size) hb ?_; intro h_w2_0 e_w2_0 d_w2_0 _ _))) | (go_at_call 14; (refine (c_none1 _ _).mono ?_); rintro e w4 ⟨rfl, hb⟩; have hz := hb.size; (try simp only [szA, szS, szD, szN] at hz); (try (refine bcB (n := w.heap.size) hb ?_; intro h_w_0 e_w_0 d_w_0 _ _)); (try (refine bcB (n := w1.heap.size) hb ?_; intro h_w1_0 e_w1_0 d_w1_0 _ _)); (try (refine bcB (n := w2.heap.size) hb ?_; intro h_w2_0 e_w2_0 d_w2_0 _ _)); (try (refine bcB (n := w3.heap.size) hb ?_; intro h_w3_0 e_w3_0 d_w3_0 _ _))))
    go_ret
    refine ⟨rfl, ?_⟩
    exact belz
theorem walk_Dl_arg (lat n : Int) (w : World) (hT : Tab w) (l0 : 10000000 ≤ lat) (l1 : lat ≤ 220000000) (h : n < 6 ∨ 18 < n) :
    Calls Tryd.prog 3 #[.int .i64 lat, .int .i64 n] w fun e w' => e = .returned (.bool true) ∧ Below w.heap.size w w' := by
  have HL := Lib.hid (fun w1 => c_Line_arg lat n w1 l0 l1 h)
  have HLS := Lib.hid (fun w1 (h : Tab w1) => c_Lines lat w1 h l0 l1)
  have HT := Lib.hid hT
  have d1 : decide (lat < 10000000) = false := decide_eq_false (by omega)
  have d2 : decide (220000000 < lat) = false := decide_eq_false (by omega)
  have d : (decide (n < 6) = true) ∨ (decide (n < 6) = false ∧ decide (18 < n) = true) := by
    by_cases h1 : n < 6
    · exact .inl (decide_eq_true h1)
    · exact .inr ⟨decide_eq_false h1, decide_eq_true (by omega)⟩
  clear hT h
  rcases d with d3 | ⟨d3, d4⟩
  all_goals
    have hgen := sgen; have hgen2 := sgen2; have hgen3 := sgen3; go_enter Tryd.func3, Tryd.ntmps3
    go_wp2_with (first | (go_at_call 11; (refine (c_dialWorks _ (HT.out.below (by exact belz))).mono ?_); rintro e w1 ⟨rfl, hb⟩; have hz := hb.size; (try simp only [szA, szS, szD, szN] at hz); (try (refine bcB (n := w.heap.size) hb ?_; intro h_w_0 e_w_0 d_w_0 _ _))) | (go_at_call 12; (with_reducible refine (HL.out _).mono ?_); rintro e w2 ⟨rfl, hb⟩; have hz := hb.size; (try simp only [szA, szS, szD, szN] at hz); (try (refine bcB (n := w.heap.size) hb ?_; intro h_w_0 e_w_0 d_w_0 _ _)); (try (refine bcB (n := w1.heap.size) hb ?_; intro h_w1_0 e_w1_0 d_w1_0 _ _))) | (go_at_call 13; (refine (HLS.out _ (HT.out.below (by exact belz))).mono ?_); rintro e w3 ⟨a, cap, rfl, hcap, hsl, hb⟩; have hz := hb.size; (try simp only [szA, szS, szD, szN] at hz); (try (refine bcB (n := w.heap.size) hb ?_; intro h_w_0 e_w_0 d_w_0 _ _)); (try (refine bcB (n := w1.heap.size) hb ?_; intro h_w1_0 e_w1_0 d_w1_0 _ _)); (try (refine bcB (n := w2.heap.size) hb ?_; intro h_w2_0 e_w2_0 d_w2_0 _ _))) | (go_at_call 14; (refine (c_none1 _ _).mono ?_); rintro e w4 ⟨rfl, hb⟩; have hz := hb.size; (try simp only [szA, szS, szD, szN] at hz); (try (refine bcB (n := w.heap.size) hb ?_; intro h_w_0 e_w_0 d_w_0 _ _)); (try (refine bcB (n := w1.heap.size) hb ?_; intro h_w1_0 e_w1_0 d_w1_0 _ _)); (try (refine bcB (n := w2.heap.size) hb ?_; intro h_w2_0 e_w2_0 d_w2_0 _ _)); (try (refine bcB (n := w3.heap.size) hb ?_; intro h_w3_0 e_w3_0 d_w3_0 _ _))))
    go_ret
    refine ⟨rfl, ?_⟩
    exact belz
set_option maxRecDepth 100000 in
set_option maxHeartbeats 4000000 in
theorem walk_Dl_ok (lat : Int) (j : Nat) (w : World) (hT : Tab w) (l0 : 10000000 ≤ lat) (l1 : lat ≤ 220000000) (hj : j < 13) :
    Calls Tryd.prog 3 #[.int .i64 lat, .int .i64 (6 + (j : Int))] w fun e w' => e = .returned (.bool true) ∧ Below w.heap.size w w' := by
  have r := dl_r (n := 6 + (j : Int)) l0 l1 (by omega) (by omega)
  have hb := dlH_bd (n := 6 + (j : Int)) (by omega) (by omega)
  have HL := Lib.hid (fun w1 (h : Tab w1) => c_LineD lat (6 + (j : Int)) w1 h l0 l1 (by omega) (by omega))
  have HLS := Lib.hid (fun w1 (h : Tab w1) => c_Lines lat w1 h l0 l1)
  have HG := Lib.hid (dlL_get lat 13 j)
  have hlen := dlL_len lat 13
  have d1 : decide (lat < 10000000) = false := decide_eq_false (by omega)
  have d2 : decide (220000000 < lat) = false := decide_eq_false (by omega)
  have d3 : decide (6 + (j : Int) < 6) = false := decide_eq_false (by omega)
  have d4 : decide (18 < 6 + (j : Int)) = false := decide_eq_false (by omega)
  obtain ⟨p0, p1, pq, pw, hi, hu, hv⟩ := r
  have eh : ((6 + (j : Int) - 12) * 1000000000).tdiv 24 = dlH (6 + (j : Int)) := rfl
  have eA : dlA lat (6 + (j : Int)) = liP (dlP lat (dlH (6 + (j : Int)))) (dlQ lat (dlH (6 + (j : Int)))) := rfl
  have eB : dlB lat (6 + (j : Int)) = liQ (dlP lat (dlH (6 + (j : Int)))) (dlQ lat (dlH (6 + (j : Int)))) := rfl
  generalize dlA lat (6 + (j : Int)) = A at *
  generalize dlB lat (6 + (j : Int)) = B at *
  generalize dlH (6 + (j : Int)) = h at *
  generalize dlP lat h = p at *
  generalize dlQ lat h = q at *
  have aA : (A = p ∧ B = q ∧ p ≤ 500000000) ∨ (A = p - 1000000000 ∧ B = q - 1000000000 ∧ 500000000 < p) := by
    rw [eA, eB]
    unfold liP liQ
    by_cases c : 500000000 < p
    · rw [if_pos c, if_pos c]; exact .inr ⟨rfl, rfl, c⟩
    · rw [if_neg c, if_neg c]; exact .inl ⟨rfl, rfl, by omega⟩
  clear eA eB
  have S1 := fun w1 => c_SinCos (lat * 1000000) w1 (by omega) (by omega)
  rw [show lat * 1000000 % 1000000000000000 = lat * 1000000 by omega] at S1
  have S2 := fun w1 => c_SinCos (h * 1000000) w1 (by omega) (by omega)
  rw [show h * 1000000 % 1000000000000000 = h % 1000000000 * 1000000 by omega] at S2
  have m0 := Int.emod_nonneg h (show (1000000000 : Int) ≠ 0 by omega)
  have m1 := Int.emod_lt_of_pos h (show (0 : Int) < 1000000000 by omega)
  obtain ⟨g1, g2, g3, g4⟩ := sc_rng (b := lat) (by omega) (by omega)
  obtain ⟨g5, g6, g7, g8⟩ := sc_rng m0 m1
  generalize (sc (lat * 1000000)).1 = sp at *
  generalize (sc (lat * 1000000)).2 = cp at *
  generalize (sc (h % 1000000000 * 1000000)).1 = sh at *
  generalize (sc (h % 1000000000 * 1000000)).2 = ch at *
  have HS1 := Lib.hid S1
  have HS2 := Lib.hid S2
  have HM := Lib.hid (fun w1 => c_fMul sp sh w1 (by omega) (by omega) (by omega) (by omega))
  have HI := Lib.hid (fun w1 => c_InArc1 p q (fm sp sh) ch w1 p0 p1 pq (by omega) hi hu.1 hu.2 hv.1 hv.2)
  have hR := fun w1 => c_rMod A 1000000000 w1 (by omega) (by omega) (by omega) (by omega)
  rw [show A % 1000000000 = p by omega] at hR
  have HR := Lib.hid hR
  have HBY := Lib.hid (fun w1 => c_beyond0 A 500000000 w1 (by omega) (by omega) (by omega) (by omega))
  have v1 : IntKind.i64.wrap (6 + (j : Int) - 12) = 6 + (j : Int) - 12 := IntWalk.i64_in _ (by omega)
  have v2 : IntKind.i64.wrap ((6 + (j : Int) - 12) * 1000000000) = (6 + (j : Int) - 12) * 1000000000 := IntWalk.i64_in _ (by omega)
  have v3 : IntKind.i64.wrap (((6 + (j : Int) - 12) * 1000000000).tdiv 24) = h := by rw [eh]; exact IntWalk.i64_in _ (by omega)
  have v4 : wrap64 (((6 + (j : Int) - 12) * 1000000000).tdiv 24) = h := (IntWalk.i64_left _).symm.trans v3
  have v4' : wrap64 h = h := (IntWalk.i64_left h).symm.trans (IntWalk.i64_in h (by omega))
  have v5 : IntKind.i64.wrap (h * 1000000) = h * 1000000 := IntWalk.i64_in _ (by omega)
  have v6 : IntKind.i64.wrap (lat * 1000000) = lat * 1000000 := IntWalk.i64_in _ (by omega)
  have v7 : IntKind.i64.wrap (p + B) = p + B := IntWalk.i64_in _ (by omega)
  have v8 : IntKind.i64.wrap (p + B - A) = q := (IntWalk.i64_in _ (by omega)).trans (by omega)
  have v9 : IntKind.i64.wrap (6 + (j : Int) - 6) = (j : Int) := (IntWalk.i64_in _ (by omega)).trans (by omega)
  have v10 : IntKind.i64.wrap (B - A) = B - A := IntWalk.i64_in _ (by omega)
  have d5 : decide (B - A ≤ 50) = true := decide_eq_true (by omega)
  have q1 : (A == A) = true := by simp
  have q2 : (B == B) = true := by simp
  have HT := Lib.hid hT
  clear hT S1 S2 hR hi hu hv g1 g2 g3 g4 g5 g6 g7 g8 m0 m1 p0 p1 pq pw aA hb
  have hgen := sgen; have hgen2 := sgen2; have hgen3 := sgen3; go_enter Tryd.func3, Tryd.ntmps3
  go_upto_region 5 with (first | (go_at_call 11; (refine (c_dialWorks _ (HT.out.below (by exact belz))).mono ?_); rintro e w1 ⟨rfl, hb⟩; have hz := hb.size; (try simp only [szA, szS, szD, szN] at hz); (try (refine bcB (n := w.heap.size) hb ?_; intro h_w_0 e_w_0 d_w_0 _ _))) | (go_at_call 12; (with_reducible refine (HL.out _ (HT.out.below (by exact belz))).mono ?_); rintro e w2 ⟨rfl, hb⟩; have hz := hb.size; (try simp only [szA, szS, szD, szN] at hz); (try (refine bcB (n := w.heap.size) hb ?_; intro h_w_0 e_w_0 d_w_0 _ _)); (try (refine bcB (n := w1.heap.size) hb ?_; intro h_w1_0 e_w1_0 d_w1_0 _ _))) | (go_at_call 13; (refine (HLS.out _ (HT.out.below (by exact belz))).mono ?_); rintro e w3 ⟨a, cap, rfl, hcap, hsl, hb⟩; have hz := hb.size; (try simp only [szA, szS, szD, szN] at hz); (try (refine bcB (n := w.heap.size) hb ?_; intro h_w_0 e_w_0 d_w_0 _ _)); (try (refine bcB (n := w1.heap.size) hb ?_; intro h_w1_0 e_w1_0 d_w1_0 _ _)); (try (refine bcB (n := w2.heap.size) hb ?_; intro h_w2_0 e_w2_0 d_w2_0 _ _))))
  obtain ⟨b, off, ha, hb1, e0, e1⟩ := hsl j (by omega)
  have ix1 := @ix_Sp a b off 13 cap j ha (by omega)
  rw [HG.out (by omega)] at e0 e1
  dsimp only at e0 e1
  clear ha
  have n1 : ¬ b = w3.heap.size := by omega
  have n2 : ¬ w3.heap.size = b := by omega
  go_upto_region 15 with (first | (go_at_call 15; (first | (with_reducible refine (HS1.out _).mono ?_) | (with_reducible refine (HS2.out _).mono ?_)); rintro e w' ⟨rfl, rfl⟩) | (go_at_call 16; (with_reducible refine (HR.out _).mono ?_); rintro e w' ⟨rfl, rfl⟩))
  go_region_held3 (fun w' => w'.cell? ⟨w2.heap.size, 0, none⟩ = some (.int .i64 A) ∧ w'.cell? ⟨w2.heap.size, 1, none⟩ = some (.int .i64 B) ∧ w'.cell? ⟨w3.heap.size, 0, none⟩ = some (.int .i64 p) ∧ w'.cell? ⟨w3.heap.size, 1, none⟩ = some (.int .i64 q) ∧ w'.cell? ⟨b, off + j * 2, none⟩ = some (.int .i64 A) ∧ w'.cell? ⟨b, off + j * 2 + 1, none⟩ = some (.int .i64 B)) (refine ⟨?_, ?_, ?_, ?_, ?_, ?_⟩ <;> (first | (go_simp; done) | go_keep)) (first | (go_at_call 17; (with_reducible refine (HBY.out _).mono ?_); rintro e w' ⟨rfl, rfl⟩) | (go_at_call 19; (with_reducible refine (HM.out _).mono ?_); rintro e w' ⟨rfl, rfl⟩) | (go_at_call 18; (with_reducible refine (HI.out _).mono ?_); rintro e w5 ⟨rfl, hb⟩; have hz := hb.size; (try simp only [szA, szS, szD, szN] at hz); (try (refine bcB (n := w.heap.size) hb ?_; intro h_w_0 e_w_0 d_w_0 _ _)); (try (refine bcB (n := w1.heap.size) hb ?_; intro h_w1_0 e_w1_0 d_w1_0 _ _)); (try (refine bcB (n := w2.heap.size) hb ?_; intro h_w2_0 e_w2_0 d_w2_0 _ _)); (try (refine bcB (n := w2.heap.size + 1) hb ?_; intro h_w2_1 e_w2_1 d_w2_1 _ _)); (try (refine bcB (n := w3.heap.size) hb ?_; intro h_w3_0 e_w3_0 d_w3_0 _ _)); (try (refine bcB (n := w3.heap.size + 1) hb ?_; intro h_w3_1 e_w3_1 d_w3_1 _ _)); (try (refine bcB (n := b) hb ?_; intro h_bb_0 e_bb_0 d_bb_0 _ _))))
  all_goals go_wp2
  all_goals go_ret
  all_goals refine ⟨rfl, ?_⟩
  all_goals exact belz
theorem walk_DialLines (lat n : Int) (w : World) (hT : Tab w) :
    Calls Tryd.prog 3 #[.int .i64 lat, .int .i64 n] w fun e w' => e = .returned (.bool true) ∧ Below w.heap.size w w' := by
  by_cases h : lat < 10000000 ∨ 220000000 < lat
  · exact walk_Dl_range lat n w hT h
  · by_cases h2 : n < 6 ∨ 18 < n
    · exact walk_Dl_arg lat n w hT (by omega) (by omega) h2
    · obtain ⟨j, hj⟩ : ∃ j : Nat, n = 6 + (j : Int) := ⟨(n - 6).toNat, by omega⟩
      subst hj
      exact walk_Dl_ok lat j w hT (by omega) (by omega) (by omega)
end Go.Proofs.YtjkhoepohiafeaaDoor
