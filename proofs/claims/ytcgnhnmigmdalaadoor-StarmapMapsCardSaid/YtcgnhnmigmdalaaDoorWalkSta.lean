/- Contracts of place.Ground, starmap.Up, star.Names with the names, starmap.Map. -/
import Derived.Test.YtcgnhnmigmdalaaDoorWalkSt3
import Derived.Test.YtcgnhnmigmdalaaDoorWalkLk2
import Derived.Test.YtcgnhnmigmdalaaDoorAbB
set_option linter.unusedVariables false
set_option linter.unusedSimpArgs false
set_option maxRecDepth 100000
namespace Go.Proofs.YtcgnhnmigmdalaaDoor
open Go.RowKit
def nmL (k : Nat) : List Value := (List.range k).map fun j => .string ⟨(stNm j).toArray⟩
theorem nmL_snoc (k : Nat) : nmL (k + 1) = nmL k ++ [.string ⟨(stNm k).toArray⟩] := by simp [nmL, List.range_succ]
theorem nmL_get {k n : Nat} (h : k < n) : (nmL n)[k]? = some (.string ⟨(stNm k).toArray⟩) := by simp [nmL, h]
set_option maxHeartbeats 2000000 in
theorem c_stNamesC (w : World) (hP : STab w) :
    Calls Tryd.prog 19 #[] w fun e w' => ∃ g cap, e = .returned (.slice (some ⟨g, 0, none⟩) 8 cap) ∧ 8 ≤ cap ∧ w.heap.size ≤ g ∧ g < w'.heap.size ∧ (∀ k, k < 8 → w'.cell? ⟨g, k, none⟩ = some (.string ⟨(stNm k).toArray⟩)) ∧ Below w.heap.size w w' := by
  obtain ⟨i0, hi0, hz0, hz1, hz2⟩ := info_parts info_str
  have hl := hP.lt
  obtain ⟨tt, fr, hg⟩ := hP.cells
  clear hP
  have hgen := sgen; have hgen2 := sgen2; have hgen3 := sgen3; go_enter Tryd.func19, Tryd.ntmps19
  iterate 12 (first | go_step | go_skip | go_back | go_upon | go_guarded)
  (first | (refine wp_load_row 93 (.global 0) rfl 0 ?_ tt stCells fr _ hg Tryd.underlying93 ?_ ?_ ?_) | ((first | go_step | go_skip | go_back | go_upon | go_guarded); first | (refine wp_load_row 93 (.global 0) rfl 0 ?_ tt stCells fr _ hg Tryd.underlying93 ?_ ?_ ?_) | ((first | go_step | go_skip | go_back | go_upon | go_guarded); first | (refine wp_load_row 93 (.global 0) rfl 0 ?_ tt stCells fr _ hg Tryd.underlying93 ?_ ?_ ?_) | ((first | go_step | go_skip | go_back | go_upon | go_guarded); first | (refine wp_load_row 93 (.global 0) rfl 0 ?_ tt stCells fr _ hg Tryd.underlying93 ?_ ?_ ?_) | ((first | go_step | go_skip | go_back | go_upon | go_guarded); first | (refine wp_load_row 93 (.global 0) rfl 0 ?_ tt stCells fr _ hg Tryd.underlying93 ?_ ?_ ?_) | ((first | go_step | go_skip | go_back | go_upon | go_guarded); first | (refine wp_load_row 93 (.global 0) rfl 0 ?_ tt stCells fr _ hg Tryd.underlying93 ?_ ?_ ?_) | ((first | go_step | go_skip | go_back | go_upon | go_guarded); first | (refine wp_load_row 93 (.global 0) rfl 0 ?_ tt stCells fr _ hg Tryd.underlying93 ?_ ?_ ?_) | ((first | go_step | go_skip | go_back | go_upon | go_guarded); first | (refine wp_load_row 93 (.global 0) rfl 0 ?_ tt stCells fr _ hg Tryd.underlying93 ?_ ?_ ?_) | ((first | go_step | go_skip | go_back | go_upon | go_guarded); first | (refine wp_load_row 93 (.global 0) rfl 0 ?_ tt stCells fr _ hg Tryd.underlying93 ?_ ?_ ?_) | ((first | go_step | go_skip | go_back | go_upon | go_guarded); first | (refine wp_load_row 93 (.global 0) rfl 0 ?_ tt stCells fr _ hg Tryd.underlying93 ?_ ?_ ?_) | ((first | go_step | go_skip | go_back | go_upon | go_guarded); first | (refine wp_load_row 93 (.global 0) rfl 0 ?_ tt stCells fr _ hg Tryd.underlying93 ?_ ?_ ?_) | ((first | go_step | go_skip | go_back | go_upon | go_guarded); first | (refine wp_load_row 93 (.global 0) rfl 0 ?_ tt stCells fr _ hg Tryd.underlying93 ?_ ?_ ?_) | ((first | go_step | go_skip | go_back | go_upon | go_guarded); first | (refine wp_load_row 93 (.global 0) rfl 0 ?_ tt stCells fr _ hg Tryd.underlying93 ?_ ?_ ?_) | ((first | go_step | go_skip | go_back | go_upon | go_guarded); first | (refine wp_load_row 93 (.global 0) rfl 0 ?_ tt stCells fr _ hg Tryd.underlying93 ?_ ?_ ?_) | ((first | go_step | go_skip | go_back | go_upon | go_guarded); (refine wp_load_row 93 (.global 0) rfl 0 ?_ tt stCells fr _ hg Tryd.underlying93 ?_ ?_ ?_))))))))))))))))
  focus rfl
  focus rfl
  focus kernel_rfl
  go_wp2_with fail
  go_loopg [1, 5] 8 (fun gk x1 i wr => ∃ k : Nat, k ≤ 8 ∧ gk + k = 8 ∧ i = .int .i64 k ∧ Below w.heap.size w wr ∧ wr.ownsRow w.heap.size 9 1 x1 k (nmL k))
  case atStart => exact ⟨0, by omega, by omega, rfl, Below.refl _ _, World.ownsRow_nil _ _ _ _⟩
  case round =>
    obtain ⟨k, hkK, hk, rfl, hbel, hown⟩ := hrel
    have hsz := hbel.size
    by_cases hlt : k < 8
    · have hix := fun w => stIx w k hlt
      have hk8 : decide ((k : Int) < 8) = true := decide_eq_true (by omega)
      have HNX := Lib.hid (nmL_snoc k)
      generalize stNm k = nm at *
      generalize stRa k = ra at *
      generalize stDec k = dec at *
      have HO := Lib.hid hown
      clear hown
      go_wp2_with (at_builtin; refine wpList_append_own _ rfl (.tmp 8) (.tmp 11) 46 rfl w.heap.size 9 i0 (.string ⟨#[]⟩) 1 16 Tryd.underlying46 hi0 hz0 hz1 hz2 rfl (by decide) _ k _ rfl ((HO.out.alloc _).alloc _) ⟨wr.heap.size + 1, 0, none⟩ 1 1 [.string ⟨nm.toArray⟩] rfl rfl ?c1 ?c2 ?c3 ?c4 ?c5 ?_)
      case c1 =>
        intro j u hj
        match j, hj with
        | 0, hj => simp at hj; subst hj; go_simp
      case c2 => intro u hu; simp at hu; rcases hu with rfl; rfl
      case c3 => unfold maxLen; omega
      case c4 => omega
      case c5 => have := hbel.size; simp; omega
      intro v' w2 hown' hgrow hnil
      have hb2 : Below w.heap.size w w2 := by
        refine Below.grown ?_ hgrow ?_ ?_
        · have := hbel.size
          exact belz
        · have := hbel.size; simp; omega
        · intro g hg
          exact (HO.out.lt g hg).1
      have hown2 : w2.ownsRow w.heap.size 9 1 v' (k + 1) (nmL (k + 1)) := by rw [HNX.out]; exact hown'
      have HO2 := Lib.hid hown2
      clear hown' hgrow hnil hown2
      go_wp2
      go_roundg (gk - 1)
      case measure => omega
      case rel => exact ⟨k + 1, by omega, by omega, by go_num, hb2, HO2.out⟩
    · obtain rfl : k = 8 := by omega
      rcases own_form hown with ⟨-, h0⟩ | ⟨g, cap, rfl, q1, q2, q3, q4, q5, q6⟩
      · exact absurd h0 (by decide)
      have HQ := Lib.hid q5
      clear hown q5 q6
      go_wp2
      go_ret
      exact ⟨g, cap, rfl, q1, q3, q4, fun k hk => by rw [HQ.out k (by omega), nmL_get hk], hbel⟩
theorem nm_is {K : Nat} (hK : K < 8) : IsSt K ⟨(stNm K).toArray⟩ := by
  have key : ∀ K < 8, (∀ j < K, (stNm j == (⟨(stNm K).toArray⟩ : ByteArray).toList) = false) ∧ (stNm K == (⟨(stNm K).toArray⟩ : ByteArray).toList) = true := by decide +kernel
  exact ⟨fun j hj => (key K hK).1 j hj, fun _ => (key K hK).2⟩
set_option maxHeartbeats 1000000 in
theorem c_Ground {lon lat t a0 a1 d0 d1 u0 u1 x0 x1 y0 y1 er : Int} (hl : LookR lon lat t a0 a1 d0 d1 u0 u1 x0 x1 y0 y1 er) (w : World) (hT : Tab w) :
    Calls Tryd.prog 45 #[.agg #[.int .i64 lon, .int .i64 lat], .agg #[.int .i64 a0, .int .i64 a1], .agg #[.int .i64 d0, .int .i64 d1], .int .i64 t] w fun e w' => e = .returned (.tuple #[.agg #[.int .i64 x0, .int .i64 x1], .agg #[.int .i64 y0, .int .i64 y1], .int .i64 er]) ∧ Below w.heap.size w w' := by
  have HL := Lib.hid hl.c
  have HT := Lib.hid hT
  clear hl hT
  have hgen := sgen; have hgen2 := sgen2; have hgen3 := sgen3; go_enter Tryd.func45, Tryd.ntmps45
  go_upto_region 2 with (go_at_call 71; (refine (HL.out _ (HT.out.below (by exact belz))).mono ?_); rintro e w1 ⟨rfl, hb⟩; have hz := hb.size; (try simp only [szA, szS, szD, szN] at hz); (try (refine bcB (n := w.heap.size) hb ?_; intro h_w_0 e_w_0 d_w_0 _ _)); (try (refine bcB (n := w.heap.size + 1) hb ?_; intro h_w_1 e_w_1 d_w_1 _ _)); (try (refine bcB (n := w.heap.size + 1 + 1) hb ?_; intro h_w_2 e_w_2 d_w_2 _ _)); (try (refine bcB (n := w.heap.size + 1 + 1 + 1) hb ?_; intro h_w_3 e_w_3 d_w_3 _ _)); (try (refine bcB (n := w.heap.size + 1 + 1 + 1 + 1) hb ?_; intro h_w_4 e_w_4 d_w_4 _ _)))
  go_region
  all_goals go_wp2_with fail
  all_goals
    refine bodyPost_ret (v := .tuple #[.agg #[.int .i64 x0, .int .i64 x1], .agg #[.int .i64 y0, .int .i64 y1], .int .i64 er]) (by simp only [results, Tryd.results45]; go_simp) rfl ⟨rfl, ?_⟩
    exact belz
/-- The contracts at a star. -/
theorem c_stAt {K : Nat} (hK : K < 8) {s : ByteArray} (hs : IsSt K s) {t : Int} (ht : instB t = true) (w : World) (hT : Tab w) (hP : STab w) :
    Calls Tryd.prog 43 #[.string s, .int .i64 t] w fun e w' => e = .returned (.tuple #[.agg #[.int .i64 (sA0 K t), .int .i64 (sA1 K t)], .agg #[.int .i64 (stDec K - 100), .int .i64 (stDec K + 100)], .int .i64 0]) ∧ Below w.heap.size w w' := c_starAt s t K w hP hT hs hK ht
theorem st_lookR {K : Nat} (hK : K < 8) {lon lat t : Int} (hp : plB lon lat = true) (ht : instB t = true) : LookR lon lat t (sA0 K t) (sA1 K t) (stDec K - 100) (stDec K + 100) (sU0 lon lat t K) (sU1 lon lat t K) (sX0 lon t K) (sX1 lon t K) (sY0 lon lat t K) (sY1 lon lat t K) 0 := by
  obtain ⟨g1, g2, g3, g4, -⟩ := star_ang hK t
  obtain ⟨r1, r2, r3, r4⟩ := st_rng K hK
  exact look_ok hp ht (by omega) (by omega) (by omega) (by omega) (by omega) (by omega)
theorem c_Up_site (lon lat t : Int) (s : ByteArray) (w : World) (h : plB lon lat = false) :
    Calls Tryd.prog 24 #[.agg #[.int .i64 lon, .int .i64 lat], .string s, .int .i64 t] w fun e w' => e = .returned (.tuple #[.int .i64 0, .int .i64 3]) ∧ Below w.heap.size w w' := by
  have hC := fun w1 => c_placeCheck lon lat w1
  rw [plE_f h] at hC
  have HC := Lib.hid hC
  clear hC h
  have hgen := sgen; have hgen2 := sgen2; have hgen3 := sgen3; go_enter Tryd.func24, Tryd.ntmps24
  go_wp2_with (go_at_call 41; (with_reducible refine (HC.out _).mono ?_); rintro e w1 ⟨rfl, hb⟩; have hz := hb.size; (try simp only [szA, szS, szD, szN] at hz); (try (refine bcB (n := w.heap.size) hb ?_; intro h_w_0 e_w_0 d_w_0 _ _)))
  refine bodyPost_ret (v := .tuple #[.int .i64 0, .int .i64 3]) (by simp only [results, Tryd.results24]; go_simp) rfl ⟨rfl, ?_⟩
  exact belz
theorem c_Up_err (lon lat t : Int) (s : ByteArray) (w : World) (x : Int) (hx : x ≠ 0) (h : plB lon lat = true) (hP : STab w)
    (HA : Hid (∀ w1, STab w1 → Calls Tryd.prog 43 #[.string s, .int .i64 t] w1 fun e w' => e = .returned (.tuple #[.agg #[.int .i64 0, .int .i64 0], .agg #[.int .i64 0, .int .i64 0], .int .i64 x]) ∧ Below w1.heap.size w1 w')) :
    Calls Tryd.prog 24 #[.agg #[.int .i64 lon, .int .i64 lat], .string s, .int .i64 t] w fun e w' => e = .returned (.tuple #[.int .i64 0, .int .i64 x]) ∧ Below w.heap.size w w' := by
  have hC := fun w1 => c_placeCheck lon lat w1
  rw [plE_t h] at hC
  have HC := Lib.hid hC
  have HP := Lib.hid hP
  have h1 : (x != 0) = true := by simp [hx]
  clear hC h hP
  have hgen := sgen; have hgen2 := sgen2; have hgen3 := sgen3; go_enter Tryd.func24, Tryd.ntmps24
  go_wp2_with (first | (go_at_call 41; (with_reducible refine (HC.out _).mono ?_); rintro e w1 ⟨rfl, hb⟩; have hz := hb.size; (try simp only [szA, szS, szD, szN] at hz); (try (refine bcB (n := w.heap.size) hb ?_; intro h_w_0 e_w_0 d_w_0 _ _))) | (go_at_call 43; (with_reducible refine (HA.out _ (HP.out.below (by exact belz))).mono ?_); rintro e w2 ⟨rfl, hb⟩; have hz := hb.size; (try simp only [szA, szS, szD, szN] at hz); (try (refine bcB (n := w.heap.size) hb ?_; intro h_w_0 e_w_0 d_w_0 _ _)); (try (refine bcB (n := w1.heap.size) hb ?_; intro h_w1_0 e_w1_0 d_w1_0 _ _))))
  refine bodyPost_ret (v := .tuple #[.int .i64 0, .int .i64 x]) (by simp only [results, Tryd.results24]; go_simp) rfl ⟨rfl, ?_⟩
  exact belz
def upN (lon lat t : Int) (K : Nat) : Int := if 0 < sU0 lon lat t K then 1 else if sU1 lon lat t K < 0 then -1 else 0
def upE (lon lat t : Int) (K : Nat) : Int := if 0 < sU0 lon lat t K then 0 else if sU1 lon lat t K < 0 then 0 else 11
set_option maxHeartbeats 1000000 in
theorem c_Up_ok (lon lat t : Int) (s : ByteArray) (K : Nat) (hK : K < 8) (hs : IsSt K s) (w : World) (h : plB lon lat = true) (ht : instB t = true) (hT : Tab w) (hP : STab w) :
    Calls Tryd.prog 24 #[.agg #[.int .i64 lon, .int .i64 lat], .string s, .int .i64 t] w fun e w' => e = .returned (.tuple #[.int .i64 (upN lon lat t K), .int .i64 (upE lon lat t K)]) ∧ Below w.heap.size w w' := by
  have hC := fun w1 => c_placeCheck lon lat w1
  rw [plE_t h] at hC
  have HC := Lib.hid hC
  have HP := Lib.hid hP
  have HT := Lib.hid hT
  have HA := Lib.hid (fun w1 h1 h2 => c_stAt hK hs ht w1 h1 h2)
  have HH := Lib.hid (fun w1 h1 => c_Height (st_lookR hK h ht) w1 h1)
  obtain ⟨n, hn⟩ : ∃ n, n = upN lon lat t K := ⟨_, rfl⟩
  obtain ⟨x, hx⟩ : ∃ x, x = upE lon lat t K := ⟨_, rfl⟩
  rw [← hn, ← hx]
  unfold upN at hn
  unfold upE at hx
  generalize sU0 lon lat t K = u0 at *
  generalize sU1 lon lat t K = u1 at *
  generalize sX0 lon t K = x0 at *
  generalize sX1 lon t K = x1 at *
  generalize sY0 lon lat t K = y0 at *
  generalize sY1 lon lat t K = y1 at *
  generalize sA0 K t = a0 at *
  generalize sA1 K t = a1 at *
  generalize stDec K - 100 = d0 at *
  generalize stDec K + 100 = d1 at *
  clear hC h hP hT ht
  by_cases c1 : 0 < u0
  · rw [if_pos c1] at hn hx
    subst hn hx
    have f1 : decide (0 < u0) = true := decide_eq_true c1
    have hgen := sgen; have hgen2 := sgen2; have hgen3 := sgen3; go_enter Tryd.func24, Tryd.ntmps24
    go_wp2_with (first | (go_at_call 41; (with_reducible refine (HC.out _).mono ?_); rintro e w1 ⟨rfl, hb⟩; have hz := hb.size; (try simp only [szA, szS, szD, szN] at hz); (try (refine bcB (n := w.heap.size) hb ?_; intro h_w_0 e_w_0 d_w_0 _ _))) | (go_at_call 43; (with_reducible refine (HA.out _ (HT.out.below (by exact belz)) (HP.out.below (by exact belz))).mono ?_); rintro e w2 ⟨rfl, hb⟩; have hz := hb.size; (try simp only [szA, szS, szD, szN] at hz); (try (refine bcB (n := w.heap.size) hb ?_; intro h_w_0 e_w_0 d_w_0 _ _)); (try (refine bcB (n := w1.heap.size) hb ?_; intro h_w1_0 e_w1_0 d_w1_0 _ _))) | (go_at_call 44; (with_reducible refine (HH.out _ (HT.out.below (by exact belz))).mono ?_); rintro e w3 ⟨rfl, hb⟩; have hz := hb.size; (try simp only [szA, szS, szD, szN] at hz); (try (refine bcB (n := w.heap.size) hb ?_; intro h_w_0 e_w_0 d_w_0 _ _)); (try (refine bcB (n := w1.heap.size) hb ?_; intro h_w1_0 e_w1_0 d_w1_0 _ _)); (try (refine bcB (n := w2.heap.size) hb ?_; intro h_w2_0 e_w2_0 d_w2_0 _ _)); (try (refine bcB (n := w2.heap.size + 1) hb ?_; intro h_w2_1 e_w2_1 d_w2_1 _ _))))
    refine bodyPost_ret (v := .tuple #[.int .i64 1, .int .i64 0]) (by simp only [results, Tryd.results24]; go_simp) rfl ⟨rfl, ?_⟩
    exact belz
  · rw [if_neg c1] at hn hx
    have f1 : decide (0 < u0) = false := decide_eq_false c1
    by_cases c2 : u1 < 0
    · rw [if_pos c2] at hn hx
      subst hn hx
      have f2 : decide (u1 < 0) = true := decide_eq_true c2
      have hgen := sgen; have hgen2 := sgen2; have hgen3 := sgen3; go_enter Tryd.func24, Tryd.ntmps24
      go_wp2_with (first | (go_at_call 41; (with_reducible refine (HC.out _).mono ?_); rintro e w1 ⟨rfl, hb⟩; have hz := hb.size; (try simp only [szA, szS, szD, szN] at hz); (try (refine bcB (n := w.heap.size) hb ?_; intro h_w_0 e_w_0 d_w_0 _ _))) | (go_at_call 43; (with_reducible refine (HA.out _ (HT.out.below (by exact belz)) (HP.out.below (by exact belz))).mono ?_); rintro e w2 ⟨rfl, hb⟩; have hz := hb.size; (try simp only [szA, szS, szD, szN] at hz); (try (refine bcB (n := w.heap.size) hb ?_; intro h_w_0 e_w_0 d_w_0 _ _)); (try (refine bcB (n := w1.heap.size) hb ?_; intro h_w1_0 e_w1_0 d_w1_0 _ _))) | (go_at_call 44; (with_reducible refine (HH.out _ (HT.out.below (by exact belz))).mono ?_); rintro e w3 ⟨rfl, hb⟩; have hz := hb.size; (try simp only [szA, szS, szD, szN] at hz); (try (refine bcB (n := w.heap.size) hb ?_; intro h_w_0 e_w_0 d_w_0 _ _)); (try (refine bcB (n := w1.heap.size) hb ?_; intro h_w1_0 e_w1_0 d_w1_0 _ _)); (try (refine bcB (n := w2.heap.size) hb ?_; intro h_w2_0 e_w2_0 d_w2_0 _ _)); (try (refine bcB (n := w2.heap.size + 1) hb ?_; intro h_w2_1 e_w2_1 d_w2_1 _ _))))
      refine bodyPost_ret (v := .tuple #[.int .i64 (-1), .int .i64 0]) (by simp only [results, Tryd.results24]; go_simp) rfl ⟨rfl, ?_⟩
      exact belz
    · rw [if_neg c2] at hn hx
      subst hn hx
      have f2 : decide (u1 < 0) = false := decide_eq_false c2
      have hgen := sgen; have hgen2 := sgen2; have hgen3 := sgen3; go_enter Tryd.func24, Tryd.ntmps24
      go_wp2_with (first | (go_at_call 41; (with_reducible refine (HC.out _).mono ?_); rintro e w1 ⟨rfl, hb⟩; have hz := hb.size; (try simp only [szA, szS, szD, szN] at hz); (try (refine bcB (n := w.heap.size) hb ?_; intro h_w_0 e_w_0 d_w_0 _ _))) | (go_at_call 43; (with_reducible refine (HA.out _ (HT.out.below (by exact belz)) (HP.out.below (by exact belz))).mono ?_); rintro e w2 ⟨rfl, hb⟩; have hz := hb.size; (try simp only [szA, szS, szD, szN] at hz); (try (refine bcB (n := w.heap.size) hb ?_; intro h_w_0 e_w_0 d_w_0 _ _)); (try (refine bcB (n := w1.heap.size) hb ?_; intro h_w1_0 e_w1_0 d_w1_0 _ _))) | (go_at_call 44; (with_reducible refine (HH.out _ (HT.out.below (by exact belz))).mono ?_); rintro e w3 ⟨rfl, hb⟩; have hz := hb.size; (try simp only [szA, szS, szD, szN] at hz); (try (refine bcB (n := w.heap.size) hb ?_; intro h_w_0 e_w_0 d_w_0 _ _)); (try (refine bcB (n := w1.heap.size) hb ?_; intro h_w1_0 e_w1_0 d_w1_0 _ _)); (try (refine bcB (n := w2.heap.size) hb ?_; intro h_w2_0 e_w2_0 d_w2_0 _ _)); (try (refine bcB (n := w2.heap.size + 1) hb ?_; intro h_w2_1 e_w2_1 d_w2_1 _ _))))
      refine bodyPost_ret (v := .tuple #[.int .i64 0, .int .i64 11]) (by simp only [results, Tryd.results24]; go_simp) rfl ⟨rfl, ?_⟩
      exact belz
end Go.Proofs.YtcgnhnmigmdalaaDoor
