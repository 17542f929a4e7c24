/- The contract of starmap.Map; starmapWorks. starmapWorks; the walk through the law StarmapUps. -/
import Derived.Test.YtcgnhnmigmdalaaDoorWalkSta
import Derived.Deep.CutBlock
import Derived.Test.YtcgnhnmigmdalaaDoorWalkAbv
set_option linter.unusedVariables false
set_option linter.unusedSimpArgs false
namespace Go.Proofs.YtcgnhnmigmdalaaDoor
section
set_option maxRecDepth 100000
open Go.RowKit
def dotC (lon lat t : Int) (K : Nat) : List Value := [.string ⟨(stNm K).toArray⟩, .int .i64 (sX0 lon t K), .int .i64 (sX1 lon t K), .int .i64 (sY0 lon lat t K), .int .i64 (sY1 lon lat t K), .bool (decide (0 < sU0 lon lat t K))]
def dots (lon lat t : Int) (k : Nat) : List Nat := (List.range k).filter fun K => decide (0 ≤ sU1 lon lat t K)
def dotsC (lon lat t : Int) (l : List Nat) : List Value := l.flatMap (dotC lon lat t)
theorem dots_snoc (lon lat t : Int) (k : Nat) : dots lon lat t (k + 1) = if 0 ≤ sU1 lon lat t k then dots lon lat t k ++ [k] else dots lon lat t k := by
  unfold dots
  rw [List.range_succ, List.filter_append]
  by_cases h : 0 ≤ sU1 lon lat t k
  · rw [if_pos h]; simp [h]
  · rw [if_neg h]; simp [h]
theorem dots_le (lon lat t : Int) (k : Nat) : (dots lon lat t k).length ≤ k := by
  have := List.length_filter_le (fun K => decide (0 ≤ sU1 lon lat t K)) (List.range k)
  rw [List.length_range] at this
  exact this
theorem dotC_len (lon lat t : Int) (K : Nat) : (dotC lon lat t K).length = 6 := rfl
theorem dots_get (lon lat t : Int) : ∀ (l : List Nat) (k : Nat) (h : k < l.length) (j : Nat), j < 6 → (dotsC lon lat t l)[k * 6 + j]? = (dotC lon lat t l[k])[j]?
  | [], k, h, _, _ => by simp at h
  | a :: l, 0, _, j, hj => by
    show (dotC lon lat t a ++ dotsC lon lat t l)[0 * 6 + j]? = _
    rw [List.getElem?_append_left (by rw [dotC_len]; omega)]
    simp
  | a :: l, k + 1, h, j, hj => by
    show (dotC lon lat t a ++ dotsC lon lat t l)[(k + 1) * 6 + j]? = _
    rw [List.getElem?_append_right (by rw [dotC_len]; omega), dotC_len, show (k + 1) * 6 + j - 6 = k * 6 + j by omega]
    exact dots_get lon lat t l k (by simpa using h) j hj
theorem info_dot : (Tryd.prog.info? 55).map (fun i => (i.zero, i.size, i.bytes)) = some (some (.agg #[.string ⟨#[]⟩, .int .i64 0, .int .i64 0, .int .i64 0, .int .i64 0, .bool false]), 6, 56) := by kernel_rfl
/-- The dots in memory. -/
structure DotAt (w : World) (g o : Nat) (c : List Value) : Prop where
  c : ∀ j, j < 6 → w.cell? ⟨g, o + j, none⟩ = c[j]?
def MapIs (lon lat t : Int) (w : World) (e : Ending) (w' : World) : Prop :=
  ∃ a cap, e = .returned (.tuple #[.slice a (dots lon lat t 8).length cap, .int .i64 0]) ∧ (dots lon lat t 8).length ≤ cap ∧ (∀ k (h : k < (dots lon lat t 8).length), ∃ g, a = some ⟨g, 0, none⟩ ∧ g < w'.heap.size ∧ DotAt w' g (k * 6) (dotC lon lat t (dots lon lat t 8)[k])) ∧ Below w.heap.size w w'
theorem c_Map_site (lon lat t : Int) (w : World) (h : plB lon lat = false) :
    Calls Tryd.prog 16 #[.agg #[.int .i64 lon, .int .i64 lat], .int .i64 t] w fun e w' => e = .returned (.tuple #[.slice none 0 0, .int .i64 3]) ∧ Below w.heap.size w w' := by
  have hC := fun w1 => c_placeCheck lon lat w1
  rw [plE_f h] at hC
  have HC := Lib.hid hC
  clear hC h
  have hgen := sgen; have hgen2 := sgen2; have hgen3 := sgen3; go_enter Tryd.func16, Tryd.ntmps16
  go_wp2_with (go_at_call 41; (with_reducible refine (HC.out _).mono ?_); rintro e w1 ⟨rfl, hb⟩; have hz := hb.size; (try simp only [szA, szS, szD, szN] at hz); (try (refine bcB (n := w.heap.size) hb ?_; intro h_w_0 e_w_0 d_w_0 _ _)))
  refine bodyPost_ret (v := .tuple #[.slice none 0 0, .int .i64 3]) (by simp only [results, Tryd.results16]; go_simp) rfl ⟨rfl, ?_⟩
  exact belz
theorem c_Map_time (lon lat t : Int) (w : World) (h : plB lon lat = true) (ht : instB t = false) (t1 : -9223372036854775808 ≤ t) (t2 : t ≤ 9223372036854775807) :
    Calls Tryd.prog 16 #[.agg #[.int .i64 lon, .int .i64 lat], .int .i64 t] w fun e w' => e = .returned (.tuple #[.slice none 0 0, .int .i64 3]) ∧ Below w.heap.size w w' := by
  have hC := fun w1 => c_placeCheck lon lat w1
  rw [plE_t h] at hC
  have HC := Lib.hid hC
  have hI := fun w1 => c_isInst t w1 t1 t2
  rw [ht] at hI
  have HI := Lib.hid hI
  clear hC h hI ht
  have hgen := sgen; have hgen2 := sgen2; have hgen3 := sgen3; go_enter Tryd.func16, Tryd.ntmps16
  go_wp2_with (first | (go_at_call 41; (with_reducible refine (HC.out _).mono ?_); rintro e w1 ⟨rfl, hb⟩; have hz := hb.size; (try simp only [szA, szS, szD, szN] at hz); (try (refine bcB (n := w.heap.size) hb ?_; intro h_w_0 e_w_0 d_w_0 _ _))) | (go_at_call 42; (with_reducible refine (HI.out _).mono ?_); rintro e w2 ⟨rfl, hb⟩; have hz := hb.size; (try simp only [szA, szS, szD, szN] at hz); (try (refine bcB (n := w.heap.size) hb ?_; intro h_w_0 e_w_0 d_w_0 _ _)); (try (refine bcB (n := w1.heap.size) hb ?_; intro h_w1_0 e_w1_0 d_w1_0 _ _))))
  refine bodyPost_ret (v := .tuple #[.slice none 0 0, .int .i64 3]) (by simp only [results, Tryd.results16]; go_simp) rfl ⟨rfl, ?_⟩
  exact belz
set_option maxHeartbeats 4000000 in
theorem c_Map_ok (lon lat t : Int) (w : World) (h : plB lon lat = true) (ht : instB t = true) (hT : Tab w) (hP : STab w) :
    Calls Tryd.prog 16 #[.agg #[.int .i64 lon, .int .i64 lat], .int .i64 t] w (MapIs lon lat t w) := by
  obtain ⟨t1, t2⟩ := inst_bd ht
  obtain ⟨i0, hi0, iz0, iz1, iz2⟩ := info_parts info_dot
  have hC := fun w1 => c_placeCheck lon lat w1
  rw [plE_t h] at hC
  have HC := Lib.hid hC
  have hI := fun w1 => c_isInst t w1 (by omega) (by omega)
  rw [ht] at hI
  have HI := Lib.hid hI
  have HP := Lib.hid hP
  have HT := Lib.hid hT
  have HA := Lib.hid (fun K hK w1 h1 h2 => c_stAt (K := K) hK (nm_is hK) ht w1 h1 h2)
  have HH := Lib.hid (fun K hK w1 h1 => c_Height (st_lookR (K := K) hK h ht) w1 h1)
  have HG := Lib.hid (fun K hK w1 h1 => c_Ground (st_lookR (K := K) hK h ht) w1 h1)
  have HN := Lib.hid (fun w1 h1 => c_stNamesC w1 h1)
  clear hC hI h ht hT hP
  have hgen := sgen; have hgen2 := sgen2; have hgen3 := sgen3; go_enter Tryd.func16, Tryd.ntmps16
  go_upto_region 8 with (first | (go_at_call 41; (with_reducible refine (HC.out _).mono ?_); rintro e w1 ⟨rfl, hb⟩; have hz := hb.size; (try simp only [szA, szS, szD, szN] at hz); (try (refine bcB (n := w.heap.size) hb ?_; intro h_w_0 e_w_0 d_w_0 _ _))) | (go_at_call 42; (with_reducible refine (HI.out _).mono ?_); rintro e w2 ⟨rfl, hb⟩; have hz := hb.size; (try simp only [szA, szS, szD, szN] at hz); (try (refine bcB (n := w.heap.size) hb ?_; intro h_w_0 e_w_0 d_w_0 _ _)); (try (refine bcB (n := w1.heap.size) hb ?_; intro h_w1_0 e_w1_0 d_w1_0 _ _))) | (go_at_call 19; (with_reducible refine (HN.out _ (HP.out.below (by exact belz))).mono ?_); rintro e w3 ⟨g, cap, rfl, hcap, hgw, hgl, hnm, hb⟩; have hz := hb.size; (try simp only [szA, szS, szD, szN] at hz); (try (refine bcB (n := w.heap.size) hb ?_; intro h_w_0 e_w_0 d_w_0 _ _)); (try (refine bcB (n := w1.heap.size) hb ?_; intro h_w1_0 e_w1_0 d_w1_0 _ _)); (try (refine bcB (n := w2.heap.size) hb ?_; intro h_w2_0 e_w2_0 d_w2_0 _ _))))
  have hb3 : Below w.heap.size w w3 := by exact belz
  have hP3 := HP.out.below hb3
  have hT3 := HT.out.below hb3
  have hz3 := hb3.size
  have HNM := Lib.hid hnm
  have cs0 : w3.cell? ⟨w.heap.size, 0, none⟩ = some (.int .i64 lon) := by go_simp
  have cs1 : w3.cell? ⟨w.heap.size, 1, none⟩ = some (.int .i64 lat) := by go_simp
  have hwl : w.heap.size < w3.heap.size := by omega
  clear hnm hb
  go_loopg [7, 28] 8 (fun gk x7 i wr => ∃ k : Nat, k ≤ 8 ∧ gk + k = 8 ∧ i = .int .i64 (k : Int) ∧ Below w3.heap.size w3 wr ∧ wr.ownsRow w3.heap.size 55 6 x7 (dots lon lat t k).length (dotsC lon lat t (dots lon lat t k)))
  case atStart => exact ⟨0, by omega, by omega, rfl, Below.refl _ _, World.ownsRow_nil _ _ _ _⟩
  case round =>
    obtain ⟨k, hk8, hk, rfl, hbel, hO⟩ := hrel
    have hsz := hbel.size
    by_cases hlt : k < 8
    · have hkz : (k : Int) < 8 := by omega
      have hkd : decide ((k : Int) < 8) = true := decide_eq_true hkz
      have hkc : (k : Int) < (cap : Int) := by omega
      have c5 : wr.cell? ⟨g, k, none⟩ = some (.string ⟨(stNm k).toArray⟩) := (hbel.cell (p := ⟨g, k, none⟩) hgl).trans (HNM.out k hlt)
      have d0 : wr.cell? ⟨w.heap.size, 0, none⟩ = some (.int .i64 lon) := (hbel.cell (p := ⟨w.heap.size, 0, none⟩) hwl).trans cs0
      have d1 : wr.cell? ⟨w.heap.size, 1, none⟩ = some (.int .i64 lat) := (hbel.cell (p := ⟨w.heap.size, 1, none⟩) hwl).trans cs1
      have hwr : w.heap.size < wr.heap.size := by omega
      have HAK := Lib.hid (HA.out k hlt)
      have HHK := Lib.hid (HH.out k hlt)
      have HGK := Lib.hid (HG.out k hlt)
      have HTT := Lib.hid (hT3.below hbel)
      have HPP := Lib.hid (hP3.below hbel)
      have HSN := Lib.hid (dots_snoc lon lat t k)
      have hdl := dots_le lon lat t k
      have HO := Lib.hid hO
      have hdc : dotC lon lat t k = [.string ⟨(stNm k).toArray⟩, .int .i64 (sX0 lon t k), .int .i64 (sX1 lon t k), .int .i64 (sY0 lon lat t k), .int .i64 (sY1 lon lat t k), .bool (decide (0 < sU0 lon lat t k))] := rfl
      have HDC := Lib.hid hdc
      clear hO hdc
      generalize sU0 lon lat t k = u0 at *
      generalize sU1 lon lat t k = u1 at *
      generalize sX0 lon t k = x0 at *
      generalize sX1 lon t k = x1 at *
      generalize sY0 lon lat t k = y0 at *
      generalize sY1 lon lat t k = y1 at *
      generalize sA0 k t = a0 at *
      generalize sA1 k t = a1 at *
      generalize stDec k - 100 = e0 at *
      generalize stDec k + 100 = e1 at *
      generalize stNm k = nm at *
      by_cases hu : 0 ≤ u1
      · have f1 : decide (u1 < 0) = false := decide_eq_false (by omega)
        rw [if_pos hu] at HSN
        go_upto_region 14 with (first | (go_at_call 43; (with_reducible refine (HAK.out _ (HTT.out.below (by exact belz)) (HPP.out.below (by exact belz))).mono ?_); rintro e w4 ⟨rfl, hb⟩; have hz := hb.size; (try simp only [szA, szS, szD, szN] at hz); (try (refine bcB (n := wr.heap.size) hb ?_; intro h_wr_0 e_wr_0 d_wr_0 _ _)); (try (refine bcB (n := w.heap.size) hb ?_; intro h_w_0 e_w_0 d_w_0 _ _))) | (go_at_call 44; (with_reducible refine (HHK.out _ (HTT.out.below (by exact belz))).mono ?_); rintro e w5 ⟨rfl, hb⟩; have hz := hb.size; (try simp only [szA, szS, szD, szN] at hz); (try (refine bcB (n := wr.heap.size) hb ?_; intro h_wr_0 e_wr_0 d_wr_0 _ _)); (try (refine bcB (n := w.heap.size) hb ?_; intro h_w_0 e_w_0 d_w_0 _ _)); (try (refine bcB (n := w4.heap.size) hb ?_; intro h_w4_0 e_w4_0 d_w4_0 _ _)); (try (refine bcB (n := w4.heap.size + 1) hb ?_; intro h_w4_1 e_w4_1 d_w4_1 _ _))) | (go_at_call 45; (with_reducible refine (HGK.out _ (HTT.out.below (by exact belz))).mono ?_); rintro e w6 ⟨rfl, hb⟩; have hz := hb.size; (try simp only [szA, szS, szD, szN] at hz); (try (refine bcB (n := wr.heap.size) hb ?_; intro h_wr_0 e_wr_0 d_wr_0 _ _)); (try (refine bcB (n := w.heap.size) hb ?_; intro h_w_0 e_w_0 d_w_0 _ _)); (try (refine bcB (n := w4.heap.size) hb ?_; intro h_w4_0 e_w4_0 d_w4_0 _ _)); (try (refine bcB (n := w4.heap.size + 1) hb ?_; intro h_w4_1 e_w4_1 d_w4_1 _ _)); (try (refine bcB (n := w5.heap.size) hb ?_; intro h_w5_0 e_w5_0 d_w5_0 _ _))))
        have hzr6 : wr.heap.size ≤ w6.heap.size := by omega
        have hbr6 : Below wr.heap.size wr w6 := by (clear hbel hb3; exact belz)
        have hb6 : Below w3.heap.size w3 w6 := hbel.trans (hbr6.mono hsz)
        have hz6 := hb6.size
        clear HAK HHK HGK hb
        go_wp2_with (at_builtin; refine wpList_append_own _ rfl _ _ 41 rfl w3.heap.size 55 i0 _ 6 56 Tryd.underlying41 hi0 iz0 iz1 iz2 rfl (by decide) _ _ _ rfl (((own_below HO.out hbr6).alloc _).alloc _ |>.alloc _) ⟨w6.heap.size + 1 + 1, 0, none⟩ 1 1 [.string ⟨nm.toArray⟩, .int .i64 x0, .int .i64 x1, .int .i64 y0, .int .i64 y1, .bool (decide (0 < u0))] rfl rfl ?ca ?cb ?cc ?cd ?ce ?_)
        case ca =>
          intro j u hj
          match j, hj with
          | 0, hj => simp at hj; subst hj; simp only [Addr.add]; go_simp
          | 1, hj => simp at hj; subst hj; simp only [Addr.add]; go_simp
          | 2, hj => simp at hj; subst hj; simp only [Addr.add]; go_simp
          | 3, hj => simp at hj; subst hj; simp only [Addr.add]; go_simp
          | 4, hj => simp at hj; subst hj; simp only [Addr.add]; go_simp
          | 5, hj => simp at hj; subst hj; simp only [Addr.add]; go_simp
        case cb => intro u hu; simp at hu; rcases hu with rfl | rfl | rfl | rfl | rfl | rfl <;> rfl
        case cc => unfold maxLen; omega
        case cd => omega
        case ce => simp; omega
        intro v' w7 ho7 hg7 _
        have hb7 : Below w3.heap.size w3 w7 := by
          refine Below.grown ?_ hg7 ?_ ?_
          · exact belz
          · simp; omega
          · intro q hq
            exact (HO.out.lt q hq).1
        have HO7 : Hid (w7.ownsRow w3.heap.size 55 6 v' (dots lon lat t (k + 1)).length (dotsC lon lat t (dots lon lat t (k + 1)))) := Lib.hid (by
          rw [HSN.out]
          have e1 : (dots lon lat t k ++ [k]).length = (dots lon lat t k).length + 1 := by simp
          have e2 : dotsC lon lat t (dots lon lat t k ++ [k]) = dotsC lon lat t (dots lon lat t k) ++ dotC lon lat t k := by simp [dotsC]
          rw [e1, e2, HDC.out]
          exact ho7)
        clear ho7 hg7
        go_wp2_with fail
        go_roundg (8 - (k + 1))
        case measure => omega
        case rel => exact ⟨k + 1, by omega, by omega, rfl, hb7, HO7.out⟩
      · have f1 : decide (u1 < 0) = true := decide_eq_true (by omega)
        rw [if_neg hu] at HSN
        go_wp2_with (first | (go_at_call 43; (with_reducible refine (HAK.out _ (HTT.out.below (by exact belz)) (HPP.out.below (by exact belz))).mono ?_); rintro e w4 ⟨rfl, hb⟩; have hz := hb.size; (try simp only [szA, szS, szD, szN] at hz); (try (refine bcB (n := wr.heap.size) hb ?_; intro h_wr_0 e_wr_0 d_wr_0 _ _)); (try (refine bcB (n := w.heap.size) hb ?_; intro h_w_0 e_w_0 d_w_0 _ _))) | (go_at_call 44; (with_reducible refine (HHK.out _ (HTT.out.below (by exact belz))).mono ?_); rintro e w5 ⟨rfl, hb⟩; have hz := hb.size; (try simp only [szA, szS, szD, szN] at hz); (try (refine bcB (n := wr.heap.size) hb ?_; intro h_wr_0 e_wr_0 d_wr_0 _ _)); (try (refine bcB (n := w.heap.size) hb ?_; intro h_w_0 e_w_0 d_w_0 _ _)); (try (refine bcB (n := w4.heap.size) hb ?_; intro h_w4_0 e_w4_0 d_w4_0 _ _)); (try (refine bcB (n := w4.heap.size + 1) hb ?_; intro h_w4_1 e_w4_1 d_w4_1 _ _))))
        have hbr5 : Below wr.heap.size wr (w5.alloc (.cells #[.int .i64 u0, .int .i64 u1] 24)) := by (clear hbel hb3; exact belz)
        have HO5 := Lib.hid (own_below HO.out hbr5)
        have hb5 := hbel.trans (hbr5.mono hsz)
        go_roundg (8 - (k + 1))
        case measure => omega
        case rel => exact ⟨k + 1, by omega, by omega, rfl, hb5, by rw [HSN.out]; exact HO5.out⟩
    · obtain rfl : k = 8 := by omega
      have HO := Lib.hid hO
      have hb : Below w.heap.size w wr := hb3.trans (hbel.mono hz3)
      rcases own_form hO with ⟨rfl, h0⟩ | ⟨gg, cc, rfl, q1, q2, q3, q4, q5, q6⟩
      · clear hO
        go_wp2_with fail
        refine bodyPost_ret (v := .tuple #[.slice none 0 0, .int .i64 0]) (by simp only [results, Tryd.results16]; go_simp) rfl ?_
        exact ⟨none, 0, by rw [h0], by omega, fun q hq => by omega, hb⟩
      · have HQ := Lib.hid q5
        clear hO q5 q6
        go_wp2_with fail
        refine bodyPost_ret (v := .tuple #[.slice (some ⟨gg, 0, none⟩) (dots lon lat t 8).length cc, .int .i64 0]) (by simp only [results, Tryd.results16]; go_simp) rfl ?_
        refine ⟨_, cc, rfl, q1, fun q hq => ⟨gg, rfl, q4, ⟨fun j hj => ?_⟩⟩, hb⟩
        rw [HQ.out _ (by omega)]
        exact dots_get lon lat t _ q hq j hj
end
section
set_option maxRecDepth 100000
open Go.RowKit
theorem pol_vals : 0 < sU0 0 150000000 0 0 ∧ 0 ≤ sU1 0 150000000 0 0 := by decide +kernel
theorem dots_head {lon lat t : Int} (h : 0 ≤ sU1 lon lat t 0) : ∃ l, dots lon lat t 8 = 0 :: l := by
  unfold dots
  rw [show List.range 8 = 0 :: [1, 2, 3, 4, 5, 6, 7] from rfl, List.filter_cons_of_pos (by simpa using h)]
  exact ⟨_, rfl⟩
theorem pol_is : IsSt 0 ⟨#[112, 111, 108, 97, 114, 105, 115]⟩ := nm_is (K := 0) (by omega)
set_option maxHeartbeats 1000000 in
theorem c_starmapWorks (w : World) (hT : Tab w) (hP : STab w) : Calls Tryd.prog 15 #[] w fun e w' => e = .returned (.bool true) ∧ Below w.heap.size w w' := by
  have hU := fun w1 h1 h2 => c_Up_ok 0 150000000 0 ⟨#[112, 111, 108, 97, 114, 105, 115]⟩ 0 (by omega) pol_is w1 (by decide) (by decide) h1 h2
  have e1 : upN 0 150000000 0 0 = 1 := by unfold upN; rw [if_pos pol_vals.1]
  have e2 : upE 0 150000000 0 0 = 0 := by unfold upE; rw [if_pos pol_vals.1]
  rw [e1, e2] at hU
  have HU := Lib.hid hU
  have HM : Hid (∀ w1, Tab w1 → STab w1 → Calls Tryd.prog 16 #[.agg #[.int .i64 0, .int .i64 150000000], .int .i64 0] w1 fun e w' => ∃ g n cap, e = .returned (.tuple #[.slice (some ⟨g, 0, none⟩) (n + 1) cap, .int .i64 0]) ∧ n + 1 ≤ cap ∧ g < w'.heap.size ∧ w'.cell? ⟨g, 0, none⟩ = some (.string ⟨#[112, 111, 108, 97, 114, 105, 115]⟩) ∧ w'.cell? ⟨g, 5, none⟩ = some (.bool true) ∧ Below w1.heap.size w1 w') := Lib.hid (fun w1 h1 h2 => by
    refine (c_Map_ok 0 150000000 0 w1 (by decide) (by decide) h1 h2).mono ?_
    rintro e w' ⟨a, cap, he, hc, hd, hb⟩
    obtain ⟨l, hl⟩ := dots_head pol_vals.2
    have h0 : 0 < (dots 0 150000000 0 8).length := by rw [hl]; simp
    obtain ⟨g, ha, hg, hat⟩ := hd 0 h0
    have e0 : (dots 0 150000000 0 8)[0] = 0 := by simp [hl]
    rw [e0] at hat
    have q0 := hat.c 0 (by omega)
    have q5 := hat.c 5 (by omega)
    have ed : decide (0 < sU0 0 150000000 0 0) = true := decide_eq_true pol_vals.1
    refine ⟨g, l.length, cap, ?_, ?_, hg, q0, ?_, hb⟩
    · rw [he, ha, hl]; rfl
    · rw [hl] at hc; simpa using hc
    · rw [show w'.cell? ⟨g, 5, none⟩ = some (.bool (decide (0 < sU0 0 150000000 0 0))) from q5, ed])
  have HT := Lib.hid hT
  have HP := Lib.hid hP
  clear hT hP hU e1 e2
  have hgen := sgen; have hgen2 := sgen2; have hgen3 := sgen3; go_enter Tryd.func15, Tryd.ntmps15
  go_wp2_with (first | (go_at_call 24; (with_reducible refine (HU.out _ (HT.out.below (by exact belz)) (HP.out.below (by exact belz))).mono ?_); rintro e w1 ⟨rfl, hb⟩; have hz := hb.size; (try simp only [szA, szS, szD, szN] at hz); (try (refine bcB (n := w.heap.size) hb ?_; intro h_w_0 e_w_0 d_w_0 _ _))) | (go_at_call 16; (with_reducible refine (HM.out _ (HT.out.below (by exact belz)) (HP.out.below (by exact belz))).mono ?_); rintro e w2 ⟨g, n, cap, rfl, hc, hg, q0, q5, hb⟩; have hz := hb.size; (try simp only [szA, szS, szD, szN] at hz); (try (refine bcB (n := w.heap.size) hb ?_; intro h_w_0 e_w_0 d_w_0 _ _)); (try (refine bcB (n := w1.heap.size) hb ?_; intro h_w1_0 e_w1_0 d_w1_0 _ _))))
  go_ret
  refine ⟨rfl, ?_⟩
  exact belz
/-- What the reference's Star answers at any instant. -/
theorem c_rStarAll (s : ByteArray) (t : Int) (t1 : -9223372036854775808 ≤ t) (t2 : t ≤ 9223372036854775807) : ∃ (x y z : Int) (b : Bool), ∀ w, Calls Tryd.prog 20 #[.string s, .int .i64 t] w fun e w' => e = .returned (.tuple #[.agg #[.int .i64 x, .int .i64 y, .int .i64 z], .bool b]) ∧ Below w.heap.size w w' := by
  obtain ⟨K, hK8, hK⟩ := isSt_ex s
  obtain ⟨v, v0, v1, hA⟩ := c_ArgX 97300000 t (by omega) (by omega) t1 t2
  rcases (show K < 8 ∨ K = 8 by omega) with h8 | rfl
  · exact ⟨_, _, _, _, fun w => c_rStar s t v K w hK h8 v0 v1 (Lib.hid hA)⟩
  · exact ⟨_, _, _, _, fun w => c_rStarN s t w hK⟩
theorem walk_SmU_site (lon lat t : Int) (s : ByteArray) (w : World) (hT : Tab w) (hP : STab w) (h : plB lon lat = false) (t1 : -9223372036854775808 ≤ t) (t2 : t ≤ 9223372036854775807) :
    Calls Tryd.prog 6 #[.agg #[.int .i64 lon, .int .i64 lat], .string s, .int .i64 t] w fun e w' => e = .returned (.bool true) ∧ Below w.heap.size w w' := by
  have HU := Lib.hid (fun w1 => c_Up_site lon lat t s w1 h)
  obtain ⟨x, y, z, b, hS⟩ := c_rStarAll s t t1 t2
  have HS := Lib.hid hS
  have hE := fun w1 => c_rPlaceErr lon lat w1
  rw [plE_f h] at hE
  have HE := Lib.hid hE
  have HT := Lib.hid hT
  have HP := Lib.hid hP
  clear hT hP h hE hS
  have hgen := sgen; have hgen2 := sgen2; have hgen3 := sgen3; go_enter Tryd.func6, Tryd.ntmps6
  go_wp2_with (first | (go_at_call 15; (with_reducible refine (c_starmapWorks _ (HT.out.below (by exact belz)) (HP.out.below (by exact belz))).mono ?_); rintro e w1 ⟨rfl, hb⟩; have hz := hb.size; (try simp only [szA, szS, szD, szN] at hz); (try (refine bcB (n := w.heap.size) hb ?_; intro h_w_0 e_w_0 d_w_0 _ _)); (try (refine bcB (n := w.heap.size + 1) hb ?_; intro h_w_1 e_w_1 d_w_1 _ _))) | (go_at_call 24; (with_reducible refine (HU.out _).mono ?_); rintro e w2 ⟨rfl, hb⟩; have hz := hb.size; (try simp only [szA, szS, szD, szN] at hz); (try (refine bcB (n := w.heap.size) hb ?_; intro h_w_0 e_w_0 d_w_0 _ _)); (try (refine bcB (n := w1.heap.size) hb ?_; intro h_w1_0 e_w1_0 d_w1_0 _ _))) | (go_at_call 20; (with_reducible refine (HS.out _).mono ?_); rintro e w3 ⟨rfl, hb⟩; have hz := hb.size; (try simp only [szA, szS, szD, szN] at hz); (try (refine bcB (n := w.heap.size) hb ?_; intro h_w_0 e_w_0 d_w_0 _ _)); (try (refine bcB (n := w1.heap.size) hb ?_; intro h_w1_0 e_w1_0 d_w1_0 _ _)); (try (refine bcB (n := w2.heap.size) hb ?_; intro h_w2_0 e_w2_0 d_w2_0 _ _))) | (go_at_call 17; (with_reducible refine (HE.out _).mono ?_); rintro e w4 ⟨rfl, hb⟩; have hz := hb.size; (try simp only [szA, szS, szD, szN] at hz); (try (refine bcB (n := w.heap.size) hb ?_; intro h_w_0 e_w_0 d_w_0 _ _)); (try (refine bcB (n := w1.heap.size) hb ?_; intro h_w1_0 e_w1_0 d_w1_0 _ _)); (try (refine bcB (n := w2.heap.size) hb ?_; intro h_w2_0 e_w2_0 d_w2_0 _ _)); (try (refine bcB (n := w3.heap.size) hb ?_; intro h_w3_0 e_w3_0 d_w3_0 _ _))))
  go_ret
  refine ⟨rfl, ?_⟩
  exact belz
theorem walk_SmU_none (lon lat t : Int) (s : ByteArray) (w : World) (hT : Tab w) (hP : STab w) (h : plB lon lat = true) (hK : IsSt 8 s) :
    Calls Tryd.prog 6 #[.agg #[.int .i64 lon, .int .i64 lat], .string s, .int .i64 t] w fun e w' => e = .returned (.bool true) ∧ Below w.heap.size w w' := by
  have HU := Lib.hid (fun w1 h1 => c_Up_err lon lat t s w1 5 (by omega) h h1 (Lib.hid (fun w2 h2 => c_starAtN s t 8 w2 h2 hK rfl)))
  have HS := Lib.hid (fun w1 => c_rStarN s t w1 hK)
  have hE := fun w1 => c_rPlaceErr lon lat w1
  rw [plE_t h] at hE
  have HE := Lib.hid hE
  have HT := Lib.hid hT
  have HP := Lib.hid hP
  clear hT hP h hE
  have hgen := sgen; have hgen2 := sgen2; have hgen3 := sgen3; go_enter Tryd.func6, Tryd.ntmps6
  go_wp2_with (first | (go_at_call 15; (with_reducible refine (c_starmapWorks _ (HT.out.below (by exact belz)) (HP.out.below (by exact belz))).mono ?_); rintro e w1 ⟨rfl, hb⟩; have hz := hb.size; (try simp only [szA, szS, szD, szN] at hz); (try (refine bcB (n := w.heap.size) hb ?_; intro h_w_0 e_w_0 d_w_0 _ _)); (try (refine bcB (n := w.heap.size + 1) hb ?_; intro h_w_1 e_w_1 d_w_1 _ _))) | (go_at_call 24; (with_reducible refine (HU.out _ (HP.out.below (by exact belz))).mono ?_); rintro e w2 ⟨rfl, hb⟩; have hz := hb.size; (try simp only [szA, szS, szD, szN] at hz); (try (refine bcB (n := w.heap.size) hb ?_; intro h_w_0 e_w_0 d_w_0 _ _)); (try (refine bcB (n := w1.heap.size) hb ?_; intro h_w1_0 e_w1_0 d_w1_0 _ _))) | (go_at_call 20; (with_reducible refine (HS.out _).mono ?_); rintro e w3 ⟨rfl, hb⟩; have hz := hb.size; (try simp only [szA, szS, szD, szN] at hz); (try (refine bcB (n := w.heap.size) hb ?_; intro h_w_0 e_w_0 d_w_0 _ _)); (try (refine bcB (n := w1.heap.size) hb ?_; intro h_w1_0 e_w1_0 d_w1_0 _ _)); (try (refine bcB (n := w2.heap.size) hb ?_; intro h_w2_0 e_w2_0 d_w2_0 _ _))) | (go_at_call 17; (with_reducible refine (HE.out _).mono ?_); rintro e w4 ⟨rfl, hb⟩; have hz := hb.size; (try simp only [szA, szS, szD, szN] at hz); (try (refine bcB (n := w.heap.size) hb ?_; intro h_w_0 e_w_0 d_w_0 _ _)); (try (refine bcB (n := w1.heap.size) hb ?_; intro h_w1_0 e_w1_0 d_w1_0 _ _)); (try (refine bcB (n := w2.heap.size) hb ?_; intro h_w2_0 e_w2_0 d_w2_0 _ _)); (try (refine bcB (n := w3.heap.size) hb ?_; intro h_w3_0 e_w3_0 d_w3_0 _ _))))
  go_ret
  refine ⟨rfl, ?_⟩
  exact belz
theorem walk_SmU_time (lon lat t : Int) (s : ByteArray) (K : Nat) (w : World) (hT : Tab w) (hP : STab w) (h : plB lon lat = true) (hK8 : K < 8) (hK : IsSt K s) (ht : instB t = false) (t1 : -9223372036854775808 ≤ t) (t2 : t ≤ 9223372036854775807) :
    Calls Tryd.prog 6 #[.agg #[.int .i64 lon, .int .i64 lat], .string s, .int .i64 t] w fun e w' => e = .returned (.bool true) ∧ Below w.heap.size w w' := by
  have HU := Lib.hid (fun w1 h1 => c_Up_err lon lat t s w1 3 (by omega) h h1 (Lib.hid (fun w2 h2 => c_starAtT s t K w2 h2 hK hK8 ht t1 t2)))
  obtain ⟨v, v0, v1, hA⟩ := c_ArgX 97300000 t (by omega) (by omega) t1 t2
  have HS := Lib.hid (fun w1 => c_rStar s t v K w1 hK hK8 v0 v1 (Lib.hid hA))
  have hE := fun w1 => c_rPlaceErr lon lat w1
  rw [plE_t h] at hE
  have HE := Lib.hid hE
  have HT := Lib.hid hT
  have HP := Lib.hid hP
  have hI := fun w1 => c_instErr t w1
  rw [instE_of.2 ht] at hI
  have HI := Lib.hid hI
  generalize fm (sc (stArgD K)).2 (sc (stArg v K)).2 = x at *
  generalize fm (sc (stArgD K)).2 (sc (stArg v K)).1 = y at *
  generalize (sc (stArgD K)).1 = z at *
  clear hT hP h hE hI hA ht
  have hgen := sgen; have hgen2 := sgen2; have hgen3 := sgen3; go_enter Tryd.func6, Tryd.ntmps6
  go_wp2_with (first | (go_at_call 15; (with_reducible refine (c_starmapWorks _ (HT.out.below (by exact belz)) (HP.out.below (by exact belz))).mono ?_); rintro e w1 ⟨rfl, hb⟩; have hz := hb.size; (try simp only [szA, szS, szD, szN] at hz); (try (refine bcB (n := w.heap.size) hb ?_; intro h_w_0 e_w_0 d_w_0 _ _)); (try (refine bcB (n := w.heap.size + 1) hb ?_; intro h_w_1 e_w_1 d_w_1 _ _))) | (go_at_call 24; (with_reducible refine (HU.out _ (HP.out.below (by exact belz))).mono ?_); rintro e w2 ⟨rfl, hb⟩; have hz := hb.size; (try simp only [szA, szS, szD, szN] at hz); (try (refine bcB (n := w.heap.size) hb ?_; intro h_w_0 e_w_0 d_w_0 _ _)); (try (refine bcB (n := w1.heap.size) hb ?_; intro h_w1_0 e_w1_0 d_w1_0 _ _))) | (go_at_call 20; (with_reducible refine (HS.out _).mono ?_); rintro e w3 ⟨rfl, hb⟩; have hz := hb.size; (try simp only [szA, szS, szD, szN] at hz); (try (refine bcB (n := w.heap.size) hb ?_; intro h_w_0 e_w_0 d_w_0 _ _)); (try (refine bcB (n := w1.heap.size) hb ?_; intro h_w1_0 e_w1_0 d_w1_0 _ _)); (try (refine bcB (n := w2.heap.size) hb ?_; intro h_w2_0 e_w2_0 d_w2_0 _ _))) | (go_at_call 17; (with_reducible refine (HE.out _).mono ?_); rintro e w4 ⟨rfl, hb⟩; have hz := hb.size; (try simp only [szA, szS, szD, szN] at hz); (try (refine bcB (n := w.heap.size) hb ?_; intro h_w_0 e_w_0 d_w_0 _ _)); (try (refine bcB (n := w1.heap.size) hb ?_; intro h_w1_0 e_w1_0 d_w1_0 _ _)); (try (refine bcB (n := w2.heap.size) hb ?_; intro h_w2_0 e_w2_0 d_w2_0 _ _)); (try (refine bcB (n := w3.heap.size) hb ?_; intro h_w3_0 e_w3_0 d_w3_0 _ _))) | (go_at_call 18; refine (HI.out _).mono ?_; rintro e w' ⟨rfl, rfl⟩))
  go_ret
  refine ⟨rfl, ?_⟩
  exact belz
set_option maxHeartbeats 1000000 in
theorem walk_SmU_ok (lon lat t : Int) (s : ByteArray) (K : Nat) (w : World) (hT : Tab w) (hP : STab w) (h : plB lon lat = true) (hK8 : K < 8) (hK : IsSt K s) (ht : instB t = true) :
    Calls Tryd.prog 6 #[.agg #[.int .i64 lon, .int .i64 lat], .string s, .int .i64 t] w fun e w' => e = .returned (.bool true) ∧ Below w.heap.size w w' := by
  obtain ⟨t1, t2⟩ := inst_bd ht
  obtain ⟨p1, p2, p3, p4⟩ := plB_t h
  have HU := Lib.hid (fun w1 h1 h2 => c_Up_ok lon lat t s K hK8 hK w1 h ht h1 h2)
  obtain ⟨v0, v1⟩ := argV_bd 97300000 t
  have HS : Hid (∀ w1, Calls Tryd.prog 20 #[.string s, .int .i64 t] w1 fun e w' => e = .returned (.tuple #[.agg #[.int .i64 (stX K t), .int .i64 (stY K t), .int .i64 (stZ K)], .bool true]) ∧ Below w1.heap.size w1 w') := Lib.hid (fun w1 => c_rStar s t (argV 97300000 t) K w1 hK hK8 v0 v1 (Lib.hid (fun w2 => c_Arg 97300000 t w2 (by omega) (by omega) (by omega) (by omega))))
  have hE := fun w1 => c_rPlaceErr lon lat w1
  rw [plE_t h] at hE
  have HE := Lib.hid hE
  have HT := Lib.hid hT
  have HP := Lib.hid hP
  have hI := fun w1 => c_instErr t w1
  rw [instE_of.1 ht] at hI
  have HI := Lib.hid hI
  have lo := star_look hK8 lon lat t
  have HAB := Lib.hid (fun w1 => c_rAbove lon lat t (stX K t) (stY K t) (stZ K) w1 p1 p2 p3 p4 (by omega) (by omega) lo.x1.1 lo.x1.2 lo.y1.1 lo.y1.2 lo.z1.1 lo.z1.2 lo.o.1 lo.o.2)
  have hso := star_open hK8 lon lat t
  obtain ⟨hs1, hs2⟩ := star_sure hK8 lon lat t
  have HF := Lib.hid (fun w1 => c_FromUnit 5000 w1 (by omega) (by omega))
  have hf : fu 5000 = 5764607523034 := by decide +kernel
  rw [hf] at HF hso
  unfold upN upE at HU
  generalize sU0 lon lat t K = u0 at *
  generalize sU1 lon lat t K = u1 at *
  generalize abUp (refSid lon t) lat (stX K t) (stY K t) (stZ K) = au at *
  generalize abSide (refSid lon t) (stX K t) (stY K t) = asd at *
  generalize abNo (refSid lon t) lat (stX K t) (stY K t) (stZ K) = an at *
  generalize stX K t = x at *
  generalize stY K t = y at *
  generalize stZ K = z at *
  clear hT hP h hE hI ht lo v0 v1 hf
  by_cases c1 : 0 < u0
  · simp only [if_pos c1] at HU
    have f1 : decide (0 < au) = true := decide_eq_true (hs1 c1)
    clear hs1 hs2 hso
    have hgen := sgen; have hgen2 := sgen2; have hgen3 := sgen3; go_enter Tryd.func6, Tryd.ntmps6
    go_wp2_with (first | (go_at_call 15; (with_reducible refine (c_starmapWorks _ (HT.out.below (by exact belz)) (HP.out.below (by exact belz))).mono ?_); rintro e w1 ⟨rfl, hb⟩; have hz := hb.size; (try simp only [szA, szS, szD, szN] at hz); (try (refine bcB (n := w.heap.size) hb ?_; intro h_w_0 e_w_0 d_w_0 _ _)); (try (refine bcB (n := w.heap.size + 1) hb ?_; intro h_w_1 e_w_1 d_w_1 _ _))) | (go_at_call 24; (with_reducible refine (HU.out _ (HT.out.below (by exact belz)) (HP.out.below (by exact belz))).mono ?_); rintro e w2 ⟨rfl, hb⟩; have hz := hb.size; (try simp only [szA, szS, szD, szN] at hz); (try (refine bcB (n := w.heap.size) hb ?_; intro h_w_0 e_w_0 d_w_0 _ _)); (try (refine bcB (n := w1.heap.size) hb ?_; intro h_w1_0 e_w1_0 d_w1_0 _ _))) | (go_at_call 20; (with_reducible refine (HS.out _).mono ?_); rintro e w3 ⟨rfl, hb⟩; have hz := hb.size; (try simp only [szA, szS, szD, szN] at hz); (try (refine bcB (n := w.heap.size) hb ?_; intro h_w_0 e_w_0 d_w_0 _ _)); (try (refine bcB (n := w1.heap.size) hb ?_; intro h_w1_0 e_w1_0 d_w1_0 _ _)); (try (refine bcB (n := w2.heap.size) hb ?_; intro h_w2_0 e_w2_0 d_w2_0 _ _))) | (go_at_call 17; (with_reducible refine (HE.out _).mono ?_); rintro e w4 ⟨rfl, hb⟩; have hz := hb.size; (try simp only [szA, szS, szD, szN] at hz); (try (refine bcB (n := w.heap.size) hb ?_; intro h_w_0 e_w_0 d_w_0 _ _)); (try (refine bcB (n := w1.heap.size) hb ?_; intro h_w1_0 e_w1_0 d_w1_0 _ _)); (try (refine bcB (n := w2.heap.size) hb ?_; intro h_w2_0 e_w2_0 d_w2_0 _ _)); (try (refine bcB (n := w3.heap.size) hb ?_; intro h_w3_0 e_w3_0 d_w3_0 _ _))) | (go_at_call 18; refine (HI.out _).mono ?_; rintro e w' ⟨rfl, rfl⟩) | (go_at_call 21; (with_reducible refine (HAB.out _).mono ?_); rintro e w5 ⟨rfl, hb⟩; have hz := hb.size; (try simp only [szA, szS, szD, szN] at hz); (try (refine bcB (n := w.heap.size) hb ?_; intro h_w_0 e_w_0 d_w_0 _ _)); (try (refine bcB (n := w1.heap.size) hb ?_; intro h_w1_0 e_w1_0 d_w1_0 _ _)); (try (refine bcB (n := w2.heap.size) hb ?_; intro h_w2_0 e_w2_0 d_w2_0 _ _)); (try (refine bcB (n := w3.heap.size) hb ?_; intro h_w3_0 e_w3_0 d_w3_0 _ _)); (try (refine bcB (n := w4.heap.size) hb ?_; intro h_w4_0 e_w4_0 d_w4_0 _ _))))
    go_ret
    refine ⟨rfl, ?_⟩
    exact belz
  · by_cases c2 : u1 < 0
    · simp only [if_neg c1, if_pos c2] at HU
      have f1 : decide (au < 0) = true := decide_eq_true (hs2 c2)
      clear hs1 hs2 hso
      have hgen := sgen; have hgen2 := sgen2; have hgen3 := sgen3; go_enter Tryd.func6, Tryd.ntmps6
      go_wp2_with (first | (go_at_call 15; (with_reducible refine (c_starmapWorks _ (HT.out.below (by exact belz)) (HP.out.below (by exact belz))).mono ?_); rintro e w1 ⟨rfl, hb⟩; have hz := hb.size; (try simp only [szA, szS, szD, szN] at hz); (try (refine bcB (n := w.heap.size) hb ?_; intro h_w_0 e_w_0 d_w_0 _ _)); (try (refine bcB (n := w.heap.size + 1) hb ?_; intro h_w_1 e_w_1 d_w_1 _ _))) | (go_at_call 24; (with_reducible refine (HU.out _ (HT.out.below (by exact belz)) (HP.out.below (by exact belz))).mono ?_); rintro e w2 ⟨rfl, hb⟩; have hz := hb.size; (try simp only [szA, szS, szD, szN] at hz); (try (refine bcB (n := w.heap.size) hb ?_; intro h_w_0 e_w_0 d_w_0 _ _)); (try (refine bcB (n := w1.heap.size) hb ?_; intro h_w1_0 e_w1_0 d_w1_0 _ _))) | (go_at_call 20; (with_reducible refine (HS.out _).mono ?_); rintro e w3 ⟨rfl, hb⟩; have hz := hb.size; (try simp only [szA, szS, szD, szN] at hz); (try (refine bcB (n := w.heap.size) hb ?_; intro h_w_0 e_w_0 d_w_0 _ _)); (try (refine bcB (n := w1.heap.size) hb ?_; intro h_w1_0 e_w1_0 d_w1_0 _ _)); (try (refine bcB (n := w2.heap.size) hb ?_; intro h_w2_0 e_w2_0 d_w2_0 _ _))) | (go_at_call 17; (with_reducible refine (HE.out _).mono ?_); rintro e w4 ⟨rfl, hb⟩; have hz := hb.size; (try simp only [szA, szS, szD, szN] at hz); (try (refine bcB (n := w.heap.size) hb ?_; intro h_w_0 e_w_0 d_w_0 _ _)); (try (refine bcB (n := w1.heap.size) hb ?_; intro h_w1_0 e_w1_0 d_w1_0 _ _)); (try (refine bcB (n := w2.heap.size) hb ?_; intro h_w2_0 e_w2_0 d_w2_0 _ _)); (try (refine bcB (n := w3.heap.size) hb ?_; intro h_w3_0 e_w3_0 d_w3_0 _ _))) | (go_at_call 18; refine (HI.out _).mono ?_; rintro e w' ⟨rfl, rfl⟩) | (go_at_call 21; (with_reducible refine (HAB.out _).mono ?_); rintro e w5 ⟨rfl, hb⟩; have hz := hb.size; (try simp only [szA, szS, szD, szN] at hz); (try (refine bcB (n := w.heap.size) hb ?_; intro h_w_0 e_w_0 d_w_0 _ _)); (try (refine bcB (n := w1.heap.size) hb ?_; intro h_w1_0 e_w1_0 d_w1_0 _ _)); (try (refine bcB (n := w2.heap.size) hb ?_; intro h_w2_0 e_w2_0 d_w2_0 _ _)); (try (refine bcB (n := w3.heap.size) hb ?_; intro h_w3_0 e_w3_0 d_w3_0 _ _)); (try (refine bcB (n := w4.heap.size) hb ?_; intro h_w4_0 e_w4_0 d_w4_0 _ _))))
      go_ret
      refine ⟨rfl, ?_⟩
      exact belz
    · simp only [if_neg c1, if_neg c2] at HU
      obtain ⟨s1, s2⟩ := hso (by omega) (by omega)
      have HB := Lib.hid (fun w1 => c_beyond0 au 5764607523034 w1 s1 s2 (by omega) (by omega))
      clear hs1 hs2 hso
      have hgen := sgen; have hgen2 := sgen2; have hgen3 := sgen3; go_enter Tryd.func6, Tryd.ntmps6
      go_wp2_with (first | (go_at_call 15; (with_reducible refine (c_starmapWorks _ (HT.out.below (by exact belz)) (HP.out.below (by exact belz))).mono ?_); rintro e w1 ⟨rfl, hb⟩; have hz := hb.size; (try simp only [szA, szS, szD, szN] at hz); (try (refine bcB (n := w.heap.size) hb ?_; intro h_w_0 e_w_0 d_w_0 _ _)); (try (refine bcB (n := w.heap.size + 1) hb ?_; intro h_w_1 e_w_1 d_w_1 _ _))) | (go_at_call 24; (with_reducible refine (HU.out _ (HT.out.below (by exact belz)) (HP.out.below (by exact belz))).mono ?_); rintro e w2 ⟨rfl, hb⟩; have hz := hb.size; (try simp only [szA, szS, szD, szN] at hz); (try (refine bcB (n := w.heap.size) hb ?_; intro h_w_0 e_w_0 d_w_0 _ _)); (try (refine bcB (n := w1.heap.size) hb ?_; intro h_w1_0 e_w1_0 d_w1_0 _ _))) | (go_at_call 20; (with_reducible refine (HS.out _).mono ?_); rintro e w3 ⟨rfl, hb⟩; have hz := hb.size; (try simp only [szA, szS, szD, szN] at hz); (try (refine bcB (n := w.heap.size) hb ?_; intro h_w_0 e_w_0 d_w_0 _ _)); (try (refine bcB (n := w1.heap.size) hb ?_; intro h_w1_0 e_w1_0 d_w1_0 _ _)); (try (refine bcB (n := w2.heap.size) hb ?_; intro h_w2_0 e_w2_0 d_w2_0 _ _))) | (go_at_call 17; (with_reducible refine (HE.out _).mono ?_); rintro e w4 ⟨rfl, hb⟩; have hz := hb.size; (try simp only [szA, szS, szD, szN] at hz); (try (refine bcB (n := w.heap.size) hb ?_; intro h_w_0 e_w_0 d_w_0 _ _)); (try (refine bcB (n := w1.heap.size) hb ?_; intro h_w1_0 e_w1_0 d_w1_0 _ _)); (try (refine bcB (n := w2.heap.size) hb ?_; intro h_w2_0 e_w2_0 d_w2_0 _ _)); (try (refine bcB (n := w3.heap.size) hb ?_; intro h_w3_0 e_w3_0 d_w3_0 _ _))) | (go_at_call 18; refine (HI.out _).mono ?_; rintro e w' ⟨rfl, rfl⟩) | (go_at_call 21; (with_reducible refine (HAB.out _).mono ?_); rintro e w5 ⟨rfl, hb⟩; have hz := hb.size; (try simp only [szA, szS, szD, szN] at hz); (try (refine bcB (n := w.heap.size) hb ?_; intro h_w_0 e_w_0 d_w_0 _ _)); (try (refine bcB (n := w1.heap.size) hb ?_; intro h_w1_0 e_w1_0 d_w1_0 _ _)); (try (refine bcB (n := w2.heap.size) hb ?_; intro h_w2_0 e_w2_0 d_w2_0 _ _)); (try (refine bcB (n := w3.heap.size) hb ?_; intro h_w3_0 e_w3_0 d_w3_0 _ _)); (try (refine bcB (n := w4.heap.size) hb ?_; intro h_w4_0 e_w4_0 d_w4_0 _ _))) | (go_at_call 23; refine (HF.out _).mono ?_; rintro e w' ⟨rfl, rfl⟩) | (go_at_call 25; refine (HB.out _).mono ?_; rintro e w' ⟨rfl, rfl⟩))
      go_ret
      refine ⟨rfl, ?_⟩
      exact belz
theorem walk_StarmapUps (lon lat t : Int) (s : ByteArray) (w : World) (hT : Tab w) (hP : STab w) (ht : -9223372036854775808 ≤ t ∧ t ≤ 9223372036854775807) :
    Calls Tryd.prog 6 #[.agg #[.int .i64 lon, .int .i64 lat], .string s, .int .i64 t] w fun e w' => e = .returned (.bool true) ∧ Below w.heap.size w w' := by
  cases h : plB lon lat with
  | false => exact walk_SmU_site lon lat t s w hT hP h ht.1 ht.2
  | true =>
    obtain ⟨K, hK8, hK⟩ := isSt_ex s
    rcases (show K < 8 ∨ K = 8 by omega) with h8 | rfl
    · cases h2 : instB t with
      | true => exact walk_SmU_ok lon lat t s K w hT hP h h8 hK h2
      | false => exact walk_SmU_time lon lat t s K w hT hP h h8 hK h2 ht.1 ht.2
    · exact walk_SmU_none lon lat t s w hT hP h hK
end
end Go.Proofs.YtcgnhnmigmdalaaDoor
