/- Contracts of limit and high; the walk through the law RisesetAboves. -/
import Derived.Test.YtmjdcabniefifaaGreatDoorRsA
import Derived.Deep.RegionHeld3
set_option linter.unusedVariables false
set_option linter.unusedSimpArgs false
namespace Go.Proofs.YtmjdcabniefifaaGreatDoor
open Go.RowKit
def limV (b : Int) : Int := if b = 0 then fu (-14543900) else fu 2182000
theorem c_limit (b : Int) (w : World) (hb : b = 0 ∨ b = 1) : Calls Tryz.prog 64 #[.int .i64 b] w fun e w' => e = .returned (.int .i64 (limV b)) ∧ w = w' := by
  rcases hb with rfl | rfl
  · have e : limV 0 = fu (-14543900) := by unfold limV; rw [if_pos rfl]
    rw [e]
    have HF := Lib.hid (fun w1 => c_FromUnit (-14543900) w1 (by decide) (by decide))
    generalize fu (-14543900) = x at *
    have hgen := sgen; have hgen2 := sgen2; have hgen3 := sgen3; go_enter Tryz.func64, Tryz.ntmps64
    go_wp2_with (go_at_call 107; refine (HF.out _).mono ?_; rintro e w' ⟨rfl, rfl⟩)
    go_ret
    exact ⟨rfl, rfl⟩
  · have e : limV 1 = fu 2182000 := by unfold limV; rw [if_neg (by decide)]
    rw [e]
    have HF := Lib.hid (fun w1 => c_FromUnit 2182000 w1 (by decide) (by decide))
    generalize fu 2182000 = x at *
    have hgen := sgen; have hgen2 := sgen2; have hgen3 := sgen3; go_enter Tryz.func64, Tryz.ntmps64
    go_wp2_with (go_at_call 107; refine (HF.out _).mono ?_; rintro e w' ⟨rfl, rfl⟩)
    go_ret
    exact ⟨rfl, rfl⟩
/-- The direction of a body, with parts of the remainders, and the reference's height of it. -/
def BodD (b t x y z : Int) : Prop := if b = 0 then SunD t x y z else MoonD t x y z
theorem c_Body (b t n f : Int) (w : World) (hb : b = 0 ∨ b = 1) (i1 : -400000000000000 ≤ t) (i2 : t ≤ 400000000000000) (n1 : -8 ≤ n) (n2 : n ≤ 8) (f1 : -8 ≤ f) (f2 : f ≤ 8) :
    Calls Tryz.prog 24 #[.int .i64 b, .int .i64 t, .int .i64 n, .int .i64 f] w fun e w' => ∃ x y z, e = .returned (.agg #[.int .i64 x, .int .i64 y, .int .i64 z]) ∧ BodD b t x y z ∧ Below w.heap.size w w' := by
  rcases hb with rfl | rfl
  · refine (c_Body0 t n f w i1 i2 n1 n2).mono ?_
    rintro e w' ⟨x, y, z, h1, h2, h3⟩
    exact ⟨x, y, z, h1, by unfold BodD; rw [if_pos rfl]; exact h2, h3⟩
  · refine (c_Body1 t n f w i1 i2 n1 n2 f1 f2).mono ?_
    rintro e w' ⟨x, y, z, h1, h2, h3⟩
    exact ⟨x, y, z, h1, by unfold BodD; rw [if_neg (by decide)]; exact h2, h3⟩
/-- A body's height decided by riseset is so for the reference. -/
theorem bod_abv {lon lat b t x y z : Int} (h : BodD b t x y z) :
    (-1160000000000000000 ≤ x ∧ x ≤ 1160000000000000000) ∧ (-1160000000000000000 ≤ y ∧ y ≤ 1160000000000000000) ∧ (-1160000000000000000 ≤ z ∧ z ≤ 1160000000000000000) ∧ (-1160000000000000000 ≤ abOut (refSid lon t) x y ∧ abOut (refSid lon t) x y ≤ 1160000000000000000) ∧
    (rsV lon lat t b = 1 → limV b < abUp (refSid lon t) lat x y z) ∧ (rsV lon lat t b = -1 → abUp (refSid lon t) lat x y z < limV b) := by
  unfold BodD at h
  by_cases hb : b = 0
  · rw [if_pos hb] at h
    obtain ⟨m, hm, rfl, rfl, rfl⟩ := h
    have l := sun_look lon lat hm
    have k := look_above l (-14543900)
    refine ⟨l.x1, l.y1, l.z1, l.o, ?_, ?_⟩
    · intro h1
      unfold rsV abvN at h1
      rw [if_pos hb] at h1
      unfold limV
      rw [if_pos hb]
      split at h1
      · exact k.1 (by unfold suU0 at *; assumption)
      · split at h1 <;> cases h1
    · intro h1
      unfold rsV abvN at h1
      rw [if_pos hb] at h1
      unfold limV
      rw [if_pos hb]
      split at h1
      · cases h1
      · split at h1
        · exact k.2 (by unfold suU1 at *; assumption)
        · cases h1
  · rw [if_neg hb] at h
    obtain ⟨m, v, hm, hv, rfl, rfl, rfl⟩ := h
    have l := moon_look lon lat hm hv
    have k := look_above l 2182000
    refine ⟨l.x1, l.y1, l.z1, l.o, ?_, ?_⟩
    · intro h1
      unfold rsV abvN at h1
      rw [if_neg hb] at h1
      unfold limV
      rw [if_neg hb]
      split at h1
      · exact k.1 (by unfold moU0 at *; assumption)
      · split at h1 <;> cases h1
    · intro h1
      unfold rsV abvN at h1
      rw [if_neg hb] at h1
      unfold limV
      rw [if_neg hb]
      split at h1
      · cases h1
      · split at h1
        · exact k.2 (by unfold moU1 at *; assumption)
        · cases h1
/-- high answers the side that riseset decided. -/
theorem c_high (lon lat t b n f v : Int) (w : World) (hp : plB lon lat = true) (hb : b = 0 ∨ b = 1) (ht : instB t = true) (n1 : -8 ≤ n) (n2 : n ≤ 8) (f1 : -8 ≤ f) (f2 : f ≤ 8) (hv : rsV lon lat t b = v) (hv2 : v = 1 ∨ v = -1) :
    Calls Tryz.prog 30 #[.agg #[.int .i64 lon, .int .i64 lat], .int .i64 t, .int .i64 b, .int .i64 n, .int .i64 f] w fun e w' => e = .returned (.int .i64 v) ∧ Below w.heap.size w w' := by
  obtain ⟨i1, i2⟩ := inst_bd ht
  obtain ⟨p1, p2, p3, p4⟩ := plB_t hp
  have HB := Lib.hid (fun w1 => c_Body b t n f w1 hb (by omega) (by omega) n1 n2 f1 f2)
  have HL := Lib.hid (fun w1 => c_limit b w1 hb)
  have HE : Hid (∀ x y z, BodD b t x y z → ∃ u q1 q2, (∀ w1, Calls Tryz.prog 23 #[.agg #[.int .i64 lon, .int .i64 lat], .agg #[.int .i64 x, .int .i64 y, .int .i64 z], .int .i64 t] w1 fun e w' => e = .returned (.tuple #[.int .i64 u, .int .i64 q1, .int .i64 q2]) ∧ Below w1.heap.size w1 w') ∧ ((v = 1 ∧ decide (limV b < u) = true) ∨ (v = -1 ∧ decide (limV b < u) = false))) := Lib.hid (by
    intro x y z h
    obtain ⟨hx, hy, hz, ho, k1, k2⟩ := bod_abv (lon := lon) (lat := lat) h
    refine ⟨_, _, _, fun w1 => c_rAbove lon lat t x y z w1 p1 p2 p3 p4 (by omega) (by omega) hx.1 hx.2 hy.1 hy.2 hz.1 hz.2 ho.1 ho.2, ?_⟩
    rcases hv2 with rfl | rfl
    · exact .inl ⟨rfl, decide_eq_true (k1 hv)⟩
    · exact .inr ⟨rfl, decide_eq_false (by have := k2 hv; omega)⟩)
  clear hp hb ht hv hv2
  generalize limV b = lm at *
  have hgen := sgen; have hgen2 := sgen2; have hgen3 := sgen3; go_enter Tryz.func30, Tryz.ntmps30
  go_wp2_with fail
  go_region_held3 (fun w' => w'.cell? ⟨w.heap.size, 0, none⟩ = some (.int .i64 lon) ∧ w'.cell? ⟨w.heap.size, 1, none⟩ = some (.int .i64 lat)) (refine ⟨?_, ?_⟩ <;> (first | (go_simp; done) | go_keep)) (first | ((go_at_call 24; (refine (HB.out _).mono ?_); rintro e w1 ⟨x, y, z, rfl, hd, hb⟩; have hz := hb.size; (try simp only [szA, szS, szD, szN] at hz); (try (refine bcB (n := w.heap.size) hb ?_; intro h_w_0 e_w_0 d_w_0 _ _))); obtain ⟨u, q1, q2, hu, hcs⟩ := HE.out _ _ _ hd) | (go_at_call 23; (with_reducible refine (hu _).mono ?_); rintro e w2 ⟨rfl, hb⟩; have hz := hb.size; (try simp only [szA, szS, szD, szN] at hz); (try (refine bcB (n := w.heap.size) hb ?_; intro h_w_0 e_w_0 d_w_0 _ _)); (try (refine bcB (n := w1.heap.size) hb ?_; intro h_w1_0 e_w1_0 d_w1_0 _ _))))
  all_goals rcases hcs with ⟨rfl, hcd⟩ | ⟨rfl, hcd⟩
  all_goals go_wp2_with (go_at_call 64; refine (HL.out _).mono ?_; rintro e w' ⟨rfl, rfl⟩)
  all_goals go_ret
  all_goals refine ⟨rfl, ?_⟩
  all_goals exact belz
theorem walk_Ra_site (lon lat t b k l : Int) (w : World) (hT : Tab w) (hL : LTab w) (hp : plB lon lat = false) :
    Calls Tryz.prog 4 #[.agg #[.int .i64 lon, .int .i64 lat], .int .i64 t, .int .i64 b, .int .i64 k, .int .i64 l] w fun e w' => e = .returned (.bool true) ∧ Below w.heap.size w w' := by
  have er : rsE lon lat b = 3 := by unfold rsE; rw [if_pos hp]
  have ha := fun w1 => c_Above_bad lon lat t b w1 (by rw [er]; decide)
  rw [er] at ha
  have HA := Lib.hid ha
  have hr := fun w1 => c_rPlaceErr lon lat w1
  rw [plE_f hp] at hr
  have HR := Lib.hid hr
  have HT := Lib.hid hT
  have HLT := Lib.hid hL
  clear hT hL ha hr hp er
  have hgen := sgen; have hgen2 := sgen2; have hgen3 := sgen3; go_enter Tryz.func4, Tryz.ntmps4
  go_wp2_with (first | (go_at_call 28; (with_reducible refine (c_risesetWorks _ (HT.out.below (by exact belz)) (HLT.out.below (by exact belz))).mono ?_); rintro e w1 ⟨rfl, hb⟩; have hz := hb.size; (try simp only [szA, szS, szD, szN] at hz); (try (refine bcB (n := w.heap.size) hb ?_; intro h_w_0 e_w_0 d_w_0 _ _))) | (go_at_call 29; (refine (HA.out _).mono ?_); rintro e w2 ⟨rfl, hb⟩; have hz := hb.size; (try simp only [szA, szS, szD, szN] at hz); (try (refine bcB (n := w.heap.size) hb ?_; intro h_w_0 e_w_0 d_w_0 _ _)); (try (refine bcB (n := w1.heap.size) hb ?_; intro h_w1_0 e_w1_0 d_w1_0 _ _))) | (go_at_call 17; (refine (HR.out _).mono ?_); rintro e w3 ⟨rfl, hb⟩; have hz := hb.size; (try simp only [szA, szS, szD, szN] at hz); (try (refine bcB (n := w.heap.size) hb ?_; intro h_w_0 e_w_0 d_w_0 _ _)); (try (refine bcB (n := w1.heap.size) hb ?_; intro h_w1_0 e_w1_0 d_w1_0 _ _)); (try (refine bcB (n := w2.heap.size) hb ?_; intro h_w2_0 e_w2_0 d_w2_0 _ _))))
  go_ret
  refine ⟨rfl, ?_⟩
  exact belz
theorem walk_Ra_body (lon lat t b k l : Int) (w : World) (hT : Tab w) (hL : LTab w) (hp : plB lon lat = true) (b0 : ¬ b = 0) (b1 : ¬ b = 1) :
    Calls Tryz.prog 4 #[.agg #[.int .i64 lon, .int .i64 lat], .int .i64 t, .int .i64 b, .int .i64 k, .int .i64 l] w fun e w' => e = .returned (.bool true) ∧ Below w.heap.size w w' := by
  have er : rsE lon lat b = 1 := by unfold rsE; rw [hp, if_neg (by decide), if_neg (by omega)]
  have ha := fun w1 => c_Above_bad lon lat t b w1 (by rw [er]; decide)
  rw [er] at ha
  have HA := Lib.hid ha
  have hr := fun w1 => c_rPlaceErr lon lat w1
  rw [plE_t hp] at hr
  have HR := Lib.hid hr
  have HT := Lib.hid hT
  have HLT := Lib.hid hL
  have g0 : (b != 0) = true := by simpa using b0
  have g1 : (b != 1) = true := by simpa using b1
  have g2 : (b == 0) = false := by simpa using b0
  have g3 : (b == 1) = false := by simpa using b1
  clear hT hL ha hr hp er
  have hgen := sgen; have hgen2 := sgen2; have hgen3 := sgen3; go_enter Tryz.func4, Tryz.ntmps4
  go_wp2_with (first | (go_at_call 28; (with_reducible refine (c_risesetWorks _ (HT.out.below (by exact belz)) (HLT.out.below (by exact belz))).mono ?_); rintro e w1 ⟨rfl, hb⟩; have hz := hb.size; (try simp only [szA, szS, szD, szN] at hz); (try (refine bcB (n := w.heap.size) hb ?_; intro h_w_0 e_w_0 d_w_0 _ _))) | (go_at_call 29; (refine (HA.out _).mono ?_); rintro e w2 ⟨rfl, hb⟩; have hz := hb.size; (try simp only [szA, szS, szD, szN] at hz); (try (refine bcB (n := w.heap.size) hb ?_; intro h_w_0 e_w_0 d_w_0 _ _)); (try (refine bcB (n := w1.heap.size) hb ?_; intro h_w1_0 e_w1_0 d_w1_0 _ _))) | (go_at_call 17; (refine (HR.out _).mono ?_); rintro e w3 ⟨rfl, hb⟩; have hz := hb.size; (try simp only [szA, szS, szD, szN] at hz); (try (refine bcB (n := w.heap.size) hb ?_; intro h_w_0 e_w_0 d_w_0 _ _)); (try (refine bcB (n := w1.heap.size) hb ?_; intro h_w1_0 e_w1_0 d_w1_0 _ _)); (try (refine bcB (n := w2.heap.size) hb ?_; intro h_w2_0 e_w2_0 d_w2_0 _ _))))
  go_ret
  refine ⟨rfl, ?_⟩
  exact belz
theorem walk_Ra_time (lon lat t b k l : Int) (w : World) (hT : Tab w) (hL : LTab w) (hp : plB lon lat = true) (hb : b = 0 ∨ b = 1) (ht : instB t = false) (t1 : -9223372036854775808 ≤ t) (t2 : t ≤ 9223372036854775807) :
    Calls Tryz.prog 4 #[.agg #[.int .i64 lon, .int .i64 lat], .int .i64 t, .int .i64 b, .int .i64 k, .int .i64 l] w fun e w' => e = .returned (.bool true) ∧ Below w.heap.size w w' := by
  have er : rsE lon lat b = 0 := by unfold rsE; rw [hp, if_neg (by decide), if_pos hb]
  have HA := Lib.hid (fun w1 => c_AboveT lon lat t b w1 er ht t1 t2)
  have hr := fun w1 => c_rPlaceErr lon lat w1
  rw [plE_t hp] at hr
  have HR := Lib.hid hr
  have hI := fun w1 => c_instErr t w1
  rw [instE_of.2 ht] at hI
  have HI := Lib.hid hI
  have HT := Lib.hid hT
  have HLT := Lib.hid hL
  clear hT hL hr hp er hI ht
  rcases hb with rfl | rfl
  all_goals
    have hgen := sgen; have hgen2 := sgen2; have hgen3 := sgen3; go_enter Tryz.func4, Tryz.ntmps4
    go_wp2_with (first | (go_at_call 28; (with_reducible refine (c_risesetWorks _ (HT.out.below (by exact belz)) (HLT.out.below (by exact belz))).mono ?_); rintro e w1 ⟨rfl, hb⟩; have hz := hb.size; (try simp only [szA, szS, szD, szN] at hz); (try (refine bcB (n := w.heap.size) hb ?_; intro h_w_0 e_w_0 d_w_0 _ _))) | (go_at_call 29; (refine (HA.out _).mono ?_); rintro e w2 ⟨rfl, hb⟩; have hz := hb.size; (try simp only [szA, szS, szD, szN] at hz); (try (refine bcB (n := w.heap.size) hb ?_; intro h_w_0 e_w_0 d_w_0 _ _)); (try (refine bcB (n := w1.heap.size) hb ?_; intro h_w1_0 e_w1_0 d_w1_0 _ _))) | (go_at_call 17; (refine (HR.out _).mono ?_); rintro e w3 ⟨rfl, hb⟩; have hz := hb.size; (try simp only [szA, szS, szD, szN] at hz); (try (refine bcB (n := w.heap.size) hb ?_; intro h_w_0 e_w_0 d_w_0 _ _)); (try (refine bcB (n := w1.heap.size) hb ?_; intro h_w1_0 e_w1_0 d_w1_0 _ _)); (try (refine bcB (n := w2.heap.size) hb ?_; intro h_w2_0 e_w2_0 d_w2_0 _ _))) | (go_at_call 19; refine (HI.out _).mono ?_; rintro e w' ⟨rfl, rfl⟩))
    go_ret
    refine ⟨rfl, ?_⟩
    exact belz
set_option maxHeartbeats 2000000 in
theorem walk_Ra_ok (lon lat t b k l : Int) (w : World) (hT : Tab w) (hL : LTab w) (hp : plB lon lat = true) (hb : b = 0 ∨ b = 1) (ht : instB t = true) (k1 : -9223372036854775808 ≤ k) (k2 : k ≤ 9223372036854775807) (l1 : -9223372036854775808 ≤ l) (l2 : l ≤ 9223372036854775807) :
    Calls Tryz.prog 4 #[.agg #[.int .i64 lon, .int .i64 lat], .int .i64 t, .int .i64 b, .int .i64 k, .int .i64 l] w fun e w' => e = .returned (.bool true) ∧ Below w.heap.size w w' := by
  have er : rsE lon lat b = 0 := by unfold rsE; rw [hp, if_neg (by decide), if_pos hb]
  have ha := fun w1 h1 h2 => c_Above lon lat t b w1 h1 h2 er ht
  have hv := rsV_or lon lat t b
  have HH : Hid (∀ w1 n f, -8 ≤ n → n ≤ 8 → -8 ≤ f → f ≤ 8 → (rsV lon lat t b = 1 ∨ rsV lon lat t b = -1) → _) := Lib.hid (fun w1 n f n1 n2 f1 f2 h => c_high lon lat t b n f (rsV lon lat t b) w1 hp hb ht n1 n2 f1 f2 rfl h)
  have hr := fun w1 => c_rPlaceErr lon lat w1
  rw [plE_t hp] at hr
  have HR := Lib.hid hr
  have hI := fun w1 => c_instErr t w1
  rw [instE_of.1 ht] at hI
  have HI := Lib.hid hI
  have HT := Lib.hid hT
  have HLT := Lib.hid hL
  have HAK := Lib.hid (fun w1 => c_at17 k w1 k1 k2)
  have HAL := Lib.hid (fun w1 => c_at17 l w1 l1 l2)
  clear hT hL hr hp er hI ht
  generalize rsV lon lat t b = v at *
  have HA := Lib.hid ha
  clear ha
  have gb : (b == 0 || b == 1) = true := by rcases hb with rfl | rfl <;> decide
  rcases hv with rfl | rfl | rfl
  all_goals rcases hb with rfl | rfl
  all_goals
    have hgen := sgen; have hgen2 := sgen2; have hgen3 := sgen3; go_enter Tryz.func4, Tryz.ntmps4
    go_upto_region 11 with (first | (go_at_call 28; (with_reducible refine (c_risesetWorks _ (HT.out.below (by exact belz)) (HLT.out.below (by exact belz))).mono ?_); rintro e w1 ⟨rfl, hb⟩; have hz := hb.size; (try simp only [szA, szS, szD, szN] at hz); (try (refine bcB (n := w.heap.size) hb ?_; intro h_w_0 e_w_0 d_w_0 _ _))) | (go_at_call 29; (with_reducible refine (HA.out _ (HT.out.below (by exact belz)) (HLT.out.below (by exact belz))).mono ?_); rintro e w2 ⟨rfl, hb⟩; have hz := hb.size; (try simp only [szA, szS, szD, szN] at hz); (try (refine bcB (n := w.heap.size) hb ?_; intro h_w_0 e_w_0 d_w_0 _ _)); (try (refine bcB (n := w1.heap.size) hb ?_; intro h_w1_0 e_w1_0 d_w1_0 _ _))) | (go_at_call 17; (refine (HR.out _).mono ?_); rintro e w3 ⟨rfl, hb⟩; have hz := hb.size; (try simp only [szA, szS, szD, szN] at hz); (try (refine bcB (n := w.heap.size) hb ?_; intro h_w_0 e_w_0 d_w_0 _ _)); (try (refine bcB (n := w1.heap.size) hb ?_; intro h_w1_0 e_w1_0 d_w1_0 _ _)); (try (refine bcB (n := w2.heap.size) hb ?_; intro h_w2_0 e_w2_0 d_w2_0 _ _))) | (go_at_call 19; refine (HI.out _).mono ?_; rintro e w' ⟨rfl, rfl⟩))
  rotate_left 4
  · go_quiet (fail)
    go_wp2_with fail
    go_ret
    refine ⟨rfl, ?_⟩
    exact belz
  · go_quiet (fail)
    go_wp2_with fail
    go_ret
    refine ⟨rfl, ?_⟩
    exact belz
  all_goals
    go_region_held3 (fun w' => w'.cell? ⟨w.heap.size, 0, none⟩ = some (.int .i64 lon) ∧ w'.cell? ⟨w.heap.size, 1, none⟩ = some (.int .i64 lat)) (refine ⟨?_, ?_⟩ <;> (first | (go_simp; done) | go_keep)) (first | (go_at_call 13; (with_reducible refine (HAK.out _).mono ?_); rintro e w' ⟨x, rfl, x1, x2, rfl⟩; have ex : IntKind.i64.wrap (x - 8) = x - 8 := IntWalk.i64_in _ (by omega)) | (go_at_call 13; (with_reducible refine (HAL.out _).mono ?_); rintro e w' ⟨y, rfl, y1, y2, rfl⟩; have ey : IntKind.i64.wrap (y - 8) = y - 8 := IntWalk.i64_in _ (by omega)) | (go_at_call 30; (refine (HH.out _ _ _ (by omega) (by omega) (by omega) (by omega) (by decide)).mono ?_); rintro e w5 ⟨rfl, hb⟩; have hz := hb.size; (try simp only [szA, szS, szD, szN] at hz); (try (refine bcB (n := w.heap.size) hb ?_; intro h_w_0 e_w_0 d_w_0 _ _)); (try (refine bcB (n := w1.heap.size) hb ?_; intro h_w1_0 e_w1_0 d_w1_0 _ _)); (try (refine bcB (n := w2.heap.size) hb ?_; intro h_w2_0 e_w2_0 d_w2_0 _ _)); (try (refine bcB (n := w3.heap.size) hb ?_; intro h_w3_0 e_w3_0 d_w3_0 _ _))))
    all_goals go_wp2
    all_goals go_ret
    all_goals refine ⟨rfl, ?_⟩
    all_goals exact belz
theorem walk_RisesetAboves (lon lat t b k l : Int) (w : World) (hT : Tab w) (hL : LTab w) (ht : -9223372036854775808 ≤ t ∧ t ≤ 9223372036854775807) (hk : -9223372036854775808 ≤ k ∧ k ≤ 9223372036854775807) (hl : -9223372036854775808 ≤ l ∧ l ≤ 9223372036854775807) :
    Calls Tryz.prog 4 #[.agg #[.int .i64 lon, .int .i64 lat], .int .i64 t, .int .i64 b, .int .i64 k, .int .i64 l] w fun e w' => e = .returned (.bool true) ∧ Below w.heap.size w w' := by
  cases h : plB lon lat with
  | false => exact walk_Ra_site lon lat t b k l w hT hL h
  | true =>
    by_cases b0 : b = 0 ∨ b = 1
    · cases h' : instB t with
      | true => exact walk_Ra_ok lon lat t b k l w hT hL h b0 h' hk.1 hk.2 hl.1 hl.2
      | false => exact walk_Ra_time lon lat t b k l w hT hL h b0 h' ht.1 ht.2
    · exact walk_Ra_body lon lat t b k l w hT hL h (by omega) (by omega)
end Go.Proofs.YtmjdcabniefifaaGreatDoor
