/- The law PlanetLongitudes. -/
import Derived.Test.YtjkhoepohiafeaaDoorWalkPlo3
set_option linter.unusedVariables false
set_option linter.unusedSimpArgs false
namespace Go.Proofs.YtjkhoepohiafeaaDoor
open Go.RowKit
theorem c_rPlanetO {s : ByteArray} {t r m rt : Int} (w : World) (hc : PlC s t r m rt) (hr : PlRw r m rt) (hi : instB t = true) :
    Calls Tryd.prog 22 #[.string s, .int .i64 t] w fun e w' => ∃ x, x = sunW t ∧ e = .returned (.tuple #[.int .i64 (plF r (sc (plA m rt t)).1 (sc (argU x)).1), .int .i64 (plF r (sc (plA m rt t)).2 (sc (argU x)).2), .bool true]) ∧ Below w.heap.size w w' := by
  obtain ⟨t1, t2⟩ := inst_bd hi
  obtain ⟨v0, v1⟩ := argV_bd rt t
  obtain ⟨A0, A1⟩ := plA_bd m rt t
  obtain ⟨-, -, -, -, s1, s2, -⟩ := sun_facts t
  have hs := sumOk_of hr.e
  refine c_rPlanetV s t r (plA m rt t) (fun x => x = sunW t) w (by rcases hr.r with h | h | h | h | h <;> omega) (by rcases hr.r with h | h | h | h | h <;> omega) A0 A1 (fun x hx => by rw [hx]; exact ⟨s1, s2⟩) (fun w1 => hc.rh w1 (argV rt t) v0 v1 (Lib.hid (fun w2 => c_Arg rt t w2 (by have := hs.r1; omega) (by have := hs.r2; omega) (by omega) (by omega)))) (fun w1 => ?_)
  refine (c_SunLon t 0 w1 (by omega) (by omega) (by omega) (by omega)).mono fun e w' ⟨h1, h2⟩ => ⟨_, h1, by omega, h2⟩
theorem c_rPlanetT {s : ByteArray} {t r m rt : Int} (w : World) (hc : PlC s t r m rt) (hr : PlRw r m rt) (r0 : 0 < rt) (t1 : -9223372036854775808 ≤ t) (t2 : t ≤ 9223372036854775807) :
    Calls Tryd.prog 22 #[.string s, .int .i64 t] w fun e w' => ∃ y x : Int, e = .returned (.tuple #[.int .i64 y, .int .i64 x, .bool true]) ∧ Below w.heap.size w w' := by
  have hs := sumOk_of hr.e
  obtain ⟨v, v0, v1, hA⟩ := c_ArgX rt t r0 (by have := hs.r2; omega) t1 t2
  refine (c_rPlanetV s t r ((v + m * 1000000) % 1000000000000000) (fun x => 0 ≤ x ∧ x < 1048576000000000) w (by rcases hr.r with h | h | h | h | h <;> omega) (by rcases hr.r with h | h | h | h | h <;> omega) (by omega) (by omega) (fun x hx => hx) (fun w1 => hc.rh w1 v v0 v1 (Lib.hid hA)) (fun w1 => c_SunLonX t w1 t1 t2)).mono ?_
  rintro e w' ⟨x, -, h1, h2⟩
  exact ⟨_, _, h1, h2⟩
set_option maxRecDepth 100000 in
theorem walk_Plo_ok {s : ByteArray} {t r m rt : Int} (w : World) (hT : Tab w) (hP : PTab w) (hc : PlC s t r m rt) (hr : PlRw r m rt) (hi : instB t = true) :
    Calls Tryd.prog 4 #[.string s, .int .i64 t] w fun e w' => e = .returned (.bool true) ∧ Below w.heap.size w w' := by
  have HL := Lib.hid (fun w1 (h : Tab w1) (hp : PTab w1) => c_pLongitude w1 hc hr h hp hi)
  have HR := Lib.hid (fun w1 => c_rPlanetO w1 hc hr hi)
  obtain ⟨l0, l1, lh, lw, -, li, lu, lv, -⟩ := pl_l hr t
  have hI := fun w1 => c_instErr t w1
  rw [instE_of.1 hi] at hI
  have HI := Lib.hid hI
  have HIA := Lib.hid (fun w1 => c_InArc1 (plLo r m rt t) (plHi r m rt t) (plF r (sc (plA m rt t)).1 (sc (argU (sunW t))).1) (plF r (sc (plA m rt t)).2 (sc (argU (sunW t))).2) w1 l0 l1 lh (by omega) li lu.1 lu.2 lv.1 lv.2)
  have HT := Lib.hid hT
  have HP := Lib.hid hP
  clear hT hP hI li lu lv hi hc hr
  generalize plLo r m rt t = lo at *
  generalize plHi r m rt t = hi at *
  have e1 : IntKind.i64.wrap (hi - lo) = hi - lo := IntWalk.i64_in _ (by omega)
  have d1 : decide (hi - lo ≤ 100000) = true := decide_eq_true lw
  have hgen := sgen; have hgen2 := sgen2; have hgen3 := sgen3; go_enter Tryd.func4, Tryd.ntmps4
  go_wp2_with (first | (go_at_call 20; (refine (c_planetWorks _ (HT.out.below (by exact belz)) (HP.out.below (by exact belz))).mono ?_); rintro e w1 ⟨rfl, hb⟩; have hz := hb.size; (try simp only [szA, szS, szD, szN] at hz); (try (refine bcB (n := w.heap.size) hb ?_; intro h_w_0 e_w_0 d_w_0 _ _))) | (go_at_call 21; (with_reducible refine (HL.out _ (HT.out.below (by exact belz)) (HP.out.below (by exact belz))).mono ?_); rintro e w2 ⟨rfl, hb⟩; have hz := hb.size; (try simp only [szA, szS, szD, szN] at hz); (try (refine bcB (n := w.heap.size) hb ?_; intro h_w_0 e_w_0 d_w_0 _ _)); (try (refine bcB (n := w1.heap.size) hb ?_; intro h_w1_0 e_w1_0 d_w1_0 _ _))) | (go_at_call 22; (refine (HR.out _).mono ?_); rintro e w3 ⟨x, rfl, rfl, hb⟩; have hz := hb.size; (try simp only [szA, szS, szD, szN] at hz); (try (refine bcB (n := w.heap.size) hb ?_; intro h_w_0 e_w_0 d_w_0 _ _)); (try (refine bcB (n := w1.heap.size) hb ?_; intro h_w1_0 e_w1_0 d_w1_0 _ _)); (try (refine bcB (n := w2.heap.size) hb ?_; intro h_w2_0 e_w2_0 d_w2_0 _ _))) | (go_at_call 23; refine (HI.out _).mono ?_; rintro e w' ⟨rfl, rfl⟩) | (go_at_call 18; (with_reducible refine (HIA.out _).mono ?_); rintro e w5 ⟨rfl, hb⟩; have hz := hb.size; (try simp only [szA, szS, szD, szN] at hz); (try (refine bcB (n := w.heap.size) hb ?_; intro h_w_0 e_w_0 d_w_0 _ _)); (try (refine bcB (n := w1.heap.size) hb ?_; intro h_w1_0 e_w1_0 d_w1_0 _ _)); (try (refine bcB (n := w2.heap.size) hb ?_; intro h_w2_0 e_w2_0 d_w2_0 _ _)); (try (refine bcB (n := w3.heap.size) hb ?_; intro h_w3_0 e_w3_0 d_w3_0 _ _))))
  go_ret
  refine ⟨rfl, ?_⟩
  exact belz
theorem walk_Plo_time {s : ByteArray} {t r m rt : Int} (w : World) (hT : Tab w) (hP : PTab w) (hc : PlC s t r m rt) (hr : PlRw r m rt) (r0 : 0 < rt) (hi : instB t = false) (t1 : -9223372036854775808 ≤ t) (t2 : t ≤ 9223372036854775807) :
    Calls Tryd.prog 4 #[.string s, .int .i64 t] w fun e w' => e = .returned (.bool true) ∧ Below w.heap.size w w' := by
  have HL := Lib.hid (fun w1 (hp : PTab w1) => c_pLongitudeE w1 (show (3 : Int) ≠ 0 by decide) (fun w2 h2 => hc.ht w2 h2 hi t1 t2) hp)
  have HR := Lib.hid (fun w1 => c_rPlanetT w1 hc hr r0 t1 t2)
  have hI := fun w1 => c_instErr t w1
  rw [instE_of.2 hi] at hI
  have HI := Lib.hid hI
  have HT := Lib.hid hT
  have HP := Lib.hid hP
  clear hT hP hI hi hc hr r0
  have hgen := sgen; have hgen2 := sgen2; have hgen3 := sgen3; go_enter Tryd.func4, Tryd.ntmps4
  go_wp2_with (first | (go_at_call 20; (refine (c_planetWorks _ (HT.out.below (by exact belz)) (HP.out.below (by exact belz))).mono ?_); rintro e w1 ⟨rfl, hb⟩; have hz := hb.size; (try simp only [szA, szS, szD, szN] at hz); (try (refine bcB (n := w.heap.size) hb ?_; intro h_w_0 e_w_0 d_w_0 _ _))) | (go_at_call 21; (with_reducible refine (HL.out _ (HP.out.below (by exact belz))).mono ?_); rintro e w2 ⟨rfl, hb⟩; have hz := hb.size; (try simp only [szA, szS, szD, szN] at hz); (try (refine bcB (n := w.heap.size) hb ?_; intro h_w_0 e_w_0 d_w_0 _ _)); (try (refine bcB (n := w1.heap.size) hb ?_; intro h_w1_0 e_w1_0 d_w1_0 _ _))) | (go_at_call 22; (refine (HR.out _).mono ?_); rintro e w3 ⟨y, x, rfl, hb⟩; have hz := hb.size; (try simp only [szA, szS, szD, szN] at hz); (try (refine bcB (n := w.heap.size) hb ?_; intro h_w_0 e_w_0 d_w_0 _ _)); (try (refine bcB (n := w1.heap.size) hb ?_; intro h_w1_0 e_w1_0 d_w1_0 _ _)); (try (refine bcB (n := w2.heap.size) hb ?_; intro h_w2_0 e_w2_0 d_w2_0 _ _))) | (go_at_call 23; refine (HI.out _).mono ?_; rintro e w' ⟨rfl, rfl⟩) | (go_at_call 14; (refine (c_none1 _ _).mono ?_); rintro e w5 ⟨rfl, hb⟩; have hz := hb.size; (try simp only [szA, szS, szD, szN] at hz); (try (refine bcB (n := w.heap.size) hb ?_; intro h_w_0 e_w_0 d_w_0 _ _)); (try (refine bcB (n := w1.heap.size) hb ?_; intro h_w1_0 e_w1_0 d_w1_0 _ _)); (try (refine bcB (n := w2.heap.size) hb ?_; intro h_w2_0 e_w2_0 d_w2_0 _ _)); (try (refine bcB (n := w3.heap.size) hb ?_; intro h_w3_0 e_w3_0 d_w3_0 _ _))))
  go_ret
  refine ⟨rfl, ?_⟩
  exact belz
theorem walk_Plo_name {s : ByteArray} {t : Int} (w : World) (hT : Tab w) (hP : PTab w) (hH : ∀ w1, PTab w1 → Calls Tryd.prog 45 #[.string s, .int .i64 t] w1 fun e w' => e = .returned (.tuple #[.agg #[.int .i64 0, .int .i64 0], .int .i64 5]) ∧ Below w1.heap.size w1 w')
    (hR : ∀ w1, Calls Tryd.prog 54 #[.string s, .int .i64 t] w1 fun e w' => e = .returned (.tuple #[.int .i64 0, .int .i64 0, .bool false]) ∧ Below w1.heap.size w1 w') :
    Calls Tryd.prog 4 #[.string s, .int .i64 t] w fun e w' => e = .returned (.bool true) ∧ Below w.heap.size w w' := by
  have HL := Lib.hid (fun w1 (hp : PTab w1) => c_pLongitudeE w1 (show (5 : Int) ≠ 0 by decide) hH hp)
  have HR := Lib.hid (fun w1 => c_rPlanetN s t w1 hR)
  have HT := Lib.hid hT
  have HP := Lib.hid hP
  clear hT hP hH hR
  have hgen := sgen; have hgen2 := sgen2; have hgen3 := sgen3; go_enter Tryd.func4, Tryd.ntmps4
  go_wp2_with (first | (go_at_call 20; (refine (c_planetWorks _ (HT.out.below (by exact belz)) (HP.out.below (by exact belz))).mono ?_); rintro e w1 ⟨rfl, hb⟩; have hz := hb.size; (try simp only [szA, szS, szD, szN] at hz); (try (refine bcB (n := w.heap.size) hb ?_; intro h_w_0 e_w_0 d_w_0 _ _))) | (go_at_call 21; (with_reducible refine (HL.out _ (HP.out.below (by exact belz))).mono ?_); rintro e w2 ⟨rfl, hb⟩; have hz := hb.size; (try simp only [szA, szS, szD, szN] at hz); (try (refine bcB (n := w.heap.size) hb ?_; intro h_w_0 e_w_0 d_w_0 _ _)); (try (refine bcB (n := w1.heap.size) hb ?_; intro h_w1_0 e_w1_0 d_w1_0 _ _))) | (go_at_call 22; (with_reducible refine (HR.out _).mono ?_); rintro e w3 ⟨rfl, hb⟩; have hz := hb.size; (try simp only [szA, szS, szD, szN] at hz); (try (refine bcB (n := w.heap.size) hb ?_; intro h_w_0 e_w_0 d_w_0 _ _)); (try (refine bcB (n := w1.heap.size) hb ?_; intro h_w1_0 e_w1_0 d_w1_0 _ _)); (try (refine bcB (n := w2.heap.size) hb ?_; intro h_w2_0 e_w2_0 d_w2_0 _ _))) | (go_at_call 14; (refine (c_none1 _ _).mono ?_); rintro e w5 ⟨rfl, hb⟩; have hz := hb.size; (try simp only [szA, szS, szD, szN] at hz); (try (refine bcB (n := w.heap.size) hb ?_; intro h_w_0 e_w_0 d_w_0 _ _)); (try (refine bcB (n := w1.heap.size) hb ?_; intro h_w1_0 e_w1_0 d_w1_0 _ _)); (try (refine bcB (n := w2.heap.size) hb ?_; intro h_w2_0 e_w2_0 d_w2_0 _ _)); (try (refine bcB (n := w3.heap.size) hb ?_; intro h_w3_0 e_w3_0 d_w3_0 _ _))))
  go_ret
  refine ⟨rfl, ?_⟩
  exact belz
/-- A name is one of five planets with its row, or none. -/
structure PlNo (s : ByteArray) (t : Int) : Prop where
  h : ∀ w1, PTab w1 → Calls Tryd.prog 45 #[.string s, .int .i64 t] w1 fun e w' => e = .returned (.tuple #[.agg #[.int .i64 0, .int .i64 0], .int .i64 5]) ∧ Below w1.heap.size w1 w'
  r : ∀ w1, Calls Tryd.prog 54 #[.string s, .int .i64 t] w1 fun e w' => e = .returned (.tuple #[.int .i64 0, .int .i64 0, .bool false]) ∧ Below w1.heap.size w1 w'
theorem pl_cases (s : ByteArray) (t : Int) : (∃ r m rt, PlC s t r m rt ∧ PlRw r m rt ∧ 0 < rt) ∨ PlNo s t := by
  cases q0 : isPl 0 s with
  | true => exact .inl ⟨387, 986042219, 11367595694444, ⟨fun w h hp hi => c_Helio0 s t w h hp q0 hi, fun w hp h t1 t2 => c_HelioT0 s t w hp q0 h t1 t2, ⟨_, _, _, fun w hp => c_find0 s w hp q0⟩, fun w v v0 v1 HA => c_rHelio0 s t w q0 v v0 v1 HA⟩, ⟨by omega, by omega, by omega, by decide +kernel⟩, by omega⟩
  | false =>
    cases q1 : isPl 1 s with
    | true => exact .inl ⟨723, 204930817, 4450362055556, ⟨fun w h hp hi => c_Helio1 s t w h hp q0 q1 hi, fun w hp h t1 t2 => c_HelioT1 s t w hp q0 q1 h t1 t2, ⟨_, _, _, fun w hp => c_find1 s w hp q0 q1⟩, fun w v v0 v1 HA => c_rHelio1 s t w q0 q1 v v0 v1 HA⟩, ⟨by omega, by omega, by omega, by decide +kernel⟩, by omega⟩
    | false =>
      cases q2 : isPl 2 s with
      | true => exact .inl ⟨1524, 214414189, 1455613000000, ⟨fun w h hp hi => c_Helio2 s t w h hp q0 q1 q2 hi, fun w hp h t1 t2 => c_HelioT2 s t w hp q0 q1 q2 h t1 t2, ⟨_, _, _, fun w hp => c_find2 s w hp q0 q1 q2⟩, fun w v v0 v1 HA => c_rHelio2 s t w q0 q1 q2 v v0 v1 HA⟩, ⟨by omega, by omega, by omega, by decide +kernel⟩, by omega⟩
      | false =>
        cases q3 : isPl 3 s with
        | true => exact .inl ⟨5203, 589101452, 230792472222, ⟨fun w h hp hi => c_Helio3 s t w h hp q0 q1 q2 q3 hi, fun w hp h t1 t2 => c_HelioT3 s t w hp q0 q1 q2 q3 h t1 t2, ⟨_, _, _, fun w hp => c_find3 s w hp q0 q1 q2 q3⟩, fun w v v0 v1 HA => c_rHelio3 s t w q0 q1 q2 q3 v v0 v1 HA⟩, ⟨by omega, by omega, by omega, by decide +kernel⟩, by omega⟩
        | false =>
          cases q4 : isPl 4 s with
          | true => exact .inl ⟨9537, 310632725, 92900388889, ⟨fun w h hp hi => c_Helio4 s t w h hp q0 q1 q2 q3 q4 hi, fun w hp h t1 t2 => c_HelioT4 s t w hp q0 q1 q2 q3 q4 h t1 t2, ⟨_, _, _, fun w hp => c_find4 s w hp q0 q1 q2 q3 q4⟩, fun w v v0 v1 HA => c_rHelio4 s t w q0 q1 q2 q3 q4 v v0 v1 HA⟩, ⟨by omega, by omega, by omega, by decide +kernel⟩, by omega⟩
          | false => exact .inr ⟨fun w1 hp => c_Helio5 s t w1 hp q0 q1 q2 q3 q4, fun w1 => c_rHelio5 s t w1 q0 q1 q2 q3 q4⟩
theorem walk_PlanetLongitudes (s : ByteArray) (t : Int) (w : World) (hT : Tab w) (hP : PTab w) (ht : -9223372036854775808 ≤ t ∧ t ≤ 9223372036854775807) :
    Calls Tryd.prog 4 #[.string s, .int .i64 t] w fun e w' => e = .returned (.bool true) ∧ Below w.heap.size w w' := by
  rcases pl_cases s t with ⟨r, m, rt, hc, hr, r0⟩ | h
  · cases hi : instB t with
    | true => exact walk_Plo_ok w hT hP hc hr hi
    | false => exact walk_Plo_time w hT hP hc hr r0 hi ht.1 ht.2
  · exact walk_Plo_name w hT hP h.h h.r
end Go.Proofs.YtjkhoepohiafeaaDoor
