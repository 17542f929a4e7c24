/- Contracts of riseset.above, check, Above. The contract of riseset.Find. How wide place.look's intervals are; heights decided by the reference's numbers; the example of risesetWorks. No program in sight. Contracts of risesetWorks, of riseset.Find at any input, of riseset.Length; the walk through the law RisesetLengths. -/
import Derived.Test.YtcgnhnmigmdalaaGreatDoorLkD
import Derived.BigQuiet
import Derived.Deep.DeepCutAuto
import Derived.Test.YtcgnhnmigmdalaaGreatDoorNrA
import Derived.Deep.LoopGhost
import Derived.Test.YtcgnhnmigmdalaaGreatDoorWalkSva
set_option linter.unusedVariables false
set_option linter.unusedSimpArgs false
namespace Go.Proofs.YtcgnhnmigmdalaaGreatDoor
section
open Go.RowKit
def abvN (lim lo hi : Int) : Int := if lim < lo then 1 else if hi < lim then -1 else 0
theorem abvN_or (lim lo hi : Int) : abvN lim lo hi = 1 ∨ abvN lim lo hi = -1 ∨ abvN lim lo hi = 0 := by
  unfold abvN; split
  · exact .inl rfl
  · split
    · exact .inr (.inl rfl)
    · exact .inr (.inr rfl)
def suU0 (lon lat t : Int) : Int := up0 lat (lkH0 lon t (sraHi t)) (lkH1 lon t (sraLo t)) (sdeLo t) (sdeHi t)
def suU1 (lon lat t : Int) : Int := up1 lat (lkH0 lon t (sraHi t)) (lkH1 lon t (sraLo t)) (sdeLo t) (sdeHi t)
def moU0 (lon lat t : Int) : Int := up0 lat (lkH0 lon t (mraHi t)) (lkH1 lon t (mraLo t)) (mdeLo t) (mdeHi t)
def moU1 (lon lat t : Int) : Int := up1 lat (lkH0 lon t (mraHi t)) (lkH1 lon t (mraLo t)) (mdeLo t) (mdeHi t)
def rsV (lon lat t b : Int) : Int := if b = 0 then abvN (-14543900) (suU0 lon lat t) (suU1 lon lat t) else abvN 2182000 (moU0 lon lat t) (moU1 lon lat t)
theorem rsV_or (lon lat t b : Int) : rsV lon lat t b = 1 ∨ rsV lon lat t b = -1 ∨ rsV lon lat t b = 0 := by
  unfold rsV; split <;> exact abvN_or _ _ _
/-- The limits of the bodies, as the program's text lays them. -/
structure LTab (w : World) : Prop where
  lt : 0 < w.heap.size
  c0 : w.cell? ⟨0, 0, none⟩ = some (.int .i64 (-14543900))
  c1 : w.cell? ⟨0, 1, none⟩ = some (.int .i64 2182000)
theorem LTab.below {w w' : World} (h : LTab w) (hb : Below w.heap.size w w') : LTab w' :=
  ⟨Nat.lt_of_lt_of_le h.lt hb.size, (hb.cell (p := ⟨0, _, none⟩) h.lt).trans h.c0, (hb.cell (p := ⟨0, _, none⟩) h.lt).trans h.c1⟩
theorem sun_height {lon lat t : Int} (hp : plB lon lat = true) (ht : instB t = true) (w : World) (hT : Tab w) :
    Calls Tryz.prog 11 #[.agg #[.int .i64 lon, .int .i64 lat], .agg #[.int .i64 (sraLo t), .int .i64 (sraHi t)], .agg #[.int .i64 (sdeLo t), .int .i64 (sdeHi t)], .int .i64 t] w fun e w' => e = .returned (.tuple #[.agg #[.int .i64 (suU0 lon lat t), .int .i64 (suU1 lon lat t)], .int .i64 0]) ∧ Below w.heap.size w w' := by
  obtain ⟨r, -⟩ := sun_all t
  have r0 := r.ra0
  have r1 := r.ra1
  have r2 := r.ra2
  have r3 := r.ra3
  exact c_Height (look_ok hp ht r.ra2 (by omega) (by omega) r.de1 r.de0 r.de2) w hT
theorem moon_height {lon lat t : Int} (hp : plB lon lat = true) (ht : instB t = true) (w : World) (hT : Tab w) :
    Calls Tryz.prog 11 #[.agg #[.int .i64 lon, .int .i64 lat], .agg #[.int .i64 (mraLo t), .int .i64 (mraHi t)], .agg #[.int .i64 (mdeLo t), .int .i64 (mdeHi t)], .int .i64 t] w fun e w' => e = .returned (.tuple #[.agg #[.int .i64 (moU0 lon lat t), .int .i64 (moU1 lon lat t)], .int .i64 0]) ∧ Below w.heap.size w w' := by
  obtain ⟨r, -⟩ := moon_all t
  have r0 := r.ra0
  have r1 := r.ra1
  have r2 := r.ra2
  have r3 := r.ra3
  exact c_Height (look_ok hp ht r.ra2 (by omega) (by omega) r.de1 r.de0 r.de2) w hT
set_option maxRecDepth 100000 in
set_option maxHeartbeats 2000000 in
theorem c_above0 (lon lat t : Int) (w : World) (hT : Tab w) (hL : LTab w) (hp : plB lon lat = true) (ht : instB t = true) :
    Calls Tryz.prog 81 #[.agg #[.int .i64 lon, .int .i64 lat], .int .i64 t, .int .i64 0] w fun e w' => e = .returned (.int .i64 (rsV lon lat t 0)) ∧ Below w.heap.size w w' := by
  have HS := Lib.hid (fun w1 h => c_sunAt t w1 h ht)
  have HH := Lib.hid (fun w1 h => sun_height hp ht w1 h)
  have ev : rsV lon lat t 0 = if -14543900 < suU0 lon lat t then 1 else if suU1 lon lat t < -14543900 then -1 else 0 := by unfold rsV abvN; first | rw [if_pos rfl] | rw [if_neg (by decide)]
  rw [ev]
  have HT := Lib.hid hT
  have HLT := Lib.hid hL
  clear hT hL hp ht ev
  generalize suU0 lon lat t = lo at *
  generalize suU1 lon lat t = hi at *
  generalize sraLo t = a0 at *
  generalize sraHi t = a1 at *
  generalize sdeLo t = d0 at *
  generalize sdeHi t = d1 at *
  by_cases c1 : -14543900 < lo
  rotate_left
  by_cases c2 : hi < -14543900
  rotate_left
  all_goals (try rw [if_pos c1])
  all_goals (try rw [if_neg c1])
  all_goals (try rw [if_pos c2])
  all_goals (try rw [if_neg c2])
  all_goals (try have C1 : decide (-14543900 < lo) = false := decide_eq_false c1)
  all_goals (try have C1 : decide (-14543900 < lo) = true := decide_eq_true c1)
  all_goals (try have C2 : decide (hi < -14543900) = false := decide_eq_false c2)
  all_goals (try have C2 : decide (hi < -14543900) = true := decide_eq_true c2)
  all_goals
    have hgen := sgen; have hgen2 := sgen2; have hgen3 := sgen3; go_enter Tryz.func81, Tryz.ntmps81
    go_upto_region 6 with (first | (go_at_call 9; (with_reducible refine (HS.out _ (HT.out.below (by exact belz))).mono ?_); rintro e w1 ⟨rfl, hb⟩; have hz := hb.size; (try simp only [szA, szS, szD, szN] at hz); (try (refine bcB (n := w.heap.size) hb ?_; intro h_w_0 e_w_0 d_w_0 _ _)); (try (refine bcB (n := w.heap.size + 1) hb ?_; intro h_w_1 e_w_1 d_w_1 _ _))) | (go_at_call 11; (with_reducible refine (HH.out _ (HT.out.below (by exact belz))).mono ?_); rintro e w2 ⟨rfl, hb⟩; have hz := hb.size; (try simp only [szA, szS, szD, szN] at hz); (try (refine bcB (n := w.heap.size) hb ?_; intro h_w_0 e_w_0 d_w_0 _ _)); (try (refine bcB (n := w1.heap.size) hb ?_; intro h_w1_0 e_w1_0 d_w1_0 _ _)); (try (refine bcB (n := w1.heap.size + 1) hb ?_; intro h_w1_1 e_w1_1 d_w1_1 _ _))))
    have hbl : Below w.heap.size w w2 := by exact belz
    obtain ⟨ql, q0, q1⟩ := HLT.out.below hbl
    go_quiet (fail)
    go_wp2_with fail
    (try go_quiet (fail))
    (try go_wp2_with fail)
    go_ret
    refine ⟨rfl, ?_⟩
    exact belz
set_option maxRecDepth 100000 in
set_option maxHeartbeats 2000000 in
theorem c_above1 (lon lat t : Int) (w : World) (hT : Tab w) (hL : LTab w) (hp : plB lon lat = true) (ht : instB t = true) :
    Calls Tryz.prog 81 #[.agg #[.int .i64 lon, .int .i64 lat], .int .i64 t, .int .i64 1] w fun e w' => e = .returned (.int .i64 (rsV lon lat t 1)) ∧ Below w.heap.size w w' := by
  have HS := Lib.hid (fun w1 h => c_moonAt t w1 h ht)
  have HH := Lib.hid (fun w1 h => moon_height hp ht w1 h)
  have ev : rsV lon lat t 1 = if 2182000 < moU0 lon lat t then 1 else if moU1 lon lat t < 2182000 then -1 else 0 := by unfold rsV abvN; first | rw [if_pos rfl] | rw [if_neg (by decide)]
  rw [ev]
  have HT := Lib.hid hT
  have HLT := Lib.hid hL
  clear hT hL hp ht ev
  generalize moU0 lon lat t = lo at *
  generalize moU1 lon lat t = hi at *
  generalize mraLo t = a0 at *
  generalize mraHi t = a1 at *
  generalize mdeLo t = d0 at *
  generalize mdeHi t = d1 at *
  by_cases c1 : 2182000 < lo
  rotate_left
  by_cases c2 : hi < 2182000
  rotate_left
  all_goals (try rw [if_pos c1])
  all_goals (try rw [if_neg c1])
  all_goals (try rw [if_pos c2])
  all_goals (try rw [if_neg c2])
  all_goals (try have C1 : decide (2182000 < lo) = false := decide_eq_false c1)
  all_goals (try have C1 : decide (2182000 < lo) = true := decide_eq_true c1)
  all_goals (try have C2 : decide (hi < 2182000) = false := decide_eq_false c2)
  all_goals (try have C2 : decide (hi < 2182000) = true := decide_eq_true c2)
  all_goals
    have hgen := sgen; have hgen2 := sgen2; have hgen3 := sgen3; go_enter Tryz.func81, Tryz.ntmps81
    go_upto_region 6 with (first | (go_at_call 10; (with_reducible refine (HS.out _ (HT.out.below (by exact belz))).mono ?_); rintro e w1 ⟨rfl, hb⟩; have hz := hb.size; (try simp only [szA, szS, szD, szN] at hz); (try (refine bcB (n := w.heap.size) hb ?_; intro h_w_0 e_w_0 d_w_0 _ _)); (try (refine bcB (n := w.heap.size + 1) hb ?_; intro h_w_1 e_w_1 d_w_1 _ _))) | (go_at_call 11; (with_reducible refine (HH.out _ (HT.out.below (by exact belz))).mono ?_); rintro e w2 ⟨rfl, hb⟩; have hz := hb.size; (try simp only [szA, szS, szD, szN] at hz); (try (refine bcB (n := w.heap.size) hb ?_; intro h_w_0 e_w_0 d_w_0 _ _)); (try (refine bcB (n := w1.heap.size) hb ?_; intro h_w1_0 e_w1_0 d_w1_0 _ _)); (try (refine bcB (n := w1.heap.size + 1) hb ?_; intro h_w1_1 e_w1_1 d_w1_1 _ _))))
    have hbl : Below w.heap.size w w2 := by exact belz
    obtain ⟨ql, q0, q1⟩ := HLT.out.below hbl
    go_quiet (fail)
    go_wp2_with fail
    (try go_quiet (fail))
    (try go_wp2_with fail)
    go_ret
    refine ⟨rfl, ?_⟩
    exact belz
theorem c_above (lon lat t b : Int) (w : World) (hT : Tab w) (hL : LTab w) (hp : plB lon lat = true) (ht : instB t = true) (hb : b = 0 ∨ b = 1) :
    Calls Tryz.prog 81 #[.agg #[.int .i64 lon, .int .i64 lat], .int .i64 t, .int .i64 b] w fun e w' => e = .returned (.int .i64 (rsV lon lat t b)) ∧ Below w.heap.size w w' := by
  rcases hb with rfl | rfl
  · exact c_above0 lon lat t w hT hL hp ht
  · exact c_above1 lon lat t w hT hL hp ht
def rsE (lon lat b : Int) : Int := if plB lon lat = false then 3 else if b = 0 ∨ b = 1 then 0 else 1
theorem rsE_ok {lon lat b : Int} (h : rsE lon lat b = 0) : plB lon lat = true ∧ (b = 0 ∨ b = 1) := by
  unfold rsE at h
  cases hp : plB lon lat with
  | false => rw [hp, if_pos rfl] at h; cases h
  | true =>
    rw [hp, if_neg (by decide)] at h
    by_cases hb : b = 0 ∨ b = 1
    · exact ⟨rfl, hb⟩
    · rw [if_neg hb] at h; cases h
theorem c_rsCheck (lon lat b : Int) (w : World) :
    Calls Tryz.prog 79 #[.agg #[.int .i64 lon, .int .i64 lat], .int .i64 b] w fun e w' => e = .returned (.int .i64 (rsE lon lat b)) ∧ Below w.heap.size w w' := by
  have hc := fun w1 => c_placeCheck lon lat w1
  cases hp : plB lon lat with
  | false =>
    rw [plE_f hp] at hc
    have e : rsE lon lat b = 3 := by unfold rsE; rw [hp]; rfl
    rw [e]
    have HC := Lib.hid hc
    clear hc hp e
    have hgen := sgen; have hgen2 := sgen2; have hgen3 := sgen3; go_enter Tryz.func79, Tryz.ntmps79
    go_wp2_with (go_at_call 83; (refine (HC.out _).mono ?_); rintro e w1 ⟨rfl, hb⟩; have hz := hb.size; (try simp only [szA, szS, szD, szN] at hz); (try (refine bcB (n := w.heap.size) hb ?_; intro h_w_0 e_w_0 d_w_0 _ _)))
    go_ret
    refine ⟨rfl, ?_⟩
    exact belz
  | true =>
    rw [plE_t hp] at hc
    have HC := Lib.hid hc
    by_cases b0 : b = 0
    · have e : rsE lon lat b = 0 := by unfold rsE; rw [hp, if_neg (by decide), if_pos (.inl b0)]
      rw [e]
      have f0 : (b == 0) = true := by simp [b0]
      clear hc hp e
      subst b0
      have hgen := sgen; have hgen2 := sgen2; have hgen3 := sgen3; go_enter Tryz.func79, Tryz.ntmps79
      go_wp2_with (go_at_call 83; (refine (HC.out _).mono ?_); rintro e w1 ⟨rfl, hb⟩; have hz := hb.size; (try simp only [szA, szS, szD, szN] at hz); (try (refine bcB (n := w.heap.size) hb ?_; intro h_w_0 e_w_0 d_w_0 _ _)))
      go_ret
      refine ⟨rfl, ?_⟩
      exact belz
    · have f0 : (b == 0) = false := by simpa using b0
      by_cases b1 : b = 1
      · have e : rsE lon lat b = 0 := by unfold rsE; rw [hp, if_neg (by decide), if_pos (.inr b1)]
        rw [e]
        clear hc hp e f0 b0
        subst b1
        have hgen := sgen; have hgen2 := sgen2; have hgen3 := sgen3; go_enter Tryz.func79, Tryz.ntmps79
        go_wp2_with (go_at_call 83; (refine (HC.out _).mono ?_); rintro e w1 ⟨rfl, hb⟩; have hz := hb.size; (try simp only [szA, szS, szD, szN] at hz); (try (refine bcB (n := w.heap.size) hb ?_; intro h_w_0 e_w_0 d_w_0 _ _)))
        go_ret
        refine ⟨rfl, ?_⟩
        exact belz
      · have f1 : (b == 1) = false := by simpa using b1
        have g0 : (b != 0) = true := by simpa using b0
        have g1 : (b != 1) = true := by simpa using b1
        have e : rsE lon lat b = 1 := by unfold rsE; rw [hp, if_neg (by decide), if_neg (by omega)]
        rw [e]
        clear hc hp e
        have hgen := sgen; have hgen2 := sgen2; have hgen3 := sgen3; go_enter Tryz.func79, Tryz.ntmps79
        go_wp2_with (go_at_call 83; (refine (HC.out _).mono ?_); rintro e w1 ⟨rfl, hb⟩; have hz := hb.size; (try simp only [szA, szS, szD, szN] at hz); (try (refine bcB (n := w.heap.size) hb ?_; intro h_w_0 e_w_0 d_w_0 _ _)))
        go_ret
        refine ⟨rfl, ?_⟩
        exact belz
theorem c_Above_bad (lon lat t b : Int) (w : World) (h : rsE lon lat b ≠ 0) :
    Calls Tryz.prog 42 #[.agg #[.int .i64 lon, .int .i64 lat], .int .i64 t, .int .i64 b] w fun e w' => e = .returned (.tuple #[.int .i64 0, .int .i64 (rsE lon lat b)]) ∧ Below w.heap.size w w' := by
  have HC := Lib.hid (fun w1 => c_rsCheck lon lat b w1)
  generalize rsE lon lat b = x at *
  have hx : (x == 0) = false := by simpa using h
  have hgen := sgen; have hgen2 := sgen2; have hgen3 := sgen3; go_enter Tryz.func42, Tryz.ntmps42
  go_wp2_with (go_at_call 79; (refine (HC.out _).mono ?_); rintro e w1 ⟨rfl, hb⟩; have hz := hb.size; (try simp only [szA, szS, szD, szN] at hz); (try (refine bcB (n := w.heap.size) hb ?_; intro h_w_0 e_w_0 d_w_0 _ _)))
  refine bodyPost_ret (v := .tuple #[.int .i64 0, .int .i64 x]) (by simp only [results, Tryz.results42]; go_simp) rfl ⟨rfl, ?_⟩
  exact belz
theorem c_AboveT (lon lat t b : Int) (w : World) (h : rsE lon lat b = 0) (ht : instB t = false) (t1 : -9223372036854775808 ≤ t) (t2 : t ≤ 9223372036854775807) :
    Calls Tryz.prog 42 #[.agg #[.int .i64 lon, .int .i64 lat], .int .i64 t, .int .i64 b] w fun e w' => e = .returned (.tuple #[.int .i64 0, .int .i64 3]) ∧ Below w.heap.size w w' := by
  have hc := fun w1 => c_rsCheck lon lat b w1
  rw [h] at hc
  have HC := Lib.hid hc
  have hi := fun w1 => c_isInst t w1 t1 t2
  rw [ht] at hi
  have HI := Lib.hid hi
  clear hc h hi ht
  have hgen := sgen; have hgen2 := sgen2; have hgen3 := sgen3; go_enter Tryz.func42, Tryz.ntmps42
  go_wp2_with (first | (go_at_call 79; (refine (HC.out _).mono ?_); rintro e w1 ⟨rfl, hb⟩; have hz := hb.size; (try simp only [szA, szS, szD, szN] at hz); (try (refine bcB (n := w.heap.size) hb ?_; intro h_w_0 e_w_0 d_w_0 _ _))) | (go_at_call 54; (refine (HI.out _).mono ?_); rintro e w3 ⟨rfl, hb⟩; have hz := hb.size; (try simp only [szA, szS, szD, szN] at hz); (try (refine bcB (n := w.heap.size) hb ?_; intro h_w_0 e_w_0 d_w_0 _ _)); (try (refine bcB (n := w1.heap.size) hb ?_; intro h_w1_0 e_w1_0 d_w1_0 _ _))))
  refine bodyPost_ret (v := .tuple #[.int .i64 0, .int .i64 3]) (by simp only [results, Tryz.results42]; go_simp) rfl ⟨rfl, ?_⟩
  exact belz
theorem c_Above (lon lat t b : Int) (w : World) (hT : Tab w) (hL : LTab w) (h : rsE lon lat b = 0) (ht : instB t = true) :
    Calls Tryz.prog 42 #[.agg #[.int .i64 lon, .int .i64 lat], .int .i64 t, .int .i64 b] w fun e w' => e = .returned (.tuple #[.int .i64 (rsV lon lat t b), .int .i64 0]) ∧ Below w.heap.size w w' := by
  obtain ⟨hp, hb⟩ := rsE_ok h
  have hc := fun w1 => c_rsCheck lon lat b w1
  rw [h] at hc
  have HC := Lib.hid hc
  have HA := Lib.hid (fun w1 h1 h2 => c_above lon lat t b w1 h1 h2 hp ht hb)
  have hib := inst_bd ht
  have hi := fun w1 => c_isInst t w1 (by omega) (by omega)
  rw [ht] at hi
  have HI := Lib.hid hi
  have HT := Lib.hid hT
  have HLT := Lib.hid hL
  clear hc h hi ht hT hL hp hb
  generalize rsV lon lat t b = v at *
  have hgen := sgen; have hgen2 := sgen2; have hgen3 := sgen3; go_enter Tryz.func42, Tryz.ntmps42
  go_wp2_with (first | (go_at_call 79; (refine (HC.out _).mono ?_); rintro e w1 ⟨rfl, hb⟩; have hz := hb.size; (try simp only [szA, szS, szD, szN] at hz); (try (refine bcB (n := w.heap.size) hb ?_; intro h_w_0 e_w_0 d_w_0 _ _))) | (go_at_call 54; (refine (HI.out _).mono ?_); rintro e w3 ⟨rfl, hb⟩; have hz := hb.size; (try simp only [szA, szS, szD, szN] at hz); (try (refine bcB (n := w.heap.size) hb ?_; intro h_w_0 e_w_0 d_w_0 _ _)); (try (refine bcB (n := w1.heap.size) hb ?_; intro h_w1_0 e_w1_0 d_w1_0 _ _))) | (go_at_call 81; (refine (HA.out _ (HT.out.below (by exact belz)) (HLT.out.below (by exact belz))).mono ?_); rintro e w2 ⟨rfl, hb⟩; have hz := hb.size; (try simp only [szA, szS, szD, szN] at hz); (try (refine bcB (n := w.heap.size) hb ?_; intro h_w_0 e_w_0 d_w_0 _ _)); (try (refine bcB (n := w1.heap.size) hb ?_; intro h_w1_0 e_w1_0 d_w1_0 _ _)); (try (refine bcB (n := w3.heap.size) hb ?_; intro h_w3_0 e_w3_0 d_w3_0 _ _))))
  refine bodyPost_ret (v := .tuple #[.int .i64 v, .int .i64 0]) (by simp only [results, Tryz.results42]; go_simp) rfl ⟨rfl, ?_⟩
  exact belz
end
section
open Go.RowKit
/-- Which side a body is on, rising (1) or setting (-1). -/
def rsS (lon lat b sg : Int) (t : Int) : Int := sg * rsV lon lat t b
theorem rsS_or (lon lat b t : Int) {sg : Int} (hs : sg = 1 ∨ sg = -1) : rsS lon lat b sg t = 1 ∨ rsS lon lat b sg t = -1 ∨ rsS lon lat b sg t = 0 := by
  unfold rsS
  rcases hs with rfl | rfl <;> rcases rsV_or lon lat t b with h | h | h <;> rw [h] <;> decide
theorem kept_two : Kept (fun w => Tab w ∧ LTab w) := fun _ _ h hb => ⟨h.1.below hb, h.2.below hb⟩
theorem call_rf1 (args : Array Value) (w : World) : (callFunc 80 args).run Tryz.prog w = .ok (.enter 80 args) w := by
  go_simp
/-- The function that Find hands to Narrow. -/
theorem c_rf1 (b1 b2 b3 : Nat) (lon lat b sg t : Int) (w : World) (hT : Tab w) (hL : LTab w) (hp : plB lon lat = true) (hb : b = 0 ∨ b = 1) (ht : instB t = true) (hs : sg = 1 ∨ sg = -1)
    (l1 : b1 < w.heap.size) (l2 : b2 < w.heap.size) (l3 : b3 < w.heap.size) (c1 : w.cell? ⟨b1, 0, none⟩ = some (.int .i64 sg)) (c2 : w.cell? ⟨b2, 0, none⟩ = some (.int .i64 lon)) (c2' : w.cell? ⟨b2, 1, none⟩ = some (.int .i64 lat)) (c3 : w.cell? ⟨b3, 0, none⟩ = some (.int .i64 b)) :
    Calls Tryz.prog 80 #[.int .i64 t, .pointer (some ⟨b1, 0, none⟩), .pointer (some ⟨b2, 0, none⟩), .pointer (some ⟨b3, 0, none⟩)] w fun e w' => e = .returned (.int .i64 (rsS lon lat b sg t)) ∧ Below w.heap.size w w' := by
  have HA := Lib.hid (fun w1 h1 h2 => c_above lon lat t b w1 h1 h2 hp ht hb)
  have hv := rsS_or lon lat b t hs
  have ev : IntKind.i64.wrap (sg * rsV lon lat t b) = rsS lon lat b sg t := by
    have e : sg * rsV lon lat t b = rsS lon lat b sg t := rfl
    rw [e]
    exact IntWalk.i64_in _ (by omega)
  have EV := Lib.hid ev
  have HT := Lib.hid hT
  have HLT := Lib.hid hL
  clear hT hL hp ht hb hs hv ev
  generalize rsS lon lat b sg t = r at *
  generalize rsV lon lat t b = v at *
  have ev := EV.out
  have hgen := sgen; have hgen2 := sgen2; have hgen3 := sgen3; go_enter Tryz.func80, Tryz.ntmps80
  go_wp2_with fail
  go_region_held3 (fun w' => w'.cell? ⟨b1, 0, none⟩ = some (.int .i64 sg) ∧ w'.cell? ⟨b2, 0, none⟩ = some (.int .i64 lon) ∧ w'.cell? ⟨b2, 1, none⟩ = some (.int .i64 lat) ∧ w'.cell? ⟨b3, 0, none⟩ = some (.int .i64 b)) (refine ⟨?_, ?_, ?_, ?_⟩ <;> (first | (go_simp; done) | go_keep)) (first | (go_at_call 81; (with_reducible refine (HA.out _ (HT.out.below (by exact belz)) (HLT.out.below (by exact belz))).mono ?_); rintro e w1 ⟨rfl, hb⟩; have hz := hb.size; (try simp only [szA, szS, szD, szN] at hz); (try (refine bcB (n := w.heap.size) hb ?_; intro h_w_0 e_w_0 d_w_0 _ _)); (try (refine bcB (n := b1) hb ?_; intro h_bb1_0 e_bb1_0 d_bb1_0 _ _)); (try (refine bcB (n := b2) hb ?_; intro h_bb2_0 e_bb2_0 d_bb2_0 _ _)); (try (refine bcB (n := b3) hb ?_; intro h_bb3_0 e_bb3_0 d_bb3_0 _ _))))
  all_goals go_wp2
  all_goals go_ret
  all_goals refine ⟨rfl, ?_⟩
  all_goals exact belz
/-- What the search of Find answers. -/
structure RfR where
  lo : Int
  hi : Int
  er : Int
def rfL (s : Int → Int) (base : Int) : Nat → Int → Bool → Int → Int → RfR
  | 0, _, op, _, _ => ⟨0, 0, if op then 11 else 6⟩
  | n + 1, k, op, be, wa =>
    if s (base + k * 900000) = 0 then rfL s base n (k + 1) true be wa
    else if wa = -1 ∧ s (base + k * 900000) = 1 then
      (if (narF s 120000 62 be (base + k * 900000)).is = true then ⟨(narF s 120000 62 be (base + k * 900000)).lo, (narF s 120000 62 be (base + k * 900000)).hi, 0⟩ else ⟨0, 0, 11⟩)
    else rfL s base n (k + 1) op (base + k * 900000) (s (base + k * 900000))
def rfR (lon lat d b sg : Int) : RfR := rfL (rsS lon lat b sg) (d * 86400000) 97 0 false 0 0
/-- What the closure of Find asks of a world. -/
structure RfW (lon lat b sg : Int) (b1 b2 b3 : Nat) (w : World) : Prop where
  t : Tab w
  l : LTab w
  l1 : b1 < w.heap.size
  l2 : b2 < w.heap.size
  l3 : b3 < w.heap.size
  c1 : w.cell? ⟨b1, 0, none⟩ = some (.int .i64 sg)
  c2 : w.cell? ⟨b2, 0, none⟩ = some (.int .i64 lon)
  c2' : w.cell? ⟨b2, 1, none⟩ = some (.int .i64 lat)
  c3 : w.cell? ⟨b3, 0, none⟩ = some (.int .i64 b)
theorem RfW.below {lon lat b sg : Int} {b1 b2 b3 : Nat} {w w' : World} (h : RfW lon lat b sg b1 b2 b3 w) (hb : Below w.heap.size w w') : RfW lon lat b sg b1 b2 b3 w' :=
  ⟨h.t.below hb, h.l.below hb, Nat.lt_of_lt_of_le h.l1 hb.size, Nat.lt_of_lt_of_le h.l2 hb.size, Nat.lt_of_lt_of_le h.l3 hb.size, (hb.cell (p := ⟨b1, _, none⟩) h.l1).trans h.c1, (hb.cell (p := ⟨b2, _, none⟩) h.l2).trans h.c2, (hb.cell (p := ⟨b2, _, none⟩) h.l2).trans h.c2', (hb.cell (p := ⟨b3, _, none⟩) h.l3).trans h.c3⟩
theorem kept_rf (lon lat b sg : Int) (b1 b2 b3 : Nat) : Kept (RfW lon lat b sg b1 b2 b3) := fun _ _ h hb => h.below hb
theorem c_rf1W {lon lat b sg : Int} {b1 b2 b3 : Nat} (t : Int) (w : World) (h : RfW lon lat b sg b1 b2 b3 w) (hp : plB lon lat = true) (hb : b = 0 ∨ b = 1) (ht : instB t = true) (hs : sg = 1 ∨ sg = -1) :
    Calls Tryz.prog 80 #[.int .i64 t, .pointer (some ⟨b1, 0, none⟩), .pointer (some ⟨b2, 0, none⟩), .pointer (some ⟨b3, 0, none⟩)] w fun e w' => e = .returned (.int .i64 (rsS lon lat b sg t)) ∧ Below w.heap.size w w' :=
  c_rf1 b1 b2 b3 lon lat b sg t w h.t h.l hp hb ht hs h.l1 h.l2 h.l3 h.c1 h.c2 h.c2' h.c3
theorem inst_mk {t : Int} (h1 : -345600000000000 ≤ t) (h2 : t < 345600086400000) : instB t = true := by unfold instB; exact decide_eq_true (by omega)
theorem c_rfNar {lon lat b sg : Int} {b1 b2 b3 : Nat} (lo hi : Int) (w : World) (h : RfW lon lat b sg b1 b2 b3 w) (hp : plB lon lat = true) (hb : b = 0 ∨ b = 1) (hs : sg = 1 ∨ sg = -1) (h1 : -345600000000000 ≤ lo) (h2 : lo ≤ hi) (h3 : hi < 345600086400000) :
    Calls Tryz.prog 82 #[.agg #[.int .i64 lo, .int .i64 hi], .int .i64 120000, .func (.func 80) #[] #[.pointer (some ⟨b1, 0, none⟩), .pointer (some ⟨b2, 0, none⟩), .pointer (some ⟨b3, 0, none⟩)]] w fun e w' => e = .returned (.tuple #[.agg #[.int .i64 (narF (rsS lon lat b sg) 120000 62 lo hi).lo, .int .i64 (narF (rsS lon lat b sg) 120000 62 lo hi).hi], .bool (narF (rsS lon lat b sg) 120000 62 lo hi).is]) ∧ Below w.heap.size w w' :=
  c_NarrowT 80 _ _ _ (rsS lon lat b sg) _ lo hi 120000 w (kept_rf lon lat b sg b1 b2 b3) h (by omega) h2 (by omega) call_rf1 (by decide) (by decide) (fun w1 x hw x1 x2 => c_rf1W x w1 hw hp hb (inst_mk (by omega) (by omega)) hs)
theorem c_Find_bad (lon lat d b : Int) (r : Bool) (w : World) (h : rsE lon lat b ≠ 0) :
    Calls Tryz.prog 41 #[.agg #[.int .i64 lon, .int .i64 lat], .int .i64 d, .int .i64 b, .bool r] w fun e w' => e = .returned (.tuple #[.agg #[.int .i64 0, .int .i64 0], .int .i64 (rsE lon lat b)]) ∧ Below w.heap.size w w' := by
  have HC := Lib.hid (fun w1 => c_rsCheck lon lat b w1)
  generalize rsE lon lat b = x at *
  have hx : (x == 0) = false := by simpa using h
  have hgen := sgen; have hgen2 := sgen2; have hgen3 := sgen3; go_enter Tryz.func41, Tryz.ntmps41
  go_wp2_with (go_at_call 79; (refine (HC.out _).mono ?_); rintro e w1 ⟨rfl, hb⟩; have hz := hb.size; (try simp only [szA, szS, szD, szN] at hz); (try (refine bcB (n := w.heap.size) hb ?_; intro h_w_0 e_w_0 d_w_0 _ _)); (try (refine bcB (n := w.heap.size + 1) hb ?_; intro h_w_1 e_w_1 d_w_1 _ _)); (try (refine bcB (n := w.heap.size + 1 + 1) hb ?_; intro h_w_2 e_w_2 d_w_2 _ _)))
  refine bodyPost_ret (v := .tuple #[.agg #[.int .i64 0, .int .i64 0], .int .i64 x]) (by simp only [results, Tryz.results41]; go_simp) rfl ⟨rfl, ?_⟩
  exact belz
theorem c_Find_rng (lon lat d b : Int) (r : Bool) (w : World) (h : rsE lon lat b = 0) (hd : d < -4000000 ∨ 4000000 ≤ d) :
    Calls Tryz.prog 41 #[.agg #[.int .i64 lon, .int .i64 lat], .int .i64 d, .int .i64 b, .bool r] w fun e w' => e = .returned (.tuple #[.agg #[.int .i64 0, .int .i64 0], .int .i64 3]) ∧ Below w.heap.size w w' := by
  have hc := fun w1 => c_rsCheck lon lat b w1
  rw [h] at hc
  have HC := Lib.hid hc
  clear hc h
  by_cases f1 : d < -4000000
  · have F1 : decide (d < -4000000) = true := decide_eq_true f1
    have hgen := sgen; have hgen2 := sgen2; have hgen3 := sgen3; go_enter Tryz.func41, Tryz.ntmps41
    go_wp2_with (go_at_call 79; (refine (HC.out _).mono ?_); rintro e w1 ⟨rfl, hb⟩; have hz := hb.size; (try simp only [szA, szS, szD, szN] at hz); (try (refine bcB (n := w.heap.size) hb ?_; intro h_w_0 e_w_0 d_w_0 _ _)); (try (refine bcB (n := w.heap.size + 1) hb ?_; intro h_w_1 e_w_1 d_w_1 _ _)); (try (refine bcB (n := w.heap.size + 1 + 1) hb ?_; intro h_w_2 e_w_2 d_w_2 _ _)))
    refine bodyPost_ret (v := .tuple #[.agg #[.int .i64 0, .int .i64 0], .int .i64 3]) (by simp only [results, Tryz.results41]; go_simp) rfl ⟨rfl, ?_⟩
    exact belz
  · have F1 : decide (d < -4000000) = false := decide_eq_false f1
    have F2 : decide (4000000 ≤ d) = true := decide_eq_true (by omega)
    have hgen := sgen; have hgen2 := sgen2; have hgen3 := sgen3; go_enter Tryz.func41, Tryz.ntmps41
    go_wp2_with (go_at_call 79; (refine (HC.out _).mono ?_); rintro e w1 ⟨rfl, hb⟩; have hz := hb.size; (try simp only [szA, szS, szD, szN] at hz); (try (refine bcB (n := w.heap.size) hb ?_; intro h_w_0 e_w_0 d_w_0 _ _)); (try (refine bcB (n := w.heap.size + 1) hb ?_; intro h_w_1 e_w_1 d_w_1 _ _)); (try (refine bcB (n := w.heap.size + 1 + 1) hb ?_; intro h_w_2 e_w_2 d_w_2 _ _)))
    refine bodyPost_ret (v := .tuple #[.agg #[.int .i64 0, .int .i64 0], .int .i64 3]) (by simp only [results, Tryz.results41]; go_simp) rfl ⟨rfl, ?_⟩
    exact belz
def sgn (r : Bool) : Int := if r then 1 else -1
theorem sgn_or (r : Bool) : sgn r = 1 ∨ sgn r = -1 := by cases r <;> decide
set_option maxRecDepth 100000 in
set_option maxHeartbeats 4000000 in
theorem c_FindS (lon lat d b sg : Int) (r : Bool) (w : World) (hr : r = true ∧ sg = 1 ∨ r = false ∧ sg = -1) (hT : Tab w) (hL : LTab w) (h : rsE lon lat b = 0) (d1 : -4000000 ≤ d) (d2 : d < 4000000) :
    Calls Tryz.prog 41 #[.agg #[.int .i64 lon, .int .i64 lat], .int .i64 d, .int .i64 b, .bool r] w fun e w' => e = .returned (.tuple #[.agg #[.int .i64 (rfR lon lat d b sg).lo, .int .i64 (rfR lon lat d b sg).hi], .int .i64 (rfR lon lat d b sg).er]) ∧ Below w.heap.size w w' := by
  obtain ⟨hp, hb⟩ := rsE_ok h
  have hc := fun w1 => c_rsCheck lon lat b w1
  rw [h] at hc
  have HC := Lib.hid hc
  have F1 : decide (d < -4000000) = false := decide_eq_false (by omega)
  have F2 : decide (4000000 ≤ d) = false := decide_eq_false (by omega)
  have hso : sg = 1 ∨ sg = -1 := by omega
  have HS := Lib.hid (fun b1 b2 b3 t w1 (hw : RfW lon lat b sg b1 b2 b3 w1) ht => c_rf1W t w1 hw hp hb ht hso)
  have HN := Lib.hid (fun b1 b2 b3 lo hi w1 (hw : RfW lon lat b sg b1 b2 b3 w1) h1 h2 h3 => c_rfNar lo hi w1 hw hp hb hso h1 h2 h3)
  have HT := Lib.hid hT
  have HLT := Lib.hid hL
  obtain ⟨R, hR⟩ : ∃ R, R = rfR lon lat d b sg := ⟨_, rfl⟩
  rw [← hR]
  unfold rfR at hR
  have HR := Lib.hid hR
  have V1 : IntKind.i64.wrap (d * 86400000) = d * 86400000 := IntWalk.i64_in _ (by omega)
  clear hc h hT hL hp hb hR hso
  rcases hr with ⟨rfl, rfl⟩ | ⟨rfl, rfl⟩
  · skip
    have hgen := sgen; have hgen2 := sgen2; have hgen3 := sgen3; go_enter Tryz.func41, Tryz.ntmps41
    go_wp2_with (go_at_call 79; (refine (HC.out _).mono ?_); rintro e w1 ⟨rfl, hb⟩; have hz := hb.size; (try simp only [szA, szS, szD, szN] at hz); (try (refine bcB (n := w.heap.size) hb ?_; intro h_w_0 e_w_0 d_w_0 _ _)); (try (refine bcB (n := w.heap.size + 1) hb ?_; intro h_w_1 e_w_1 d_w_1 _ _)); (try (refine bcB (n := w.heap.size + 1 + 1) hb ?_; intro h_w_2 e_w_2 d_w_2 _ _)))
    go_loopg [13, 14, 15, 38] 97 (fun gk x13 x14 x15 x38 wr => ∃ (k : Nat) (op : Bool) (be wa : Int), gk + k = 97 ∧ x38 = .int .i64 k ∧ x13 = .bool op ∧ x14 = .int .i64 be ∧ x15 = .int .i64 wa ∧ (wa = -1 → (d * 86400000) ≤ be ∧ be ≤ (d * 86400000) + k * 900000) ∧ rfL (rsS lon lat b (1)) (d * 86400000) gk k op be wa = R ∧ RfW lon lat b (1) w1.heap.size w.heap.size (w.heap.size + 1) wr ∧ SpAt wr (w.heap.size + 1 + 1) 0 0 ∧ Below w.heap.size w wr)
    case atStart =>
      refine ⟨0, false, 0, 0, by omega, rfl, rfl, rfl, rfl, (by intro h; cases h), HR.out.symm, ?_, ?_, by exact belz⟩
      · refine ⟨HT.out.below ?_, HLT.out.below ?_, ?_, ?_, ?_, ?_, ?_, ?_, ?_⟩
        all_goals first | (go_simp; done) | exact belz
      · constructor <;> go_simp
    case round =>
      obtain ⟨k, op, be, wa, hk, rfl, rfl, rfl, rfl, hbe, hF, hW, hP, hbel⟩ := hrel
      have hsz := hbel.size
      cases gk with
      | zero =>
        obtain rfl : k = 97 := by omega
        have hk9 : decide (((97 : Nat) : Int) < 97) = false := by decide
        obtain ⟨p8, c80, c81, f80, f81⟩ := hP
        unfold rfL at hF
        subst hF
        clear HR
        cases op with
        | true =>
          go_wp2_with fail
          refine bodyPost_ret (v := .tuple #[.agg #[.int .i64 0, .int .i64 0], .int .i64 11]) (by simp only [results, Tryz.results41]; go_simp) rfl ⟨rfl, ?_⟩
          exact belz
        | false =>
          go_wp2_with fail
          refine bodyPost_ret (v := .tuple #[.agg #[.int .i64 0, .int .i64 0], .int .i64 6]) (by simp only [results, Tryz.results41]; go_simp) rfl ⟨rfl, ?_⟩
          exact belz
      | succ m =>
        have hk8 : decide ((k : Int) < 97) = true := decide_eq_true (by omega)
        obtain ⟨p8, c80, c81, f80, f81⟩ := hP
        have hat : -345600000000000 ≤ (d * 86400000) + (k : Int) * 900000 ∧ (d * 86400000) + (k : Int) * 900000 < 345600086400000 := by omega
        have V2 : IntKind.i64.wrap ((k : Int) * 900000) = (k : Int) * 900000 := IntWalk.i64_in _ (by omega)
        have V3 : IntKind.i64.wrap (d * 86400000 + (k : Int) * 900000) = d * 86400000 + (k : Int) * 900000 := IntWalk.i64_in _ (by omega)
        have HW := Lib.hid hW
        have HC1 := Lib.hid (fun (w2 : World) (hb2 : Below wr.heap.size wr w2) => HS.out w1.heap.size w.heap.size (w.heap.size + 1) (d * 86400000 + (k : Int) * 900000) w2 (HW.out.below hb2) (inst_mk hat.1 hat.2))
        unfold rfL at hF
        have hbe' : wa = -1 → d * 86400000 ≤ be ∧ be ≤ (d * 86400000 + (k : Int) * 900000) := by intro h; have := hbe h; omega
        have HBE := Lib.hid hbe'
        have hat1 : (d * 86400000) ≤ (d * 86400000 + (k : Int) * 900000) ∧ (d * 86400000 + (k : Int) * 900000) ≤ (d * 86400000) + ((k + 1 : Nat) : Int) * 900000 := by omega
        have hor := rsS_or lon lat b (d * 86400000 + (k : Int) * 900000) (sg := 1) (by decide)
        clear hW hbe hbe'
        by_cases c0 : rsS lon lat b (1) (d * 86400000 + (k : Int) * 900000) = 0
        · rw [if_pos c0] at hF
          have HF := Lib.hid hF
          rw [c0] at HC1
          clear hF c0 hor
          go_wp2_with (go_at_call 80; (refine (HC1.out _ (by exact belz)).mono ?_); rintro e w2 ⟨rfl, hb⟩; have hz := hb.size; (try simp only [szA, szS, szD, szN] at hz); (try (refine bcB (n := w.heap.size) hb ?_; intro h_w_0 e_w_0 d_w_0 _ _)); (try (refine bcB (n := w.heap.size + 1) hb ?_; intro h_w_1 e_w_1 d_w_1 _ _)); (try (refine bcB (n := w.heap.size + 1 + 1) hb ?_; intro h_w_2 e_w_2 d_w_2 _ _)); (try (refine bcB (n := w1.heap.size) hb ?_; intro h_w1_0 e_w1_0 d_w1_0 _ _)))
          go_roundg m
          case measure => omega
          case rel => exact ⟨k + 1, true, be, wa, by omega, by go_num, rfl, rfl, rfl, (by intro h; have := HBE.out h; omega), HF.out, HW.out.below (by exact belz), by constructor <;> go_simp, by exact belz⟩
        · rw [if_neg c0] at hF
          have g0 : (rsS lon lat b (1) (d * 86400000 + (k : Int) * 900000) == 0) = false := by simpa using c0
          by_cases c1 : wa = -1 ∧ rsS lon lat b (1) (d * 86400000 + (k : Int) * 900000) = 1
          · obtain ⟨rfl, c1⟩ := c1
            rw [if_pos ⟨rfl, c1⟩] at hF
            have HNN := Lib.hid (fun (w2 : World) (hb2 : Below wr.heap.size wr w2) => HN.out w1.heap.size w.heap.size (w.heap.size + 1) be (d * 86400000 + (k : Int) * 900000) w2 (HW.out.below hb2) (by have := (HBE.out rfl).1; omega) (HBE.out rfl).2 hat.2)
            rw [c1] at HC1
            clear g0 c0 hor
            generalize narF (rsS lon lat b (1)) 120000 62 be (d * 86400000 + (k : Int) * 900000) = N at *
            obtain ⟨n0, n1, ni⟩ := N
            simp only at hF HNN
            cases ni with
            | true =>
              rw [if_pos rfl] at hF
              subst hF
              clear HR
              go_wp2_with (first | (go_at_call 80; (with_reducible refine (HC1.out _ (by exact belz)).mono ?_); rintro e w2 ⟨rfl, hb⟩; have hz := hb.size; (try simp only [szA, szS, szD, szN] at hz); (try (refine bcB (n := w.heap.size) hb ?_; intro h_w_0 e_w_0 d_w_0 _ _)); (try (refine bcB (n := w.heap.size + 1) hb ?_; intro h_w_1 e_w_1 d_w_1 _ _)); (try (refine bcB (n := w.heap.size + 1 + 1) hb ?_; intro h_w_2 e_w_2 d_w_2 _ _)); (try (refine bcB (n := w1.heap.size) hb ?_; intro h_w1_0 e_w1_0 d_w1_0 _ _))) | (go_at_call 82; (with_reducible refine (HNN.out _ (by exact belz)).mono ?_); rintro e w3 ⟨rfl, hb⟩; have hz := hb.size; (try simp only [szA, szS, szD, szN] at hz); (try (refine bcB (n := w.heap.size) hb ?_; intro h_w_0 e_w_0 d_w_0 _ _)); (try (refine bcB (n := w.heap.size + 1) hb ?_; intro h_w_1 e_w_1 d_w_1 _ _)); (try (refine bcB (n := w.heap.size + 1 + 1) hb ?_; intro h_w_2 e_w_2 d_w_2 _ _)); (try (refine bcB (n := w1.heap.size) hb ?_; intro h_w1_0 e_w1_0 d_w1_0 _ _)); (try (refine bcB (n := w2.heap.size) hb ?_; intro h_w2_0 e_w2_0 d_w2_0 _ _))))
              refine bodyPost_ret (v := .tuple #[.agg #[.int .i64 n0, .int .i64 n1], .int .i64 0]) (by simp only [results, Tryz.results41]; go_simp) rfl ⟨rfl, ?_⟩
              exact belz
            | false =>
              rw [if_neg (by decide)] at hF
              subst hF
              clear HR
              go_wp2_with (first | (go_at_call 80; (with_reducible refine (HC1.out _ (by exact belz)).mono ?_); rintro e w2 ⟨rfl, hb⟩; have hz := hb.size; (try simp only [szA, szS, szD, szN] at hz); (try (refine bcB (n := w.heap.size) hb ?_; intro h_w_0 e_w_0 d_w_0 _ _)); (try (refine bcB (n := w.heap.size + 1) hb ?_; intro h_w_1 e_w_1 d_w_1 _ _)); (try (refine bcB (n := w.heap.size + 1 + 1) hb ?_; intro h_w_2 e_w_2 d_w_2 _ _)); (try (refine bcB (n := w1.heap.size) hb ?_; intro h_w1_0 e_w1_0 d_w1_0 _ _))) | (go_at_call 82; (with_reducible refine (HNN.out _ (by exact belz)).mono ?_); rintro e w3 ⟨rfl, hb⟩; have hz := hb.size; (try simp only [szA, szS, szD, szN] at hz); (try (refine bcB (n := w.heap.size) hb ?_; intro h_w_0 e_w_0 d_w_0 _ _)); (try (refine bcB (n := w.heap.size + 1) hb ?_; intro h_w_1 e_w_1 d_w_1 _ _)); (try (refine bcB (n := w.heap.size + 1 + 1) hb ?_; intro h_w_2 e_w_2 d_w_2 _ _)); (try (refine bcB (n := w1.heap.size) hb ?_; intro h_w1_0 e_w1_0 d_w1_0 _ _)); (try (refine bcB (n := w2.heap.size) hb ?_; intro h_w2_0 e_w2_0 d_w2_0 _ _))))
              refine bodyPost_ret (v := .tuple #[.agg #[.int .i64 0, .int .i64 0], .int .i64 11]) (by simp only [results, Tryz.results41]; go_simp) rfl ⟨rfl, ?_⟩
              exact belz
          · rw [if_neg c1] at hF
            have HF := Lib.hid hF
            by_cases c2 : wa = -1
            · have c3 : ¬ rsS lon lat b (1) (d * 86400000 + (k : Int) * 900000) = 1 := fun h => c1 ⟨c2, h⟩
              subst c2
              have g1 : (rsS lon lat b (1) (d * 86400000 + (k : Int) * 900000) == 1) = false := by simpa using c3
              clear hF c0 c1 c3 hor
              generalize rsS lon lat b (1) (d * 86400000 + (k : Int) * 900000) = v at *
              go_wp2_with (go_at_call 80; (refine (HC1.out _ (by exact belz)).mono ?_); rintro e w2 ⟨rfl, hb⟩; have hz := hb.size; (try simp only [szA, szS, szD, szN] at hz); (try (refine bcB (n := w.heap.size) hb ?_; intro h_w_0 e_w_0 d_w_0 _ _)); (try (refine bcB (n := w.heap.size + 1) hb ?_; intro h_w_1 e_w_1 d_w_1 _ _)); (try (refine bcB (n := w.heap.size + 1 + 1) hb ?_; intro h_w_2 e_w_2 d_w_2 _ _)); (try (refine bcB (n := w1.heap.size) hb ?_; intro h_w1_0 e_w1_0 d_w1_0 _ _)))
              go_roundg m
              case measure => omega
              case rel => exact ⟨k + 1, op, (d * 86400000 + (k : Int) * 900000), v, by omega, by go_num, rfl, rfl, rfl, fun _ => hat1, HF.out, HW.out.below (by exact belz), by constructor <;> go_simp, by exact belz⟩
            · have g1 : (wa == -1) = false := by simpa using c2
              clear hF c0 c1 c2 hor
              generalize rsS lon lat b (1) (d * 86400000 + (k : Int) * 900000) = v at *
              go_wp2_with (go_at_call 80; (refine (HC1.out _ (by exact belz)).mono ?_); rintro e w2 ⟨rfl, hb⟩; have hz := hb.size; (try simp only [szA, szS, szD, szN] at hz); (try (refine bcB (n := w.heap.size) hb ?_; intro h_w_0 e_w_0 d_w_0 _ _)); (try (refine bcB (n := w.heap.size + 1) hb ?_; intro h_w_1 e_w_1 d_w_1 _ _)); (try (refine bcB (n := w.heap.size + 1 + 1) hb ?_; intro h_w_2 e_w_2 d_w_2 _ _)); (try (refine bcB (n := w1.heap.size) hb ?_; intro h_w1_0 e_w1_0 d_w1_0 _ _)))
              go_roundg m
              case measure => omega
              case rel => exact ⟨k + 1, op, (d * 86400000 + (k : Int) * 900000), v, by omega, by go_num, rfl, rfl, rfl, fun _ => hat1, HF.out, HW.out.below (by exact belz), by constructor <;> go_simp, by exact belz⟩
  · skip
    have hgen := sgen; have hgen2 := sgen2; have hgen3 := sgen3; go_enter Tryz.func41, Tryz.ntmps41
    go_wp2_with (go_at_call 79; (refine (HC.out _).mono ?_); rintro e w1 ⟨rfl, hb⟩; have hz := hb.size; (try simp only [szA, szS, szD, szN] at hz); (try (refine bcB (n := w.heap.size) hb ?_; intro h_w_0 e_w_0 d_w_0 _ _)); (try (refine bcB (n := w.heap.size + 1) hb ?_; intro h_w_1 e_w_1 d_w_1 _ _)); (try (refine bcB (n := w.heap.size + 1 + 1) hb ?_; intro h_w_2 e_w_2 d_w_2 _ _)))
    go_loopg [13, 14, 15, 38] 97 (fun gk x13 x14 x15 x38 wr => ∃ (k : Nat) (op : Bool) (be wa : Int), gk + k = 97 ∧ x38 = .int .i64 k ∧ x13 = .bool op ∧ x14 = .int .i64 be ∧ x15 = .int .i64 wa ∧ (wa = -1 → (d * 86400000) ≤ be ∧ be ≤ (d * 86400000) + k * 900000) ∧ rfL (rsS lon lat b (-1)) (d * 86400000) gk k op be wa = R ∧ RfW lon lat b (-1) w1.heap.size w.heap.size (w.heap.size + 1) wr ∧ SpAt wr (w.heap.size + 1 + 1) 0 0 ∧ Below w.heap.size w wr)
    case atStart =>
      refine ⟨0, false, 0, 0, by omega, rfl, rfl, rfl, rfl, (by intro h; cases h), HR.out.symm, ?_, ?_, by exact belz⟩
      · refine ⟨HT.out.below ?_, HLT.out.below ?_, ?_, ?_, ?_, ?_, ?_, ?_, ?_⟩
        all_goals first | (go_simp; done) | exact belz
      · constructor <;> go_simp
    case round =>
      obtain ⟨k, op, be, wa, hk, rfl, rfl, rfl, rfl, hbe, hF, hW, hP, hbel⟩ := hrel
      have hsz := hbel.size
      cases gk with
      | zero =>
        obtain rfl : k = 97 := by omega
        have hk9 : decide (((97 : Nat) : Int) < 97) = false := by decide
        obtain ⟨p8, c80, c81, f80, f81⟩ := hP
        unfold rfL at hF
        subst hF
        clear HR
        cases op with
        | true =>
          go_wp2_with fail
          refine bodyPost_ret (v := .tuple #[.agg #[.int .i64 0, .int .i64 0], .int .i64 11]) (by simp only [results, Tryz.results41]; go_simp) rfl ⟨rfl, ?_⟩
          exact belz
        | false =>
          go_wp2_with fail
          refine bodyPost_ret (v := .tuple #[.agg #[.int .i64 0, .int .i64 0], .int .i64 6]) (by simp only [results, Tryz.results41]; go_simp) rfl ⟨rfl, ?_⟩
          exact belz
      | succ m =>
        have hk8 : decide ((k : Int) < 97) = true := decide_eq_true (by omega)
        obtain ⟨p8, c80, c81, f80, f81⟩ := hP
        have hat : -345600000000000 ≤ (d * 86400000) + (k : Int) * 900000 ∧ (d * 86400000) + (k : Int) * 900000 < 345600086400000 := by omega
        have V2 : IntKind.i64.wrap ((k : Int) * 900000) = (k : Int) * 900000 := IntWalk.i64_in _ (by omega)
        have V3 : IntKind.i64.wrap (d * 86400000 + (k : Int) * 900000) = d * 86400000 + (k : Int) * 900000 := IntWalk.i64_in _ (by omega)
        have HW := Lib.hid hW
        have HC1 := Lib.hid (fun (w2 : World) (hb2 : Below wr.heap.size wr w2) => HS.out w1.heap.size w.heap.size (w.heap.size + 1) (d * 86400000 + (k : Int) * 900000) w2 (HW.out.below hb2) (inst_mk hat.1 hat.2))
        unfold rfL at hF
        have hbe' : wa = -1 → d * 86400000 ≤ be ∧ be ≤ (d * 86400000 + (k : Int) * 900000) := by intro h; have := hbe h; omega
        have HBE := Lib.hid hbe'
        have hat1 : (d * 86400000) ≤ (d * 86400000 + (k : Int) * 900000) ∧ (d * 86400000 + (k : Int) * 900000) ≤ (d * 86400000) + ((k + 1 : Nat) : Int) * 900000 := by omega
        have hor := rsS_or lon lat b (d * 86400000 + (k : Int) * 900000) (sg := -1) (by decide)
        clear hW hbe hbe'
        by_cases c0 : rsS lon lat b (-1) (d * 86400000 + (k : Int) * 900000) = 0
        · rw [if_pos c0] at hF
          have HF := Lib.hid hF
          rw [c0] at HC1
          clear hF c0 hor
          go_wp2_with (go_at_call 80; (refine (HC1.out _ (by exact belz)).mono ?_); rintro e w2 ⟨rfl, hb⟩; have hz := hb.size; (try simp only [szA, szS, szD, szN] at hz); (try (refine bcB (n := w.heap.size) hb ?_; intro h_w_0 e_w_0 d_w_0 _ _)); (try (refine bcB (n := w.heap.size + 1) hb ?_; intro h_w_1 e_w_1 d_w_1 _ _)); (try (refine bcB (n := w.heap.size + 1 + 1) hb ?_; intro h_w_2 e_w_2 d_w_2 _ _)); (try (refine bcB (n := w1.heap.size) hb ?_; intro h_w1_0 e_w1_0 d_w1_0 _ _)))
          go_roundg m
          case measure => omega
          case rel => exact ⟨k + 1, true, be, wa, by omega, by go_num, rfl, rfl, rfl, (by intro h; have := HBE.out h; omega), HF.out, HW.out.below (by exact belz), by constructor <;> go_simp, by exact belz⟩
        · rw [if_neg c0] at hF
          have g0 : (rsS lon lat b (-1) (d * 86400000 + (k : Int) * 900000) == 0) = false := by simpa using c0
          by_cases c1 : wa = -1 ∧ rsS lon lat b (-1) (d * 86400000 + (k : Int) * 900000) = 1
          · obtain ⟨rfl, c1⟩ := c1
            rw [if_pos ⟨rfl, c1⟩] at hF
            have HNN := Lib.hid (fun (w2 : World) (hb2 : Below wr.heap.size wr w2) => HN.out w1.heap.size w.heap.size (w.heap.size + 1) be (d * 86400000 + (k : Int) * 900000) w2 (HW.out.below hb2) (by have := (HBE.out rfl).1; omega) (HBE.out rfl).2 hat.2)
            rw [c1] at HC1
            clear g0 c0 hor
            generalize narF (rsS lon lat b (-1)) 120000 62 be (d * 86400000 + (k : Int) * 900000) = N at *
            obtain ⟨n0, n1, ni⟩ := N
            simp only at hF HNN
            cases ni with
            | true =>
              rw [if_pos rfl] at hF
              subst hF
              clear HR
              go_wp2_with (first | (go_at_call 80; (with_reducible refine (HC1.out _ (by exact belz)).mono ?_); rintro e w2 ⟨rfl, hb⟩; have hz := hb.size; (try simp only [szA, szS, szD, szN] at hz); (try (refine bcB (n := w.heap.size) hb ?_; intro h_w_0 e_w_0 d_w_0 _ _)); (try (refine bcB (n := w.heap.size + 1) hb ?_; intro h_w_1 e_w_1 d_w_1 _ _)); (try (refine bcB (n := w.heap.size + 1 + 1) hb ?_; intro h_w_2 e_w_2 d_w_2 _ _)); (try (refine bcB (n := w1.heap.size) hb ?_; intro h_w1_0 e_w1_0 d_w1_0 _ _))) | (go_at_call 82; (with_reducible refine (HNN.out _ (by exact belz)).mono ?_); rintro e w3 ⟨rfl, hb⟩; have hz := hb.size; (try simp only [szA, szS, szD, szN] at hz); (try (refine bcB (n := w.heap.size) hb ?_; intro h_w_0 e_w_0 d_w_0 _ _)); (try (refine bcB (n := w.heap.size + 1) hb ?_; intro h_w_1 e_w_1 d_w_1 _ _)); (try (refine bcB (n := w.heap.size + 1 + 1) hb ?_; intro h_w_2 e_w_2 d_w_2 _ _)); (try (refine bcB (n := w1.heap.size) hb ?_; intro h_w1_0 e_w1_0 d_w1_0 _ _)); (try (refine bcB (n := w2.heap.size) hb ?_; intro h_w2_0 e_w2_0 d_w2_0 _ _))))
              refine bodyPost_ret (v := .tuple #[.agg #[.int .i64 n0, .int .i64 n1], .int .i64 0]) (by simp only [results, Tryz.results41]; go_simp) rfl ⟨rfl, ?_⟩
              exact belz
            | false =>
              rw [if_neg (by decide)] at hF
              subst hF
              clear HR
              go_wp2_with (first | (go_at_call 80; (with_reducible refine (HC1.out _ (by exact belz)).mono ?_); rintro e w2 ⟨rfl, hb⟩; have hz := hb.size; (try simp only [szA, szS, szD, szN] at hz); (try (refine bcB (n := w.heap.size) hb ?_; intro h_w_0 e_w_0 d_w_0 _ _)); (try (refine bcB (n := w.heap.size + 1) hb ?_; intro h_w_1 e_w_1 d_w_1 _ _)); (try (refine bcB (n := w.heap.size + 1 + 1) hb ?_; intro h_w_2 e_w_2 d_w_2 _ _)); (try (refine bcB (n := w1.heap.size) hb ?_; intro h_w1_0 e_w1_0 d_w1_0 _ _))) | (go_at_call 82; (with_reducible refine (HNN.out _ (by exact belz)).mono ?_); rintro e w3 ⟨rfl, hb⟩; have hz := hb.size; (try simp only [szA, szS, szD, szN] at hz); (try (refine bcB (n := w.heap.size) hb ?_; intro h_w_0 e_w_0 d_w_0 _ _)); (try (refine bcB (n := w.heap.size + 1) hb ?_; intro h_w_1 e_w_1 d_w_1 _ _)); (try (refine bcB (n := w.heap.size + 1 + 1) hb ?_; intro h_w_2 e_w_2 d_w_2 _ _)); (try (refine bcB (n := w1.heap.size) hb ?_; intro h_w1_0 e_w1_0 d_w1_0 _ _)); (try (refine bcB (n := w2.heap.size) hb ?_; intro h_w2_0 e_w2_0 d_w2_0 _ _))))
              refine bodyPost_ret (v := .tuple #[.agg #[.int .i64 0, .int .i64 0], .int .i64 11]) (by simp only [results, Tryz.results41]; go_simp) rfl ⟨rfl, ?_⟩
              exact belz
          · rw [if_neg c1] at hF
            have HF := Lib.hid hF
            by_cases c2 : wa = -1
            · have c3 : ¬ rsS lon lat b (-1) (d * 86400000 + (k : Int) * 900000) = 1 := fun h => c1 ⟨c2, h⟩
              subst c2
              have g1 : (rsS lon lat b (-1) (d * 86400000 + (k : Int) * 900000) == 1) = false := by simpa using c3
              clear hF c0 c1 c3 hor
              generalize rsS lon lat b (-1) (d * 86400000 + (k : Int) * 900000) = v at *
              go_wp2_with (go_at_call 80; (refine (HC1.out _ (by exact belz)).mono ?_); rintro e w2 ⟨rfl, hb⟩; have hz := hb.size; (try simp only [szA, szS, szD, szN] at hz); (try (refine bcB (n := w.heap.size) hb ?_; intro h_w_0 e_w_0 d_w_0 _ _)); (try (refine bcB (n := w.heap.size + 1) hb ?_; intro h_w_1 e_w_1 d_w_1 _ _)); (try (refine bcB (n := w.heap.size + 1 + 1) hb ?_; intro h_w_2 e_w_2 d_w_2 _ _)); (try (refine bcB (n := w1.heap.size) hb ?_; intro h_w1_0 e_w1_0 d_w1_0 _ _)))
              go_roundg m
              case measure => omega
              case rel => exact ⟨k + 1, op, (d * 86400000 + (k : Int) * 900000), v, by omega, by go_num, rfl, rfl, rfl, fun _ => hat1, HF.out, HW.out.below (by exact belz), by constructor <;> go_simp, by exact belz⟩
            · have g1 : (wa == -1) = false := by simpa using c2
              clear hF c0 c1 c2 hor
              generalize rsS lon lat b (-1) (d * 86400000 + (k : Int) * 900000) = v at *
              go_wp2_with (go_at_call 80; (refine (HC1.out _ (by exact belz)).mono ?_); rintro e w2 ⟨rfl, hb⟩; have hz := hb.size; (try simp only [szA, szS, szD, szN] at hz); (try (refine bcB (n := w.heap.size) hb ?_; intro h_w_0 e_w_0 d_w_0 _ _)); (try (refine bcB (n := w.heap.size + 1) hb ?_; intro h_w_1 e_w_1 d_w_1 _ _)); (try (refine bcB (n := w.heap.size + 1 + 1) hb ?_; intro h_w_2 e_w_2 d_w_2 _ _)); (try (refine bcB (n := w1.heap.size) hb ?_; intro h_w1_0 e_w1_0 d_w1_0 _ _)))
              go_roundg m
              case measure => omega
              case rel => exact ⟨k + 1, op, (d * 86400000 + (k : Int) * 900000), v, by omega, by go_num, rfl, rfl, rfl, fun _ => hat1, HF.out, HW.out.below (by exact belz), by constructor <;> go_simp, by exact belz⟩
end
section
open Ieee
theorem clip_wide {a b : Int} (h : a ≤ b) : clipH b - clipL a ≤ b - a := by unfold clipH clipL; omega
theorem sine_wide (a : Int) : ((sineHi a : Int) : Rat) - sineLo a ≤ 2 := by
  have h := icast (sine_bd a).w
  push_cast at h
  exact h
theorem look_wide (lat : Int) {h0 h1 d0 d1 : Int} (hh : h0 ≤ h1) (hd : d0 ≤ d1) :
    ((up1 lat h0 h1 d0 d1 - up0 lat h0 h1 d0 d1 : Int) : Rat) ≤ 62832 / 10000 * ((h1 - h0 : Int) : Rat) + 125664 / 10000 * ((d1 - d0 : Int) : Rat) + 18 ∧
    ((ea1 h0 h1 d0 d1 - ea0 h0 h1 d0 d1 : Int) : Rat) ≤ 62832 / 10000 * ((h1 - h0 : Int) : Rat) + 62832 / 10000 * ((d1 - d0 : Int) : Rat) + 7 ∧
    ((no1 lat h0 h1 d0 d1 - no0 lat h0 h1 d0 d1 : Int) : Rat) ≤ 62832 / 10000 * ((h1 - h0 : Int) : Rat) + 125664 / 10000 * ((d1 - d0 : Int) : Rat) + 18 := by
  have sp := lk_sp lat hh hd
  have one : ∀ {l h : Int}, Sp1 l h → rabs (l : Rat) ≤ 1000000000 ∧ rabs (h : Rat) ≤ 1000000000 := by
    intro l h s
    obtain ⟨o, a, b⟩ := s
    exact ⟨rabs_int (B := 1000000000) (by omega) (by omega), rabs_int (B := 1000000000) (by omega) (by omega)⟩
  have v1 : ((sovHi h0 h1 - sovLo h0 h1 : Int) : Rat) ≤ 62832 / 10000 * ((h1 - h0 : Int) : Rat) + 225 / 100 := (over_ok h0 h1 hh).w
  have v2 : ((sovHi d0 d1 - sovLo d0 d1 : Int) : Rat) ≤ 62832 / 10000 * ((d1 - d0 : Int) : Rat) + 225 / 100 := (over_ok d0 d1 hd).w
  have v3 : ((cvH h0 h1 - cvL h0 h1 : Int) : Rat) ≤ 62832 / 10000 * ((covE h0 h1 - covB h0 : Int) : Rat) + 225 / 100 := (over_ok (covB h0) (covE h0 h1) (by unfold covB covE; omega)).w
  have v4 : ((cvH d0 d1 - cvL d0 d1 : Int) : Rat) ≤ 62832 / 10000 * ((covE d0 d1 - covB d0 : Int) : Rat) + 225 / 100 := (over_ok (covB d0) (covE d0 d1) (by unfold covB covE; omega)).w
  have w3 := icast (show covE h0 h1 - covB h0 ≤ h1 - h0 by unfold covB covE; omega)
  have w4 := icast (show covE d0 d1 - covB d0 ≤ d1 - d0 by unfold covB covE; omega)
  have f1 := sine_wide lat
  have f2 : ((cfH lat : Int) : Rat) - cfL lat ≤ 2 := sine_wide _
  have pN : ((lkN1 h0 h1 d0 d1 - lkN0 h0 h1 d0 d1 : Int) : Rat) * 1000000000 ≤ _ := prod_wide sp.cD sp.cH (one sp.cD).1 (one sp.cD).2 (one sp.cH).1 (one sp.cH).2
  have pE : ((lkE1 h0 h1 d0 d1 - lkE0 h0 h1 d0 d1 : Int) : Rat) * 1000000000 ≤ _ := prod_wide sp.cD sp.sH (one sp.cD).1 (one sp.cD).2 (one sp.sH).1 (one sp.sH).2
  have pA : ((lkA1 lat d0 d1 - lkA0 lat d0 d1 : Int) : Rat) * 1000000000 ≤ _ := prod_wide sp.sF sp.sD (one sp.sF).1 (one sp.sF).2 (one sp.sD).1 (one sp.sD).2
  have pB : ((lkB1 lat h0 h1 d0 d1 - lkB0 lat h0 h1 d0 d1 : Int) : Rat) * 1000000000 ≤ _ := prod_wide sp.cF sp.N (one sp.cF).1 (one sp.cF).2 (one sp.N).1 (one sp.N).2
  have pC : ((lkC1 lat d0 d1 - lkC0 lat d0 d1 : Int) : Rat) * 1000000000 ≤ _ := prod_wide sp.cF sp.sD (one sp.cF).1 (one sp.cF).2 (one sp.sD).1 (one sp.sD).2
  have pD : ((lkD1 lat h0 h1 d0 d1 - lkD0 lat h0 h1 d0 d1 : Int) : Rat) * 1000000000 ≤ _ := prod_wide sp.sF sp.N (one sp.sF).1 (one sp.sF).2 (one sp.N).1 (one sp.N).2
  have u := icast (show up1 lat h0 h1 d0 d1 - up0 lat h0 h1 d0 d1 ≤ (lkA1 lat d0 d1 + lkB1 lat h0 h1 d0 d1) - (lkA0 lat d0 d1 + lkB0 lat h0 h1 d0 d1) from clip_wide (by have := sp.A.o; have := sp.B.o; omega))
  have e := icast (show ea1 h0 h1 d0 d1 - ea0 h0 h1 d0 d1 ≤ -lkE0 h0 h1 d0 d1 - -lkE1 h0 h1 d0 d1 from clip_wide (by have := sp.E.o; omega))
  have n := icast (show no1 lat h0 h1 d0 d1 - no0 lat h0 h1 d0 d1 ≤ (lkC1 lat d0 d1 - lkD0 lat h0 h1 d0 d1) - (lkC0 lat d0 d1 - lkD1 lat h0 h1 d0 d1) from clip_wide (by have := sp.Cc.o; have := sp.D.o; omega))
  push_cast at u e n v1 v2 v3 v4 w3 w4 pN pE pA pB pC pD
  push_cast
  clear sp one
  refine ⟨?_, ?_, ?_⟩
  · clear pC pD pE e n; grind
  · clear pA pB pC pD pN u n; grind
  · clear pA pB pE u e; grind
/-- The reference's height of the sun, without remainders. -/
def smZ (t : Int) : Int := (sunW t + 250 * 0 * 1048576) % 1048576000000000
def upS (lon lat t : Int) : Int := abUp (refSid lon t) lat (dirX (smZ t) 0) (dirY (smZ t) 0) (dirZ (smZ t) 0)
theorem smZ_ok (t : Int) : SLon t (smZ t) := ⟨0, by decide, by decide, rfl⟩
theorem su_wide (lon lat t : Int) : suU1 lon lat t - suU0 lon lat t ≤ 138300 := by
  obtain ⟨r, -⟩ := sun_all t
  have ok := sid_ok lon t
  have r3 := r.ra3
  have d3 := r.de3
  have o := ok.o
  have w := ok.w
  have hh : lkH0 lon t (sraHi t) ≤ lkH1 lon t (sraLo t) := by have := r.ra2; unfold lkH0 lkH1; omega
  have h := (look_wide lat hh r.de1).1
  have a := icast (show lkH1 lon t (sraLo t) - lkH0 lon t (sraHi t) ≤ 10001 by unfold lkH0 lkH1; omega)
  have b := icast d3
  have c1 : ((10001 : Int) : Rat) = 10001 := rfl
  have c2 : ((6000 : Int) : Rat) = 6000 := rfl
  rw [c1] at a
  rw [c2] at b
  have : ((suU1 lon lat t - suU0 lon lat t : Int) : Rat) ≤ ((138300 : Int) : Rat) := by
    have c3 : ((138300 : Int) : Rat) = 138300 := rfl
    rw [c3]
    unfold suU0 suU1
    grind
  exact Rat.intCast_le_intCast.1 this
/-- A height decided by the reference's number. -/
theorem su_up {lon lat t n : Int} (h : fu (n + 138400) ≤ upS lon lat t) : n < suU0 lon lat t := by
  have k := look_above (sun_look lon lat (smZ_ok t)) (n + 138399)
  have w := su_wide lon lat t
  have k2 := k.2
  have e : upS lon lat t = abUp (refSid lon t) lat (dirX (smZ t) 0) (dirY (smZ t) 0) (dirZ (smZ t) 0) := rfl
  by_cases q : n < suU0 lon lat t
  · exact q
  · exfalso
    have := k2 (by unfold suU0 suU1 at *; omega)
    have f : fu (n + 138399) ≤ fu (n + 138400) := by
      have a := rabs_le.1 (fu_near (n + 138399))
      have b := rabs_le.1 (fu_near (n + 138400))
      have hu : uQ = 1152921504606846976 := by decide +kernel
      rw [hu] at a b
      push_cast at a b
      refine Rat.intCast_le_intCast.1 ?_
      grind
    omega
theorem su_dn {lon lat t n : Int} (h : upS lon lat t ≤ fu (n - 138400)) : suU1 lon lat t < n := by
  have k := look_above (sun_look lon lat (smZ_ok t)) (n - 138399)
  have w := su_wide lon lat t
  have k1 := k.1
  have e : upS lon lat t = abUp (refSid lon t) lat (dirX (smZ t) 0) (dirY (smZ t) 0) (dirZ (smZ t) 0) := rfl
  by_cases q : suU1 lon lat t < n
  · exact q
  · exfalso
    have := k1 (by unfold suU0 suU1 at *; omega)
    have f : fu (n - 138400) ≤ fu (n - 138399) := by
      have a := rabs_le.1 (fu_near (n - 138399))
      have b := rabs_le.1 (fu_near (n - 138400))
      have hu : uQ = 1152921504606846976 := by decide +kernel
      rw [hu] at a b
      push_cast at a b
      refine Rat.intCast_le_intCast.1 ?_
      grind
    omega
theorem rs_up {lon lat t : Int} (h : fu (-14405500) ≤ upS lon lat t) : rsV lon lat t 0 = 1 := by
  have := su_up (n := -14543900) (lon := lon) (lat := lat) (t := t) (by rw [show (-14543900 : Int) + 138400 = -14405500 by decide]; exact h)
  unfold rsV abvN
  rw [if_pos rfl, if_pos this]
theorem rs_dn {lon lat t : Int} (h : upS lon lat t ≤ fu (-14682300)) : rsV lon lat t 0 = -1 := by
  have := su_dn (n := -14543900) (lon := lon) (lat := lat) (t := t) (by rw [show (-14543900 : Int) - 138400 = -14682300 by decide]; exact h)
  obtain ⟨r, -⟩ := sun_all t
  have hh : lkH0 lon t (sraHi t) ≤ lkH1 lon t (sraLo t) := by have := r.ra2; have := (sid_ok lon t).o; unfold lkH0 lkH1; omega
  have o := (lk_sp lat hh r.de1).U.o
  have o2 : suU0 lon lat t ≤ suU1 lon lat t := o
  unfold rsV abvN
  rw [if_pos rfl, if_neg (by omega), if_pos this]
theorem rfL_low (s : Int → Int) (base : Int) : ∀ (j n k : Nat) (op : Bool), (∀ i : Nat, i < j → s (base + ((k + i : Nat) : Int) * 900000) = -1) → rfL s base (n + j) (k : Int) op (base + ((k : Int) - 1) * 900000) (-1) = rfL s base n ((k + j : Nat) : Int) op (base + (((k + j : Nat) : Int) - 1) * 900000) (-1)
  | 0, n, k, op, _ => rfl
  | j + 1, n, k, op, h => by
    have h0 := h 0 (by omega)
    rw [show k + 0 = k from rfl] at h0
    have ih := rfL_low s base j n (k + 1) op (fun i hi => by have := h (i + 1) (by omega); rw [show k + 1 + i = k + (i + 1) by omega]; exact this)
    rw [show k + (j + 1) = k + 1 + j by omega, ← ih]
    rw [show n + (j + 1) = n + j + 1 by omega]
    conv => lhs; unfold rfL
    rw [h0, if_neg (by decide), if_neg (by decide)]
    rw [show ((k + 1 : Nat) : Int) = (k : Int) + 1 by omega, show (k : Int) + 1 - 1 = k by omega]
theorem fx_low : (List.range 33).all (fun k => decide (upS 0 143000000 (63082368000000 + (k : Int) * 900000) ≤ fu (-14682300))) = true := by decide +kernel
theorem fx_33 : fu (-14405500) ≤ upS 0 143000000 63082397700000 := by decide +kernel
theorem fx_a : fu (-14405500) ≤ upS 0 143000000 63082397250000 := by decide +kernel
theorem fx_b : upS 0 143000000 63082397025000 ≤ fu (-14682300) := by decide +kernel
theorem fx_c : suU1 0 143000000 63082397137500 < -14543900 := by decide +kernel
theorem fx_n : fu (-14405500) ≤ upS 0 143000000 63082411200000 := by decide +kernel
theorem rs_noon : rsV 0 143000000 63082411200000 0 = 1 := rs_up fx_n
theorem rs_one (t : Int) : rsS 0 143000000 0 1 t = rsV 0 143000000 t 0 := by unfold rsS; omega
theorem rf_fix : rfR 0 143000000 730120 0 1 = ⟨63082397137500, 63082397250000, 0⟩ := by
  have hl : ∀ k : Nat, k < 33 → rsS 0 143000000 0 1 (63082368000000 + (k : Int) * 900000) = -1 := by
    intro k hk
    rw [rs_one]
    exact rs_dn (of_decide_eq_true (List.all_eq_true.1 fx_low k (List.mem_range.2 hk)))
  have h33 : rsS 0 143000000 0 1 63082397700000 = 1 := by rw [rs_one]; exact rs_up fx_33
  have ha : rsS 0 143000000 0 1 63082397250000 = 1 := by rw [rs_one]; exact rs_up fx_a
  have hb : rsS 0 143000000 0 1 63082397025000 = -1 := by rw [rs_one]; exact rs_dn fx_b
  have hc : rsS 0 143000000 0 1 63082397137500 = -1 := by
    rw [rs_one]
    have := fx_c
    obtain ⟨r, -⟩ := sun_all 63082397137500
    have hh : lkH0 0 63082397137500 (sraHi 63082397137500) ≤ lkH1 0 63082397137500 (sraLo 63082397137500) := by have := r.ra2; have := (sid_ok 0 63082397137500).o; unfold lkH0 lkH1; omega
    have o := (lk_sp 143000000 hh r.de1).U.o
    have o2 : suU0 0 143000000 63082397137500 ≤ suU1 0 143000000 63082397137500 := o
    unfold rsV abvN
    rw [if_pos rfl, if_neg (by omega), if_pos this]
  unfold rfR
  rw [show (730120 : Int) * 86400000 = 63082368000000 by decide]
  generalize rsS 0 143000000 0 1 = s at *
  have h0 := hl 0 (by decide)
  rw [show (63082368000000 : Int) + ((0 : Nat) : Int) * 900000 = 63082368000000 by decide] at h0
  have e1 : rfL s 63082368000000 97 0 false 0 0 = rfL s 63082368000000 (64 + 32) ((1 : Nat) : Int) false (63082368000000 + (((1 : Nat) : Int) - 1) * 900000) (-1) := by
    conv => lhs; unfold rfL
    rw [show (63082368000000 : Int) + 0 * 900000 = 63082368000000 by decide, h0, if_neg (by decide), if_neg (by decide)]
    rfl
  rw [e1, rfL_low s 63082368000000 32 64 1 false (fun i hi => hl (1 + i) (by omega))]
  unfold rfL
  rw [show (63082368000000 : Int) + ((1 + 32 : Nat) : Int) * 900000 = 63082397700000 by decide, show (63082368000000 : Int) + (((1 + 32 : Nat) : Int) - 1) * 900000 = 63082396800000 by decide, h33, if_neg (by decide), if_pos ⟨rfl, rfl⟩]
  have en : narF s 120000 62 63082396800000 63082397700000 = ⟨63082397137500, 63082397250000, true⟩ := by
    unfold narF
    rw [if_pos (by decide), show (63082396800000 : Int) + (63082397700000 - 63082396800000) / 2 = 63082397250000 by decide, ha, if_neg (by decide), if_pos rfl]
    unfold narF
    rw [if_pos (by decide), show (63082396800000 : Int) + (63082397250000 - 63082396800000) / 2 = 63082397025000 by decide, hb, if_pos rfl]
    unfold narF
    rw [if_pos (by decide), show (63082397025000 : Int) + (63082397250000 - 63082397025000) / 2 = 63082397137500 by decide, hc, if_pos rfl]
    unfold narF
    rw [if_neg (by decide)]
  rw [en, if_pos rfl]
end
section
open Go.RowKit
def fdR (lon lat d b : Int) (r : Bool) : RfR := if rsE lon lat b ≠ 0 then ⟨0, 0, rsE lon lat b⟩ else if d < -4000000 ∨ 4000000 ≤ d then ⟨0, 0, 3⟩ else rfR lon lat d b (sgn r)
theorem c_FindA (lon lat d b : Int) (r : Bool) (w : World) (hT : Tab w) (hL : LTab w) :
    Calls Tryz.prog 41 #[.agg #[.int .i64 lon, .int .i64 lat], .int .i64 d, .int .i64 b, .bool r] w fun e w' => e = .returned (.tuple #[.agg #[.int .i64 (fdR lon lat d b r).lo, .int .i64 (fdR lon lat d b r).hi], .int .i64 (fdR lon lat d b r).er]) ∧ Below w.heap.size w w' := by
  by_cases h : rsE lon lat b = 0
  · by_cases hd : d < -4000000 ∨ 4000000 ≤ d
    · have e : fdR lon lat d b r = ⟨0, 0, 3⟩ := by unfold fdR; rw [if_neg (by simp [h]), if_pos hd]
      rw [e]; exact c_Find_rng lon lat d b r w h hd
    · have e : fdR lon lat d b r = rfR lon lat d b (sgn r) := by unfold fdR; rw [if_neg (by simp [h]), if_neg hd]
      rw [e]; exact c_FindS lon lat d b (sgn r) r w (by cases r <;> simp [sgn]) hT hL h (by omega) (by omega)
  · have e : fdR lon lat d b r = ⟨0, 0, rsE lon lat b⟩ := by unfold fdR; rw [if_pos h]
    rw [e]; exact c_Find_bad lon lat d b r w h
/-- What is known of a search's answer. -/
structure RfOk (s : Int → Int) (lo hi : Int) (R : RfR) : Prop where
  e : R.er = 0 ∨ (R.er = 11 ∧ R.lo = 0 ∧ R.hi = 0) ∨ (R.er = 6 ∧ R.lo = 0 ∧ R.hi = 0)
  f : R.er = 0 → lo ≤ R.lo ∧ R.lo < R.hi ∧ R.hi ≤ hi ∧ R.hi - R.lo ≤ 120000 ∧ s R.lo = -1 ∧ s R.hi = 1
theorem rfL_ok (s : Int → Int) (base : Int) (hs : ∀ t, s t = 1 ∨ s t = -1 ∨ s t = 0) : ∀ (n k : Nat) (op : Bool) (be wa : Int), n + k ≤ 97 → (wa = -1 → base ≤ be ∧ be < base + k * 900000 ∧ s be = -1) → RfOk s base (base + 86400000) (rfL s base n k op be wa)
  | 0, k, op, be, wa, _, _ => by
    unfold rfL
    cases op
    · exact ⟨.inr (.inr ⟨rfl, rfl, rfl⟩), fun h => by cases h⟩
    · exact ⟨.inr (.inl ⟨rfl, rfl, rfl⟩), fun h => by cases h⟩
  | n + 1, k, op, be, wa, hk, hb => by
    unfold rfL
    by_cases c0 : s (base + k * 900000) = 0
    · rw [if_pos c0]
      have := rfL_ok s base hs n (k + 1) true be wa (by omega) (fun h => by have := hb h; exact ⟨this.1, by omega, this.2.2⟩)
      rw [show ((k + 1 : Nat) : Int) = (k : Int) + 1 by omega] at this
      exact this
    · rw [if_neg c0]
      by_cases c1 : wa = -1 ∧ s (base + k * 900000) = 1
      · rw [if_pos c1]
        obtain ⟨b1, b2, b3⟩ := hb c1.1
        have hn := (narF_all (s := s) (width := 120000) (by decide) 62 be (base + k * 900000) (by omega) (by rw [show (2 : Int) ^ 62 = 4611686018427387904 from rfl]; omega) (by rw [show (2 : Int) ^ 62 = 4611686018427387904 from rfl]; omega) b3 c1.2).1
        generalize narF s 120000 62 be (base + k * 900000) = N at *
        by_cases ci : N.is = true
        · rw [if_pos ci]
          have a := hn.a
          have b := hn.b
          have c := hn.c
          exact ⟨.inl rfl, fun _ => ⟨by show base ≤ N.lo; omega, b, by show N.hi ≤ _; omega, hn.w ci, hn.m, hn.p⟩⟩
        · rw [if_neg ci]
          exact ⟨.inr (.inl ⟨rfl, rfl, rfl⟩), fun h => by cases h⟩
      · rw [if_neg c1]
        have := rfL_ok s base hs n (k + 1) op (base + k * 900000) (s (base + k * 900000)) (by omega) (fun h => ⟨by omega, by omega, h⟩)
        rw [show ((k + 1 : Nat) : Int) = (k : Int) + 1 by omega] at this
        exact this
theorem rfR_ok (lon lat d b : Int) {sg : Int} (hs : sg = 1 ∨ sg = -1) : RfOk (rsS lon lat b sg) (d * 86400000) (d * 86400000 + 86400000) (rfR lon lat d b sg) :=
  rfL_ok (rsS lon lat b sg) (d * 86400000) (fun t => rsS_or lon lat b t hs) 97 0 false 0 0 (by decide) (fun h => by cases h)
theorem fdR_bd (lon lat d b : Int) (r : Bool) : -400000000000000 ≤ (fdR lon lat d b r).lo ∧ (fdR lon lat d b r).lo ≤ (fdR lon lat d b r).hi ∧ (fdR lon lat d b r).hi ≤ 400000000000000 ∧ ((fdR lon lat d b r).er ≠ 0 → (fdR lon lat d b r).lo = 0 ∧ (fdR lon lat d b r).hi = 0) := by
  unfold fdR
  by_cases h : rsE lon lat b ≠ 0
  · rw [if_pos h]; exact ⟨(show (-400000000000000 : Int) ≤ 0 by decide), (show (0 : Int) ≤ 0 by decide), (show (0 : Int) ≤ 400000000000000 by decide), fun _ => ⟨rfl, rfl⟩⟩
  · rw [if_neg h]
    by_cases hd : d < -4000000 ∨ 4000000 ≤ d
    · rw [if_pos hd]; exact ⟨by decide, by decide, by decide, fun _ => ⟨rfl, rfl⟩⟩
    · rw [if_neg hd]
      obtain ⟨e, f⟩ := rfR_ok lon lat d b (sgn_or r)
      generalize rfR lon lat d b (sgn r) = R at *
      rcases e with e | ⟨e, e1, e2⟩ | ⟨e, e1, e2⟩
      · obtain ⟨f1, f2, f3, -, -, -⟩ := f e
        exact ⟨by omega, by omega, by omega, fun h => absurd e h⟩
      · exact ⟨by omega, by omega, by omega, fun _ => ⟨e1, e2⟩⟩
      · exact ⟨by omega, by omega, by omega, fun _ => ⟨e1, e2⟩⟩
/-- What Length answers. -/
def lenR (a b : RfR) : RfR := if a.er ≠ 0 then ⟨0, 0, a.er⟩ else if b.er ≠ 0 then ⟨0, 0, b.er⟩ else if b.lo ≤ a.hi then ⟨0, 0, 6⟩ else ⟨b.lo - a.hi, b.hi - a.lo, 0⟩
end
end Go.Proofs.YtcgnhnmigmdalaaGreatDoor
