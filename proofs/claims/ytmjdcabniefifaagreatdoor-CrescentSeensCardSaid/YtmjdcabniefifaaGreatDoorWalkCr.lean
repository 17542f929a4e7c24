/- Contracts of crescent.side, seen and Seen. -/
import Derived.Test.YtmjdcabniefifaaGreatDoorRsA
set_option linter.unusedVariables false
set_option linter.unusedSimpArgs false
namespace Go.Proofs.YtmjdcabniefifaaGreatDoor
open Go.RowKit
def crN (a b u v : Int) : Int := if 27777778 < a ∧ b < 250000000 ∧ 87155743 < u then 1 else if b < 27777778 ∨ (250000000 < a ∧ b < 1000000000) ∨ v < 87155743 then -1 else 0
def crV (lon lat t : Int) : Int := crN (elLo t) (elHi t) (moU0 lon lat t) (moU1 lon lat t)
theorem el_ord (t : Int) : elLo t ≤ elHi t := by
  obtain ⟨-, -, -, -, -, -, p6⟩ := moon_facts t
  obtain ⟨-, -, -, -, -, -, q6⟩ := sun_facts t
  unfold elHi; omega
theorem crV_or (lon lat t : Int) : crV lon lat t = 1 ∨ crV lon lat t = -1 ∨ crV lon lat t = 0 := by
  unfold crV crN; split
  · exact .inl rfl
  · split
    · exact .inr (.inl rfl)
    · exact .inr (.inr rfl)
set_option maxRecDepth 100000 in
set_option maxHeartbeats 8000000 in
theorem c_crSide (lon lat t : Int) (w : World) (hT : Tab w) (hp : plB lon lat = true) (ht : instB t = true) :
    Calls Tryz.prog 67 #[.agg #[.int .i64 lon, .int .i64 lat], .int .i64 t] w fun e w' => e = .returned (.int .i64 (crV lon lat t)) ∧ Below w.heap.size w w' := by
  have HE := Lib.hid (fun w1 h => c_Elongation t w1 h ht)
  have HM := Lib.hid (fun w1 h => c_moonAt t w1 h ht)
  have HH := Lib.hid (fun w1 h => moon_height hp ht w1 h)
  have HT := Lib.hid hT
  have eb := el_ord t
  have hv : crV lon lat t = crN (elLo t) (elHi t) (moU0 lon lat t) (moU1 lon lat t) := rfl
  rw [hv]
  clear hT hp ht hv
  generalize elLo t = a at *
  generalize elHi t = b at *
  generalize moU0 lon lat t = u at *
  generalize moU1 lon lat t = v at *
  generalize mraLo t = r0 at *
  generalize mraHi t = r1 at *
  generalize mdeLo t = d0 at *
  generalize mdeHi t = d1 at *
  have hA : (27777778 < a ∧ b < 250000000 ∧ 87155743 < u) ∨ (27777778 < a ∧ b < 250000000 ∧ ¬ 87155743 < u) ∨ (27777778 < a ∧ ¬ b < 250000000) ∨ ¬ 27777778 < a := by omega
  have hB : b < 27777778 ∨ (¬ b < 27777778 ∧ ¬ 250000000 < a ∧ v < 87155743) ∨ (¬ b < 27777778 ∧ ¬ 250000000 < a ∧ ¬ v < 87155743) ∨ (¬ b < 27777778 ∧ 250000000 < a ∧ b < 1000000000) ∨ (¬ b < 27777778 ∧ 250000000 < a ∧ ¬ b < 1000000000 ∧ v < 87155743) ∨ (¬ b < 27777778 ∧ 250000000 < a ∧ ¬ b < 1000000000 ∧ ¬ v < 87155743) := by omega
  rcases hA with ⟨A1, A2, A3⟩ | ⟨A1, A2, A3⟩ | ⟨A1, A2⟩ | A1
  rotate_left
  all_goals (first | (have hstop := A3; have hs2 : 87155743 < u := A3; skip) | (rcases hB with B1 | ⟨B1, B2, B4⟩ | ⟨B1, B2, B4⟩ | ⟨B1, B2, B3⟩ | ⟨B1, B2, B3, B4⟩ | ⟨B1, B2, B3, B4⟩))
  all_goals (first | (exfalso; omega) | skip)
  all_goals (first | rw [show crN a b u v = 1 by unfold crN; exact if_pos (by omega)] | rw [show crN a b u v = -1 by unfold crN; rw [if_neg (by omega), if_pos (by omega)]] | rw [show crN a b u v = 0 by unfold crN; rw [if_neg (by omega), if_neg (by omega)]])
  all_goals (first | have A1 := decide_eq_false A1 | have A1 := decide_eq_true A1 | skip)
  all_goals (first | have A2 := decide_eq_false A2 | have A2 := decide_eq_true A2 | skip)
  all_goals (first | have A3 := decide_eq_false A3 | have A3 := decide_eq_true A3 | skip)
  all_goals (first | have B1 := decide_eq_false B1 | have B1 := decide_eq_true B1 | skip)
  all_goals (first | have B2 := decide_eq_false B2 | have B2 := decide_eq_true B2 | skip)
  all_goals (first | have B3 := decide_eq_false B3 | have B3 := decide_eq_true B3 | skip)
  all_goals (first | have B4 := decide_eq_false B4 | have B4 := decide_eq_true B4 | skip)
  all_goals
    have hgen := sgen; have hgen2 := sgen2; have hgen3 := sgen3; go_enter Tryz.func67, Tryz.ntmps67
    go_wp2_with (first | (go_at_call 68; (with_reducible refine (HE.out _ (HT.out.below (by exact belz))).mono ?_); rintro e w1 ⟨rfl, hb⟩; have hz := hb.size; (try simp only [szA, szS, szD, szN] at hz); (try (refine bcB (n := w.heap.size) hb ?_; intro h_w_0 e_w_0 d_w_0 _ _))) | (go_at_call 15; (with_reducible refine (HM.out _ (HT.out.below (by exact belz))).mono ?_); rintro e w2 ⟨rfl, hb⟩; have hz := hb.size; (try simp only [szA, szS, szD, szN] at hz); (try (refine bcB (n := w.heap.size) hb ?_; intro h_w_0 e_w_0 d_w_0 _ _)); (try (refine bcB (n := w1.heap.size) hb ?_; intro h_w1_0 e_w1_0 d_w1_0 _ _))) | (go_at_call 16; (with_reducible refine (HH.out _ (HT.out.below (by exact belz))).mono ?_); rintro e w3 ⟨rfl, hb⟩; have hz := hb.size; (try simp only [szA, szS, szD, szN] at hz); (try (refine bcB (n := w.heap.size) hb ?_; intro h_w_0 e_w_0 d_w_0 _ _)); (try (refine bcB (n := w1.heap.size) hb ?_; intro h_w1_0 e_w1_0 d_w1_0 _ _)); (try (refine bcB (n := w2.heap.size) hb ?_; intro h_w2_0 e_w2_0 d_w2_0 _ _)); (try (refine bcB (n := w2.heap.size + 1) hb ?_; intro h_w2_1 e_w2_1 d_w2_1 _ _))))
    go_ret
    refine ⟨rfl, ?_⟩
    exact belz
set_option maxRecDepth 100000 in
set_option maxHeartbeats 8000000 in
theorem c_crSeen (lon lat t : Int) (w : World) (hT : Tab w) (hp : plB lon lat = true) (ht : instB t = true) :
    Calls Tryz.prog 35 #[.agg #[.int .i64 lon, .int .i64 lat], .int .i64 t] w fun e w' => e = .returned (.int .i64 (crV lon lat t)) ∧ Below w.heap.size w w' := by
  have HE := Lib.hid (fun w1 h => c_Elongation t w1 h ht)
  have HM := Lib.hid (fun w1 h => c_moonAt t w1 h ht)
  have HH := Lib.hid (fun w1 h => moon_height hp ht w1 h)
  have HT := Lib.hid hT
  have eb := el_ord t
  have hv : crV lon lat t = crN (elLo t) (elHi t) (moU0 lon lat t) (moU1 lon lat t) := rfl
  rw [hv]
  clear hT hp ht hv
  generalize elLo t = a at *
  generalize elHi t = b at *
  generalize moU0 lon lat t = u at *
  generalize moU1 lon lat t = v at *
  generalize mraLo t = r0 at *
  generalize mraHi t = r1 at *
  generalize mdeLo t = d0 at *
  generalize mdeHi t = d1 at *
  have hA : (27777778 < a ∧ b < 250000000 ∧ 87155743 < u) ∨ (27777778 < a ∧ b < 250000000 ∧ ¬ 87155743 < u) ∨ (27777778 < a ∧ ¬ b < 250000000) ∨ ¬ 27777778 < a := by omega
  have hB : b < 27777778 ∨ (¬ b < 27777778 ∧ ¬ 250000000 < a ∧ v < 87155743) ∨ (¬ b < 27777778 ∧ ¬ 250000000 < a ∧ ¬ v < 87155743) ∨ (¬ b < 27777778 ∧ 250000000 < a ∧ b < 1000000000) ∨ (¬ b < 27777778 ∧ 250000000 < a ∧ ¬ b < 1000000000 ∧ v < 87155743) ∨ (¬ b < 27777778 ∧ 250000000 < a ∧ ¬ b < 1000000000 ∧ ¬ v < 87155743) := by omega
  rcases hA with ⟨A1, A2, A3⟩ | ⟨A1, A2, A3⟩ | ⟨A1, A2⟩ | A1
  rotate_left
  all_goals (first | (have hstop := A3; have hs2 : 87155743 < u := A3; skip) | (rcases hB with B1 | ⟨B1, B2, B4⟩ | ⟨B1, B2, B4⟩ | ⟨B1, B2, B3⟩ | ⟨B1, B2, B3, B4⟩ | ⟨B1, B2, B3, B4⟩))
  all_goals (first | (exfalso; omega) | skip)
  all_goals (first | rw [show crN a b u v = 1 by unfold crN; exact if_pos (by omega)] | rw [show crN a b u v = -1 by unfold crN; rw [if_neg (by omega), if_pos (by omega)]] | rw [show crN a b u v = 0 by unfold crN; rw [if_neg (by omega), if_neg (by omega)]])
  all_goals (first | have A1 := decide_eq_false A1 | have A1 := decide_eq_true A1 | skip)
  all_goals (first | have A2 := decide_eq_false A2 | have A2 := decide_eq_true A2 | skip)
  all_goals (first | have A3 := decide_eq_false A3 | have A3 := decide_eq_true A3 | skip)
  all_goals (first | have B1 := decide_eq_false B1 | have B1 := decide_eq_true B1 | skip)
  all_goals (first | have B2 := decide_eq_false B2 | have B2 := decide_eq_true B2 | skip)
  all_goals (first | have B3 := decide_eq_false B3 | have B3 := decide_eq_true B3 | skip)
  all_goals (first | have B4 := decide_eq_false B4 | have B4 := decide_eq_true B4 | skip)
  all_goals
    have hgen := sgen; have hgen2 := sgen2; have hgen3 := sgen3; go_enter Tryz.func35, Tryz.ntmps35
    go_wp2_with (first | (go_at_call 68; (with_reducible refine (HE.out _ (HT.out.below (by exact belz))).mono ?_); rintro e w1 ⟨rfl, hb⟩; have hz := hb.size; (try simp only [szA, szS, szD, szN] at hz); (try (refine bcB (n := w.heap.size) hb ?_; intro h_w_0 e_w_0 d_w_0 _ _))) | (go_at_call 15; (with_reducible refine (HM.out _ (HT.out.below (by exact belz))).mono ?_); rintro e w2 ⟨rfl, hb⟩; have hz := hb.size; (try simp only [szA, szS, szD, szN] at hz); (try (refine bcB (n := w.heap.size) hb ?_; intro h_w_0 e_w_0 d_w_0 _ _)); (try (refine bcB (n := w1.heap.size) hb ?_; intro h_w1_0 e_w1_0 d_w1_0 _ _))) | (go_at_call 16; (with_reducible refine (HH.out _ (HT.out.below (by exact belz))).mono ?_); rintro e w3 ⟨rfl, hb⟩; have hz := hb.size; (try simp only [szA, szS, szD, szN] at hz); (try (refine bcB (n := w.heap.size) hb ?_; intro h_w_0 e_w_0 d_w_0 _ _)); (try (refine bcB (n := w1.heap.size) hb ?_; intro h_w1_0 e_w1_0 d_w1_0 _ _)); (try (refine bcB (n := w2.heap.size) hb ?_; intro h_w2_0 e_w2_0 d_w2_0 _ _)); (try (refine bcB (n := w2.heap.size + 1) hb ?_; intro h_w2_1 e_w2_1 d_w2_1 _ _))))
    go_ret
    refine ⟨rfl, ?_⟩
    exact belz
end Go.Proofs.YtmjdcabniefifaaGreatDoor
