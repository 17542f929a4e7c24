/- The contract of crescent.Seen. -/
import Derived.Test.YtmjdcabniefifaaGreatDoorWalkCr
import Derived.Deep.RegionHeld3
set_option linter.unusedVariables false
set_option linter.unusedSimpArgs false
namespace Go.Proofs.YtmjdcabniefifaaGreatDoor
open Go.RowKit
theorem fdR_in {lon lat d b : Int} {r : Bool} (h : (fdR lon lat d b r).er = 0) : plB lon lat = true ∧ instB (fdR lon lat d b r).lo = true ∧ instB (fdR lon lat d b r).hi = true := by
  unfold fdR at *
  by_cases h1 : rsE lon lat b ≠ 0
  · rw [if_pos h1] at h; exact absurd h h1
  · rw [if_neg h1] at h ⊢
    have hp := (rsE_ok (Decidable.not_not.1 h1)).1
    by_cases hd : d < -4000000 ∨ 4000000 ≤ d
    · rw [if_pos hd] at h; cases h
    · rw [if_neg hd] at h ⊢
      obtain ⟨-, f⟩ := rfR_ok lon lat d b (sgn_or r)
      obtain ⟨f1, f2, f3, -, -, -⟩ := f h
      exact ⟨hp, inst_mk (by omega) (by omega), inst_mk (by omega) (by omega)⟩
/-- What Seen answers, from the setting of the sun and the sides at its ends. -/
def snN (er a b : Int) : Int × Int := if er ≠ 0 then (0, er) else if a = 1 ∧ b = 1 then (1, 0) else if a = -1 ∧ b = -1 then (0, 0) else (0, 11)
def snR (lon lat d : Int) : Int × Int := snN (fdR lon lat d 0 false).er (crV lon lat (fdR lon lat d 0 false).lo) (crV lon lat (fdR lon lat d 0 false).hi)
set_option maxHeartbeats 4000000 in
theorem c_Seen (lon lat d : Int) (w : World) (hT : Tab w) (hL : LTab w) :
    Calls Tryz.prog 34 #[.agg #[.int .i64 lon, .int .i64 lat], .int .i64 d] w fun e w' => e = .returned (.tuple #[.int .i64 (snR lon lat d).1, .int .i64 (snR lon lat d).2]) ∧ Below w.heap.size w w' := by
  have HF := Lib.hid (fun w1 h1 h2 => c_FindA lon lat d 0 false w1 h1 h2)
  have hin := fdR_in (lon := lon) (lat := lat) (d := d) (b := 0) (r := false)
  have HSA : Hid ((fdR lon lat d 0 false).er = 0 → ∀ w1, Tab w1 → _) := Lib.hid (fun h w1 h1 => c_crSide lon lat (fdR lon lat d 0 false).lo w1 h1 (hin h).1 (hin h).2.1)
  have HSB : Hid ((fdR lon lat d 0 false).er = 0 → ∀ w1, Tab w1 → _) := Lib.hid (fun h w1 h1 => c_crSide lon lat (fdR lon lat d 0 false).hi w1 h1 (hin h).1 (hin h).2.2)
  have e : snR lon lat d = snN (fdR lon lat d 0 false).er (crV lon lat (fdR lon lat d 0 false).lo) (crV lon lat (fdR lon lat d 0 false).hi) := rfl
  rw [e]
  have oa := crV_or lon lat (fdR lon lat d 0 false).lo
  have ob := crV_or lon lat (fdR lon lat d 0 false).hi
  have HT := Lib.hid hT
  have HLT := Lib.hid hL
  clear hT hL hin e
  generalize crV lon lat (fdR lon lat d 0 false).lo = a at *
  generalize crV lon lat (fdR lon lat d 0 false).hi = b at *
  generalize fdR lon lat d 0 false = R at *
  obtain ⟨r0, r1, er⟩ := R
  simp only at *
  by_cases c : er = 0
  · subst c
    have HA := Lib.hid (HSA.out rfl)
    have HB := Lib.hid (HSB.out rfl)
    clear HSA HSB
    rcases oa with rfl | rfl | rfl <;> rcases ob with rfl | rfl | rfl
    all_goals
      first
        | rw [show snN 0 1 1 = (1, 0) by decide]
        | rw [show snN 0 (-1) (-1) = (0, 0) by decide]
        | rw [show snN 0 1 (-1) = (0, 11) by decide]
        | rw [show snN 0 1 0 = (0, 11) by decide]
        | rw [show snN 0 (-1) 1 = (0, 11) by decide]
        | rw [show snN 0 (-1) 0 = (0, 11) by decide]
        | rw [show snN 0 0 1 = (0, 11) by decide]
        | rw [show snN 0 0 (-1) = (0, 11) by decide]
        | rw [show snN 0 0 0 = (0, 11) by decide]
    all_goals
      have hgen := sgen; have hgen2 := sgen2; have hgen3 := sgen3; go_enter Tryz.func34, Tryz.ntmps34
      go_upto_region 4 with (go_at_call 31; (with_reducible refine (HF.out _ (HT.out.below (by exact belz)) (HLT.out.below (by exact belz))).mono ?_); rintro e w1 ⟨rfl, hb⟩; have hz := hb.size; (try simp only [szA, szS, szD, szN] at hz); (try (refine bcB (n := w.heap.size) hb ?_; intro h_w_0 e_w_0 d_w_0 _ _)))
      go_region_held3 (fun w' => w'.cell? ⟨w.heap.size, 0, none⟩ = some (.int .i64 lon) ∧ w'.cell? ⟨w.heap.size, 1, none⟩ = some (.int .i64 lat) ∧ w'.cell? ⟨w1.heap.size, 0, none⟩ = some (.int .i64 r0) ∧ w'.cell? ⟨w1.heap.size, 1, none⟩ = some (.int .i64 r1)) (refine ⟨?_, ?_, ?_, ?_⟩ <;> (first | (go_simp; done) | go_keep)) (first | (go_at_call 67; (with_reducible refine (HA.out _ (HT.out.below (by exact belz))).mono ?_); rintro e w2 ⟨rfl, hb⟩; have hz := hb.size; (try simp only [szA, szS, szD, szN] at hz); (try (refine bcB (n := w.heap.size) hb ?_; intro h_w_0 e_w_0 d_w_0 _ _)); (try (refine bcB (n := w1.heap.size) hb ?_; intro h_w1_0 e_w1_0 d_w1_0 _ _))) | (go_at_call 67; (with_reducible refine (HB.out _ (HT.out.below (by exact belz))).mono ?_); rintro e w3 ⟨rfl, hb⟩; have hz := hb.size; (try simp only [szA, szS, szD, szN] at hz); (try (refine bcB (n := w.heap.size) hb ?_; intro h_w_0 e_w_0 d_w_0 _ _)); (try (refine bcB (n := w1.heap.size) hb ?_; intro h_w1_0 e_w1_0 d_w1_0 _ _)); (try (refine bcB (n := w2.heap.size) hb ?_; intro h_w2_0 e_w2_0 d_w2_0 _ _))))
      all_goals go_wp2
    all_goals first | refine bodyPost_ret (v := .tuple #[.int .i64 1, .int .i64 0]) (by simp only [results, Tryz.results34]; go_simp) rfl ⟨rfl, ?_⟩ | refine bodyPost_ret (v := .tuple #[.int .i64 0, .int .i64 0]) (by simp only [results, Tryz.results34]; go_simp) rfl ⟨rfl, ?_⟩ | refine bodyPost_ret (v := .tuple #[.int .i64 0, .int .i64 11]) (by simp only [results, Tryz.results34]; go_simp) rfl ⟨rfl, ?_⟩
    all_goals exact belz
  · rw [show snN er a b = (0, er) by unfold snN; rw [if_pos c]]
    have C : (er == 0) = false := by simpa using c
    clear HSA HSB oa ob c
    have hgen := sgen; have hgen2 := sgen2; have hgen3 := sgen3; go_enter Tryz.func34, Tryz.ntmps34
    go_wp2_with (go_at_call 31; (with_reducible refine (HF.out _ (HT.out.below (by exact belz)) (HLT.out.below (by exact belz))).mono ?_); rintro e w1 ⟨rfl, hb⟩; have hz := hb.size; (try simp only [szA, szS, szD, szN] at hz); (try (refine bcB (n := w.heap.size) hb ?_; intro h_w_0 e_w_0 d_w_0 _ _)))
    refine bodyPost_ret (v := .tuple #[.int .i64 0, .int .i64 er]) (by simp only [results, Tryz.results34]; go_simp) rfl ⟨rfl, ?_⟩
    exact belz
end Go.Proofs.YtmjdcabniefifaaGreatDoor
