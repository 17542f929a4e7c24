/- Contracts of crescentWorks and crescent.First; the walks through the laws CrescentSeens and CrescentFirsts. -/
import Derived.Test.YtmjdcabniefifaaGreatDoorPlainCr
import Derived.Deep.LoopGhost
import Derived.Deep.DeepCutAuto
set_option linter.unusedVariables false
set_option linter.unusedSimpArgs false
namespace Go.Proofs.YtmjdcabniefifaaGreatDoor
open Go.RowKit
theorem c_crescentWorks (w : World) (hT : Tab w) (hL : LTab w) : Calls Tryz.prog 33 #[] w fun e w' => e = .returned (.bool true) ∧ Below w.heap.size w w' := by
  have ha := fun w1 h1 h2 => c_Seen 0 100000000 730125 w1 h1 h2
  rw [sn_a] at ha
  have HA := Lib.hid ha
  have hb := fun w1 h1 h2 => c_Seen 0 100000000 730129 w1 h1 h2
  rw [sn_b] at hb
  have HB := Lib.hid hb
  have HT := Lib.hid hT
  have HLT := Lib.hid hL
  clear ha hb hT hL
  have hgen := sgen; have hgen2 := sgen2; have hgen3 := sgen3; go_enter Tryz.func33, Tryz.ntmps33
  go_wp2_with (first | (go_at_call 34; (with_reducible refine (HA.out _ (HT.out.below (by exact belz)) (HLT.out.below (by exact belz))).mono ?_); rintro e w1 ⟨rfl, hb⟩; have hz := hb.size; (try simp only [szA, szS, szD, szN] at hz); (try (refine bcB (n := w.heap.size) hb ?_; intro h_w_0 e_w_0 d_w_0 _ _))) | (go_at_call 34; (with_reducible refine (HB.out _ (HT.out.below (by exact belz)) (HLT.out.below (by exact belz))).mono ?_); rintro e w2 ⟨rfl, hb⟩; have hz := hb.size; (try simp only [szA, szS, szD, szN] at hz); (try (refine bcB (n := w.heap.size) hb ?_; intro h_w_0 e_w_0 d_w_0 _ _)); (try (refine bcB (n := w1.heap.size) hb ?_; intro h_w1_0 e_w1_0 d_w1_0 _ _))))
  go_ret
  refine ⟨rfl, ?_⟩
  exact belz
set_option maxHeartbeats 4000000 in
theorem walk_CrescentSeens (lon lat d : Int) (w : World) (hT : Tab w) (hL : LTab w) :
    Calls Tryz.prog 7 #[.agg #[.int .i64 lon, .int .i64 lat], .int .i64 d] w fun e w' => e = .returned (.bool true) ∧ Below w.heap.size w w' := by
  have hs := fun w1 h1 h2 => c_Seen lon lat d w1 h1 h2
  have HF := Lib.hid (fun w1 h1 h2 => c_FindA lon lat d 0 false w1 h1 h2)
  have hin := fdR_in (lon := lon) (lat := lat) (d := d) (b := 0) (r := false)
  have HSA : Hid ((fdR lon lat d 0 false).er = 0 → ∀ w1, Tab w1 → _) := Lib.hid (fun h w1 h1 => c_crSeen lon lat (fdR lon lat d 0 false).lo w1 h1 (hin h).1 (hin h).2.1)
  have HSB : Hid ((fdR lon lat d 0 false).er = 0 → ∀ w1, Tab w1 → _) := Lib.hid (fun h w1 h1 => c_crSeen lon lat (fdR lon lat d 0 false).hi w1 h1 (hin h).1 (hin h).2.2)
  have e : snR lon lat d = snN (fdR lon lat d 0 false).er (crV lon lat (fdR lon lat d 0 false).lo) (crV lon lat (fdR lon lat d 0 false).hi) := rfl
  rw [e] at hs
  have oa := crV_or lon lat (fdR lon lat d 0 false).lo
  have ob := crV_or lon lat (fdR lon lat d 0 false).hi
  have HT := Lib.hid hT
  have HLT := Lib.hid hL
  clear hT hL hin e
  generalize crV lon lat (fdR lon lat d 0 false).lo = a at *
  generalize crV lon lat (fdR lon lat d 0 false).hi = b at *
  generalize fdR lon lat d 0 false = R at *
  obtain ⟨r0, r1, er⟩ := R
  simp only at *
  by_cases c : er = 0
  · subst c
    have HA := Lib.hid (HSA.out rfl)
    have HB := Lib.hid (HSB.out rfl)
    clear HSA HSB
    rcases oa with rfl | rfl | rfl <;> rcases ob with rfl | rfl | rfl
    all_goals
      first
        | rw [show snN 0 1 1 = (1, 0) by decide] at hs
        | rw [show snN 0 (-1) (-1) = (0, 0) by decide] at hs
        | rw [show snN 0 1 (-1) = (0, 11) by decide] at hs
        | rw [show snN 0 1 0 = (0, 11) by decide] at hs
        | rw [show snN 0 (-1) 1 = (0, 11) by decide] at hs
        | rw [show snN 0 (-1) 0 = (0, 11) by decide] at hs
        | rw [show snN 0 0 1 = (0, 11) by decide] at hs
        | rw [show snN 0 0 (-1) = (0, 11) by decide] at hs
        | rw [show snN 0 0 0 = (0, 11) by decide] at hs
    all_goals
      have HS := Lib.hid hs
      clear hs
      have hgen := sgen; have hgen2 := sgen2; have hgen3 := sgen3; go_enter Tryz.func7, Tryz.ntmps7
      go_upto_region 7 with (first | (go_at_call 33; (with_reducible refine (c_crescentWorks _ (HT.out.below (by exact belz)) (HLT.out.below (by exact belz))).mono ?_); rintro e w1 ⟨rfl, hb⟩; have hz := hb.size; (try simp only [szA, szS, szD, szN] at hz); (try (refine bcB (n := w.heap.size) hb ?_; intro h_w_0 e_w_0 d_w_0 _ _))) | (go_at_call 34; (with_reducible refine (HS.out _ (HT.out.below (by exact belz)) (HLT.out.below (by exact belz))).mono ?_); rintro e w2 ⟨rfl, hb⟩; have hz := hb.size; (try simp only [szA, szS, szD, szN] at hz); (try (refine bcB (n := w.heap.size) hb ?_; intro h_w_0 e_w_0 d_w_0 _ _)); (try (refine bcB (n := w1.heap.size) hb ?_; intro h_w1_0 e_w1_0 d_w1_0 _ _))) | (go_at_call 31; (with_reducible refine (HF.out _ (HT.out.below (by exact belz)) (HLT.out.below (by exact belz))).mono ?_); rintro e w3 ⟨rfl, hb⟩; have hz := hb.size; (try simp only [szA, szS, szD, szN] at hz); (try (refine bcB (n := w.heap.size) hb ?_; intro h_w_0 e_w_0 d_w_0 _ _)); (try (refine bcB (n := w1.heap.size) hb ?_; intro h_w1_0 e_w1_0 d_w1_0 _ _)); (try (refine bcB (n := w2.heap.size) hb ?_; intro h_w2_0 e_w2_0 d_w2_0 _ _))))
      go_region_held3 (fun w' => w'.cell? ⟨w.heap.size, 0, none⟩ = some (.int .i64 lon) ∧ w'.cell? ⟨w.heap.size, 1, none⟩ = some (.int .i64 lat) ∧ w'.cell? ⟨w3.heap.size, 0, none⟩ = some (.int .i64 r0) ∧ w'.cell? ⟨w3.heap.size, 1, none⟩ = some (.int .i64 r1)) (refine ⟨?_, ?_, ?_, ?_⟩ <;> (first | (go_simp; done) | go_keep)) (first | (go_at_call 35; (with_reducible refine (HA.out _ (HT.out.below (by exact belz))).mono ?_); rintro e w4 ⟨rfl, hb⟩; have hz := hb.size; (try simp only [szA, szS, szD, szN] at hz); (try (refine bcB (n := w.heap.size) hb ?_; intro h_w_0 e_w_0 d_w_0 _ _)); (try (refine bcB (n := w1.heap.size) hb ?_; intro h_w1_0 e_w1_0 d_w1_0 _ _)); (try (refine bcB (n := w2.heap.size) hb ?_; intro h_w2_0 e_w2_0 d_w2_0 _ _)); (try (refine bcB (n := w3.heap.size) hb ?_; intro h_w3_0 e_w3_0 d_w3_0 _ _))) | (go_at_call 35; (with_reducible refine (HB.out _ (HT.out.below (by exact belz))).mono ?_); rintro e w5 ⟨rfl, hb⟩; have hz := hb.size; (try simp only [szA, szS, szD, szN] at hz); (try (refine bcB (n := w.heap.size) hb ?_; intro h_w_0 e_w_0 d_w_0 _ _)); (try (refine bcB (n := w1.heap.size) hb ?_; intro h_w1_0 e_w1_0 d_w1_0 _ _)); (try (refine bcB (n := w2.heap.size) hb ?_; intro h_w2_0 e_w2_0 d_w2_0 _ _)); (try (refine bcB (n := w3.heap.size) hb ?_; intro h_w3_0 e_w3_0 d_w3_0 _ _)); (try (refine bcB (n := w4.heap.size) hb ?_; intro h_w4_0 e_w4_0 d_w4_0 _ _))))
      all_goals go_wp2
      all_goals go_ret
      all_goals refine ⟨rfl, ?_⟩
      all_goals exact belz
  · rw [show snN er a b = (0, er) by unfold snN; rw [if_pos c]] at hs
    have HS := Lib.hid hs
    have C : (er == 0) = false := by simpa using c
    have C2 : (er != 0) = true := by simpa using c
    clear HSA HSB oa ob c hs
    have hgen := sgen; have hgen2 := sgen2; have hgen3 := sgen3; go_enter Tryz.func7, Tryz.ntmps7
    go_wp2_with (first | (go_at_call 33; (with_reducible refine (c_crescentWorks _ (HT.out.below (by exact belz)) (HLT.out.below (by exact belz))).mono ?_); rintro e w1 ⟨rfl, hb⟩; have hz := hb.size; (try simp only [szA, szS, szD, szN] at hz); (try (refine bcB (n := w.heap.size) hb ?_; intro h_w_0 e_w_0 d_w_0 _ _))) | (go_at_call 34; (with_reducible refine (HS.out _ (HT.out.below (by exact belz)) (HLT.out.below (by exact belz))).mono ?_); rintro e w2 ⟨rfl, hb⟩; have hz := hb.size; (try simp only [szA, szS, szD, szN] at hz); (try (refine bcB (n := w.heap.size) hb ?_; intro h_w_0 e_w_0 d_w_0 _ _)); (try (refine bcB (n := w1.heap.size) hb ?_; intro h_w1_0 e_w1_0 d_w1_0 _ _))) | (go_at_call 31; (with_reducible refine (HF.out _ (HT.out.below (by exact belz)) (HLT.out.below (by exact belz))).mono ?_); rintro e w3 ⟨rfl, hb⟩; have hz := hb.size; (try simp only [szA, szS, szD, szN] at hz); (try (refine bcB (n := w.heap.size) hb ?_; intro h_w_0 e_w_0 d_w_0 _ _)); (try (refine bcB (n := w1.heap.size) hb ?_; intro h_w1_0 e_w1_0 d_w1_0 _ _)); (try (refine bcB (n := w2.heap.size) hb ?_; intro h_w2_0 e_w2_0 d_w2_0 _ _))))
    go_ret
    refine ⟨rfl, ?_⟩
    exact belz
/-- First at any day. -/
theorem c_First (lon lat d : Int) (w : World) (hT : Tab w) (hL : LTab w) (d1 : -9223372036854775808 ≤ d) (d2 : d ≤ 9223372036854775807) :
    Calls Tryz.prog 36 #[.agg #[.int .i64 lon, .int .i64 lat], .int .i64 d] w fun e w' => e = .returned (.tuple #[.int .i64 (fiR lon lat d).1, .int .i64 (fiR lon lat d).2]) ∧ Below w.heap.size w w' := by
  obtain ⟨dd, hdd⟩ : ∃ dd, dd = IntKind.i64.wrap (d - 1) := ⟨_, rfl⟩
  have HS := Lib.hid (fun d w1 h1 h2 => c_Seen lon lat d w1 h1 h2)
  have HSD := Lib.hid (fun w1 h1 h2 => c_Seen lon lat dd w1 h1 h2)
  have HT := Lib.hid hT
  have HLT := Lib.hid hL
  obtain ⟨o1, o2, o3⟩ := sn_ok lon lat dd
  have hf : fiR lon lat d = if (snR lon lat dd).2 ≠ 0 then (0, (snR lon lat dd).2) else fiL (snR lon lat) d 60 0 (snR lon lat dd).1 := by rw [hdd]; rfl
  rw [hf]
  clear hf hT hL
  have hday := fun h => fi_day d1 d2 (by rw [hdd] at o3; exact o3 h)
  have V1 : IntKind.i64.wrap (d - 1) = dd := hdd.symm
  rw [← hdd] at hday
  generalize snR lon lat dd = S at *
  obtain ⟨s1, s2⟩ := S
  simp only at *
  by_cases c : s2 = 0
  · rw [if_neg (by simpa using c)]
    obtain ⟨b1, b2⟩ := hday c
    subst c
    obtain ⟨R, hR⟩ : ∃ R, R = fiL (snR lon lat) d 60 0 s1 := ⟨_, rfl⟩
    rw [← hR]
    have HR := Lib.hid hR
    clear hR o2 o3 hday hdd
    have hgen := sgen; have hgen2 := sgen2; have hgen3 := sgen3; go_enter Tryz.func36, Tryz.ntmps36
    go_wp2_with (go_at_call 34; (with_reducible refine (HSD.out _ (HT.out.below (by exact belz)) (HLT.out.below (by exact belz))).mono ?_); rintro e w1 ⟨rfl, hb⟩; have hz := hb.size; (try simp only [szA, szS, szD, szN] at hz); (try (refine bcB (n := w.heap.size) hb ?_; intro h_w_0 e_w_0 d_w_0 _ _)))
    go_loopg [6, 21] 60 (fun gk xb xn wr => ∃ (k : Nat) (be : Int), gk + k = 60 ∧ xb = .int .i64 be ∧ xn = .int .i64 k ∧ fiL (snR lon lat) d gk k be = R ∧ SpAt wr w.heap.size lon lat ∧ Below w.heap.size w wr)
    case atStart =>
      refine ⟨0, s1, by omega, rfl, rfl, HR.out.symm, ?_, by exact belz⟩
      constructor <;> go_simp
    case round =>
      obtain ⟨k, be, hk, rfl, rfl, hF, hS, hbel⟩ := hrel
      have hsz := hbel.size
      obtain ⟨p8, c80, c81, f80, f81⟩ := hS
      cases gk with
      | zero =>
        obtain rfl : k = 60 := by omega
        have hk9 : decide (((60 : Nat) : Int) < 60) = false := by decide
        unfold fiL at hF
        subst hF
        clear HR
        go_wp2_with fail
        refine bodyPost_ret (v := .tuple #[.int .i64 0, .int .i64 6]) (by simp only [results, Tryz.results36]; go_simp) rfl ⟨rfl, ?_⟩
        exact belz
      | succ m =>
        have hk8 : decide ((k : Int) < 60) = true := decide_eq_true (by omega)
        have V2 : IntKind.i64.wrap (d + (k : Int)) = d + (k : Int) := IntWalk.i64_in _ (by omega)
        have HC := Lib.hid (fun w1 h1 h2 => HS.out (d + (k : Int)) w1 h1 h2)
        unfold fiL at hF
        obtain ⟨q1, q2, q3⟩ := sn_ok lon lat (d + (k : Int))
        generalize snR lon lat (d + (k : Int)) = S at *
        obtain ⟨t1, t2⟩ := S
        simp only at *
        by_cases c : t2 = 0
        · subst c
          rw [if_neg (by decide)] at hF
          by_cases cb : be = 0
          · subst cb
            rcases q1 with rfl | rfl
            · rw [if_neg (by decide)] at hF
              have HF := Lib.hid hF
              clear hF q2 q3
              go_wp2_with (go_at_call 34; (with_reducible refine (HC.out _ (HT.out.below (by exact belz)) (HLT.out.below (by exact belz))).mono ?_); rintro e w2 ⟨rfl, hb⟩; have hz := hb.size; (try simp only [szA, szS, szD, szN] at hz); (try (refine bcB (n := w.heap.size) hb ?_; intro h_w_0 e_w_0 d_w_0 _ _)); (try (refine bcB (n := w1.heap.size) hb ?_; intro h_w1_0 e_w1_0 d_w1_0 _ _)); (try (refine bcB (n := wr.heap.size) hb ?_; intro h_wr_0 e_wr_0 d_wr_0 _ _)))
              go_roundg m
              case measure => omega
              case rel => exact ⟨k + 1, 0, by omega, rfl, by go_num, HF.out, by constructor <;> go_simp, by exact belz⟩
            · rw [if_pos ⟨rfl, rfl⟩] at hF
              subst hF
              clear HR q2 q3
              go_wp2_with (go_at_call 34; (with_reducible refine (HC.out _ (HT.out.below (by exact belz)) (HLT.out.below (by exact belz))).mono ?_); rintro e w2 ⟨rfl, hb⟩; have hz := hb.size; (try simp only [szA, szS, szD, szN] at hz); (try (refine bcB (n := w.heap.size) hb ?_; intro h_w_0 e_w_0 d_w_0 _ _)); (try (refine bcB (n := w1.heap.size) hb ?_; intro h_w1_0 e_w1_0 d_w1_0 _ _)); (try (refine bcB (n := wr.heap.size) hb ?_; intro h_wr_0 e_wr_0 d_wr_0 _ _)))
              refine bodyPost_ret (v := .tuple #[.int .i64 (d + (k : Int)), .int .i64 0]) (by simp only [results, Tryz.results36]; go_simp) rfl ⟨rfl, ?_⟩
              exact belz
          · have CB : (be == 0) = false := by simpa using cb
            rw [if_neg (by intro h; exact cb h.1)] at hF
            have HF := Lib.hid hF
            clear hF q1 q2 q3
            go_wp2_with (go_at_call 34; (with_reducible refine (HC.out _ (HT.out.below (by exact belz)) (HLT.out.below (by exact belz))).mono ?_); rintro e w2 ⟨rfl, hb⟩; have hz := hb.size; (try simp only [szA, szS, szD, szN] at hz); (try (refine bcB (n := w.heap.size) hb ?_; intro h_w_0 e_w_0 d_w_0 _ _)); (try (refine bcB (n := w1.heap.size) hb ?_; intro h_w1_0 e_w1_0 d_w1_0 _ _)); (try (refine bcB (n := wr.heap.size) hb ?_; intro h_wr_0 e_wr_0 d_wr_0 _ _)))
            go_roundg m
            case measure => omega
            case rel => exact ⟨k + 1, t1, by omega, rfl, by go_num, HF.out, by constructor <;> go_simp, by exact belz⟩
        · rw [if_pos (by simpa using c)] at hF
          subst hF
          have C : (t2 == 0) = false := by simpa using c
          have C2 : (t2 != 0) = true := by simpa using c
          clear HR q1 q2 q3
          go_wp2_with (go_at_call 34; (with_reducible refine (HC.out _ (HT.out.below (by exact belz)) (HLT.out.below (by exact belz))).mono ?_); rintro e w2 ⟨rfl, hb⟩; have hz := hb.size; (try simp only [szA, szS, szD, szN] at hz); (try (refine bcB (n := w.heap.size) hb ?_; intro h_w_0 e_w_0 d_w_0 _ _)); (try (refine bcB (n := w1.heap.size) hb ?_; intro h_w1_0 e_w1_0 d_w1_0 _ _)); (try (refine bcB (n := wr.heap.size) hb ?_; intro h_wr_0 e_wr_0 d_wr_0 _ _)))
          refine bodyPost_ret (v := .tuple #[.int .i64 0, .int .i64 t2]) (by simp only [results, Tryz.results36]; go_simp) rfl ⟨rfl, ?_⟩
          exact belz
  · rw [if_pos (by simpa using c)]
    have C : (s2 == 0) = false := by simpa using c
    have C2 : (s2 != 0) = true := by simpa using c
    clear o1 o2 o3 hday hdd
    have hgen := sgen; have hgen2 := sgen2; have hgen3 := sgen3; go_enter Tryz.func36, Tryz.ntmps36
    go_wp2_with (go_at_call 34; (with_reducible refine (HSD.out _ (HT.out.below (by exact belz)) (HLT.out.below (by exact belz))).mono ?_); rintro e w1 ⟨rfl, hb⟩; have hz := hb.size; (try simp only [szA, szS, szD, szN] at hz); (try (refine bcB (n := w.heap.size) hb ?_; intro h_w_0 e_w_0 d_w_0 _ _)))
    refine bodyPost_ret (v := .tuple #[.int .i64 0, .int .i64 s2]) (by simp only [results, Tryz.results36]; go_simp) rfl ⟨rfl, ?_⟩
    exact belz
set_option maxHeartbeats 4000000 in
theorem walk_CrescentFirsts (lon lat d : Int) (w : World) (hT : Tab w) (hL : LTab w) (hd : -9223372036854775808 ≤ d ∧ d ≤ 9223372036854775807) :
    Calls Tryz.prog 8 #[.agg #[.int .i64 lon, .int .i64 lat], .int .i64 d] w fun e w' => e = .returned (.bool true) ∧ Below w.heap.size w w' := by
  obtain ⟨d1, d2⟩ := hd
  obtain ⟨dd, hdd⟩ : ∃ dd, dd = IntKind.i64.wrap (d - 1) := ⟨_, rfl⟩
  have HS := Lib.hid (fun d w1 h1 h2 => c_Seen lon lat d w1 h1 h2)
  have HSD := Lib.hid (fun w1 h1 h2 => c_Seen lon lat dd w1 h1 h2)
  have hi := fun w1 h1 h2 => c_First lon lat d w1 h1 h2 d1 d2
  have HT := Lib.hid hT
  have HLT := Lib.hid hL
  obtain ⟨o1, o2, o3⟩ := sn_ok lon lat dd
  have hf : fiR lon lat d = if (snR lon lat dd).2 ≠ 0 then (0, (snR lon lat dd).2) else fiL (snR lon lat) d 60 0 (snR lon lat dd).1 := by rw [hdd]; rfl
  rw [hf] at hi
  clear hf hT hL
  have hday := fun h => fi_day d1 d2 (by rw [hdd] at o3; exact o3 h)
  have V1 : IntKind.i64.wrap (d - 1) = dd := hdd.symm
  rw [← hdd] at hday
  generalize snR lon lat dd = S at *
  obtain ⟨s1, s2⟩ := S
  simp only at *
  by_cases c : s2 = 0
  · rw [if_neg (by simpa using c)] at hi
    obtain ⟨b1, b2⟩ := hday c
    subst c
    obtain ⟨R, hR⟩ : ∃ R, R = fiL (snR lon lat) d 60 0 s1 := ⟨_, rfl⟩
    rw [← hR] at hi
    obtain ⟨r1, r2⟩ := R
    have HI := Lib.hid hi
    have HR := Lib.hid hR
    clear hR o2 o3 hday hdd hi
    have hgen := sgen; have hgen2 := sgen2; have hgen3 := sgen3; go_enter Tryz.func8, Tryz.ntmps8
    go_wp2_with (first | (go_at_call 33; (with_reducible refine (c_crescentWorks _ (HT.out.below (by exact belz)) (HLT.out.below (by exact belz))).mono ?_); rintro e w1 ⟨rfl, hb⟩; have hz := hb.size; (try simp only [szA, szS, szD, szN] at hz); (try (refine bcB (n := w.heap.size) hb ?_; intro h_w_0 e_w_0 d_w_0 _ _))) | (go_at_call 36; (with_reducible refine (HI.out _ (HT.out.below (by exact belz)) (HLT.out.below (by exact belz))).mono ?_); rintro e w2 ⟨rfl, hb⟩; have hz := hb.size; (try simp only [szA, szS, szD, szN] at hz); (try (refine bcB (n := w.heap.size) hb ?_; intro h_w_0 e_w_0 d_w_0 _ _)); (try (refine bcB (n := w1.heap.size) hb ?_; intro h_w1_0 e_w1_0 d_w1_0 _ _))) | (go_at_call 34; (with_reducible refine (HSD.out _ (HT.out.below (by exact belz)) (HLT.out.below (by exact belz))).mono ?_); rintro e w3 ⟨rfl, hb⟩; have hz := hb.size; (try simp only [szA, szS, szD, szN] at hz); (try (refine bcB (n := w.heap.size) hb ?_; intro h_w_0 e_w_0 d_w_0 _ _)); (try (refine bcB (n := w1.heap.size) hb ?_; intro h_w1_0 e_w1_0 d_w1_0 _ _)); (try (refine bcB (n := w2.heap.size) hb ?_; intro h_w2_0 e_w2_0 d_w2_0 _ _))))
    go_loopg [9, 7, 8] 60 (fun gk xi xl xx wr => ∃ (k : Nat) (la x : Int), gk + k = 60 ∧ xi = .int .i64 k ∧ xl = .int .i64 la ∧ xx = .int .i64 x ∧ ((x = 0 ∧ fiL (snR lon lat) d gk k la = (r1, r2)) ∨ (x ≠ 0 ∧ r1 = 0 ∧ r2 = x)) ∧ SpAt wr w.heap.size lon lat ∧ Below w.heap.size w wr)
    case atStart =>
      refine ⟨0, s1, 0, by omega, rfl, rfl, rfl, .inl ⟨rfl, HR.out.symm⟩, ?_, by exact belz⟩
      constructor <;> go_simp
    case round =>
      obtain ⟨k, la, x, hk, rfl, rfl, rfl, hF, hS, hbel⟩ := hrel
      have hsz := hbel.size
      obtain ⟨p8, c80, c81, f80, f81⟩ := hS
      rcases hF with ⟨rfl, hF⟩ | ⟨hx, e1, e2⟩
      · cases gk with
        | zero =>
          obtain rfl : k = 60 := by omega
          have hk9 : decide (((60 : Nat) : Int) < 60) = false := by decide
          unfold fiL at hF
          injection hF with hF1 hF2
          subst hF1 hF2
          clear HR
          go_wp2_with fail
          go_ret
          refine ⟨rfl, ?_⟩
          exact belz
        | succ m =>
          have hk8 : decide ((k : Int) < 60) = true := decide_eq_true (by omega)
          have V2 : IntKind.i64.wrap (d + (k : Int)) = d + (k : Int) := IntWalk.i64_in _ (by omega)
          have HC := Lib.hid (fun w1 h1 h2 => HS.out (d + (k : Int)) w1 h1 h2)
          unfold fiL at hF
          obtain ⟨q1, q2, q3⟩ := sn_ok lon lat (d + (k : Int))
          generalize snR lon lat (d + (k : Int)) = S at *
          obtain ⟨t1, t2⟩ := S
          simp only at *
          by_cases c : t2 = 0
          · subst c
            rw [if_neg (by decide)] at hF
            rcases q1 with rfl | rfl
            · rw [if_neg (by intro h; exact absurd h.2 (by decide))] at hF
              have HF := Lib.hid hF
              clear hF q2 q3
              go_wp2_with (go_at_call 34; (with_reducible refine (HC.out _ (HT.out.below (by exact belz)) (HLT.out.below (by exact belz))).mono ?_); rintro e w4 ⟨rfl, hb⟩; have hz := hb.size; (try simp only [szA, szS, szD, szN] at hz); (try (refine bcB (n := w.heap.size) hb ?_; intro h_w_0 e_w_0 d_w_0 _ _)); (try (refine bcB (n := w1.heap.size) hb ?_; intro h_w1_0 e_w1_0 d_w1_0 _ _)); (try (refine bcB (n := w2.heap.size) hb ?_; intro h_w2_0 e_w2_0 d_w2_0 _ _)); (try (refine bcB (n := w3.heap.size) hb ?_; intro h_w3_0 e_w3_0 d_w3_0 _ _)); (try (refine bcB (n := wr.heap.size) hb ?_; intro h_wr_0 e_wr_0 d_wr_0 _ _)))
              go_roundg m
              case measure => omega
              case rel => exact ⟨k + 1, 0, 0, by omega, by go_num, rfl, rfl, .inl ⟨rfl, HF.out⟩, by constructor <;> go_simp, by exact belz⟩
            · by_cases cb : la = 0
              · subst cb
                rw [if_pos ⟨rfl, rfl⟩] at hF
                injection hF with hF1 hF2
                subst hF1 hF2
                clear HR q2 q3
                go_wp2_with (go_at_call 34; (with_reducible refine (HC.out _ (HT.out.below (by exact belz)) (HLT.out.below (by exact belz))).mono ?_); rintro e w4 ⟨rfl, hb⟩; have hz := hb.size; (try simp only [szA, szS, szD, szN] at hz); (try (refine bcB (n := w.heap.size) hb ?_; intro h_w_0 e_w_0 d_w_0 _ _)); (try (refine bcB (n := w1.heap.size) hb ?_; intro h_w1_0 e_w1_0 d_w1_0 _ _)); (try (refine bcB (n := w2.heap.size) hb ?_; intro h_w2_0 e_w2_0 d_w2_0 _ _)); (try (refine bcB (n := w3.heap.size) hb ?_; intro h_w3_0 e_w3_0 d_w3_0 _ _)); (try (refine bcB (n := wr.heap.size) hb ?_; intro h_wr_0 e_wr_0 d_wr_0 _ _)))
                go_ret
                refine ⟨rfl, ?_⟩
                exact belz
              · have CB : (la == 0) = false := by simpa using cb
                rw [if_neg (by intro h; exact cb h.1)] at hF
                have HF := Lib.hid hF
                clear hF q2 q3
                go_wp2_with (go_at_call 34; (with_reducible refine (HC.out _ (HT.out.below (by exact belz)) (HLT.out.below (by exact belz))).mono ?_); rintro e w4 ⟨rfl, hb⟩; have hz := hb.size; (try simp only [szA, szS, szD, szN] at hz); (try (refine bcB (n := w.heap.size) hb ?_; intro h_w_0 e_w_0 d_w_0 _ _)); (try (refine bcB (n := w1.heap.size) hb ?_; intro h_w1_0 e_w1_0 d_w1_0 _ _)); (try (refine bcB (n := w2.heap.size) hb ?_; intro h_w2_0 e_w2_0 d_w2_0 _ _)); (try (refine bcB (n := w3.heap.size) hb ?_; intro h_w3_0 e_w3_0 d_w3_0 _ _)); (try (refine bcB (n := wr.heap.size) hb ?_; intro h_wr_0 e_wr_0 d_wr_0 _ _)))
                go_roundg m
                case measure => omega
                case rel => exact ⟨k + 1, 1, 0, by omega, by go_num, rfl, rfl, .inl ⟨rfl, HF.out⟩, by constructor <;> go_simp, by exact belz⟩
          · rw [if_pos (by simpa using c)] at hF
            injection hF with hF1 hF2
            subst hF1 hF2
            have C : (t2 == 0) = false := by simpa using c
            have C2 : (t2 != 0) = true := by simpa using c
            have ez : t1 = 0 := q2 c
            subst ez
            clear HR q1 q2 q3
            go_wp2_with (go_at_call 34; (with_reducible refine (HC.out _ (HT.out.below (by exact belz)) (HLT.out.below (by exact belz))).mono ?_); rintro e w4 ⟨rfl, hb⟩; have hz := hb.size; (try simp only [szA, szS, szD, szN] at hz); (try (refine bcB (n := w.heap.size) hb ?_; intro h_w_0 e_w_0 d_w_0 _ _)); (try (refine bcB (n := w1.heap.size) hb ?_; intro h_w1_0 e_w1_0 d_w1_0 _ _)); (try (refine bcB (n := w2.heap.size) hb ?_; intro h_w2_0 e_w2_0 d_w2_0 _ _)); (try (refine bcB (n := w3.heap.size) hb ?_; intro h_w3_0 e_w3_0 d_w3_0 _ _)); (try (refine bcB (n := wr.heap.size) hb ?_; intro h_wr_0 e_wr_0 d_wr_0 _ _)))
            go_roundg m
            case measure => omega
            case rel => exact ⟨k + 1, 0, t2, by omega, by go_num, rfl, rfl, .inr ⟨c, by trivial, by first | rfl | trivial⟩, by constructor <;> go_simp, by exact belz⟩
      · subst e1
        subst e2
        have C : (r2 == 0) = false := by simpa using hx
        have C2 : (r2 != 0) = true := by simpa using hx
        have hk7 : decide ((k : Int) < 60) = true ∨ decide ((k : Int) < 60) = false := by cases decide ((k : Int) < 60) <;> simp
        rcases hk7 with hk7 | hk7
        all_goals
          go_wp2_with fail
          go_ret
          refine ⟨rfl, ?_⟩
          exact belz
  · rw [if_pos (by simpa using c)] at hi
    have C : (s2 == 0) = false := by simpa using c
    have C2 : (s2 != 0) = true := by simpa using c
    have HI := Lib.hid hi
    clear o1 o2 o3 hday hdd hi
    have hgen := sgen; have hgen2 := sgen2; have hgen3 := sgen3; go_enter Tryz.func8, Tryz.ntmps8
    go_wp2_with (first | (go_at_call 33; (with_reducible refine (c_crescentWorks _ (HT.out.below (by exact belz)) (HLT.out.below (by exact belz))).mono ?_); rintro e w1 ⟨rfl, hb⟩; have hz := hb.size; (try simp only [szA, szS, szD, szN] at hz); (try (refine bcB (n := w.heap.size) hb ?_; intro h_w_0 e_w_0 d_w_0 _ _))) | (go_at_call 36; (with_reducible refine (HI.out _ (HT.out.below (by exact belz)) (HLT.out.below (by exact belz))).mono ?_); rintro e w2 ⟨rfl, hb⟩; have hz := hb.size; (try simp only [szA, szS, szD, szN] at hz); (try (refine bcB (n := w.heap.size) hb ?_; intro h_w_0 e_w_0 d_w_0 _ _)); (try (refine bcB (n := w1.heap.size) hb ?_; intro h_w1_0 e_w1_0 d_w1_0 _ _))) | (go_at_call 34; (with_reducible refine (HSD.out _ (HT.out.below (by exact belz)) (HLT.out.below (by exact belz))).mono ?_); rintro e w3 ⟨rfl, hb⟩; have hz := hb.size; (try simp only [szA, szS, szD, szN] at hz); (try (refine bcB (n := w.heap.size) hb ?_; intro h_w_0 e_w_0 d_w_0 _ _)); (try (refine bcB (n := w1.heap.size) hb ?_; intro h_w1_0 e_w1_0 d_w1_0 _ _)); (try (refine bcB (n := w2.heap.size) hb ?_; intro h_w2_0 e_w2_0 d_w2_0 _ _))))
    go_loopg [9, 7, 8] 60 (fun gk xi xl xx wr => xi = .int .i64 0 ∧ xl = .int .i64 s1 ∧ xx = .int .i64 s2 ∧ Below w.heap.size w wr)
    case atStart => exact ⟨rfl, rfl, rfl, by exact belz⟩
    case round =>
      obtain ⟨rfl, rfl, rfl, hbel⟩ := hrel
      have hsz := hbel.size
      go_wp2_with fail
      go_ret
      refine ⟨rfl, ?_⟩
      exact belz
end Go.Proofs.YtmjdcabniefifaaGreatDoor
