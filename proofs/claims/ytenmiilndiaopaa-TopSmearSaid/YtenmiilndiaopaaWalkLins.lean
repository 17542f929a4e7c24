/- The contract of leap.Instant. -/
import Derived.Test.YtenmiilndiaopaaWalkLcnt
set_option linter.unusedVariables false
set_option linter.unusedSimpArgs false
namespace Go.Proofs.Ytenmiilndiaopaa
open Go.RowKit
def farB (c : Int) : Bool := decide (c < -345600864000000) || decide (345600864000000 < c)
theorem c_far (c : Int) (w : World) : Calls Try.prog 20 #[.int .i64 c] w fun e w' => e = .returned (.bool (farB c)) ∧ w = w' := by
  have hgen := sgen; have hgen2 := sgen2; have hgen3 := sgen3; go_enter Try.func20, Try.ntmps20
  go_wp2
  all_goals go_ret
  all_goals exact ⟨ret_bool (by simp [farB]; first | done | omega), rfl⟩
theorem c_isInst (t : Int) (w : World) (t1 : -9223372036854775808 ≤ t) (t2 : t ≤ 9223372036854775807) : Calls Try.prog 21 #[.int .i64 t] w fun e w' => e = .returned (.bool (dayB (t / 86400000))) ∧ ∃ n, w' = w.drewN n := by
  have hgen := sgen; have hgen2 := sgen2; have hgen3 := sgen3; go_enter Try.func21, Try.ntmps21
  go_wp2_with (first | (go_at_call 36; refine (c_down t 86400000 _ (by omega) t1 t2 (by omega)).mono ?_; rintro e w' ⟨rfl, n, rfl⟩) | (go_at_call 24; refine (c_lineIs _ _).mono ?_; rintro e w' ⟨rfl, rfl⟩))
  go_ret
  exact ⟨rfl, _, rfl⟩
theorem c_inst_bad (a : Option Addr) (cap : Nat) (l : List Lp) (c : Int) (w : World) (hc : l.length ≤ cap) (h : leapsErr l ≠ 0) (hs : LpSlice w a l) :
    Calls Try.prog 8 #[.slice a l.length cap, .int .i64 c] w fun e w' => e = .returned (.tuple #[.int .i64 0, .bool false, .int .i64 (leapsErr l)]) ∧ Below w.heap.size w w' := by
  have h1 : (leapsErr l != 0) = true := by simp [h]
  have hgen := sgen; have hgen2 := sgen2; have hgen3 := sgen3; go_enter Try.func8, Try.ntmps8
  go_wp2_with (go_at_call 22; (refine (c_leapCheck _ _ l _ hc hs).mono ?_); rintro e w1 ⟨rfl, hb⟩; have hz := hb.size; (try simp only [szA, szS, szD, szN] at hz); (try (refine bcB (n := w.heap.size) hb ?_; intro h_w_0 e_w_0 d_w_0 _ _)))
  go_ret3
  refine ⟨rfl, ?_⟩
  exact belz
theorem c_inst_far (a : Option Addr) (cap : Nat) (l : List Lp) (c : Int) (w : World) (hc : l.length ≤ cap) (h : leapsErr l = 0) (hs : LpSlice w a l) (hf : farB c = true) :
    Calls Try.prog 8 #[.slice a l.length cap, .int .i64 c] w fun e w' => e = .returned (.tuple #[.int .i64 0, .bool false, .int .i64 3]) ∧ Below w.heap.size w w' := by
  have h1 : (leapsErr l != 0) = false := by simp [h]
  have hgen := sgen; have hgen2 := sgen2; have hgen3 := sgen3; go_enter Try.func8, Try.ntmps8
  go_wp2_with (first | (go_at_call 22; (refine (c_leapCheck _ _ l _ hc hs).mono ?_); rintro e w1 ⟨rfl, hb⟩; have hz := hb.size; (try simp only [szA, szS, szD, szN] at hz); (try (refine bcB (n := w.heap.size) hb ?_; intro h_w_0 e_w_0 d_w_0 _ _))) | (go_at_call 20; refine (c_far _ _).mono ?_; rintro e w' ⟨rfl, rfl⟩))
  go_ret3
  refine ⟨rfl, ?_⟩
  exact belz
def fin (c n : Int) : Int × Bool × Int := if dayB ((c - 1000 * n) / 86400000) = true then (c - 1000 * n, false, 0) else (0, false, 3)
def inst (c : Int) : Int → List Lp → Int × Bool × Int
  | n, [] => fin c n
  | n, x :: l => if c < (x.day + 1) * 86400000 + 1000 * n + min 0 (1000 * x.sh) then fin c n
    else if c < (x.day + 1) * 86400000 + 1000 * n + 1000 * x.sh then ((x.day + 1) * 86400000 - 1, true, 0) else inst c (n + x.sh) l
theorem inst_at (c n : Int) (l : List Lp) (k : Nat) (h : k < l.length) : inst c n (l.drop k) = if c < (l[k].day + 1) * 86400000 + 1000 * n + min 0 (1000 * l[k].sh) then fin c n
    else if c < (l[k].day + 1) * 86400000 + 1000 * n + 1000 * l[k].sh then ((l[k].day + 1) * 86400000 - 1, true, 0) else inst c (n + l[k].sh) (l.drop (k + 1)) := by
  rw [List.drop_eq_getElem_cons h]; rfl
theorem c_inst_ok (a : Option Addr) (cap : Nat) (l : List Lp) (c : Int) (w : World) (hc : l.length ≤ cap) (h : leapsErr l = 0) (hs : LpSlice w a l) (hf : farB c = false) :
    Calls Try.prog 8 #[.slice a l.length cap, .int .i64 c] w fun e w' => e = .returned (.tuple #[.int .i64 (inst c 0 l).1, .bool (inst c 0 l).2.1, .int .i64 (inst c 0 l).2.2]) ∧ Below w.heap.size w w' := by
  have h1 : (leapsErr l != 0) = false := by simp [h]
  have hv := lpOk_of h
  have h2 := hv.len
  have hcc : -345600864000000 ≤ c ∧ c ≤ 345600864000000 := by simpa [farB] using hf
  obtain ⟨c1, c2⟩ := hcc
  have hgen := sgen; have hgen2 := sgen2; have hgen3 := sgen3; go_enter Try.func8, Try.ntmps8
  go_wp2_with (first | (go_at_call 22; (refine (c_leapCheck _ _ l _ hc hs).mono ?_); rintro e w1 ⟨rfl, hb⟩; have hz := hb.size; (try simp only [szA, szS, szD, szN] at hz); (try (refine bcB (n := w.heap.size) hb ?_; intro h_w_0 e_w_0 d_w_0 _ _))) | (go_at_call 20; refine (c_far _ _).mono ?_; rintro e w' ⟨rfl, rfl⟩))
  have hbw1 : Below w.heap.size w w1 := by assumption
  go_loopg [8, 22] l.length (fun gk x8 i wr => ∃ k : Nat, ∃ n : Int, gk + k = l.length ∧ i = .int .i64 k ∧ x8 = .int .i64 n ∧ Below w.heap.size w wr ∧ inst c 0 l = inst c n (l.drop k) ∧ -(k : Int) ≤ n ∧ n ≤ k)
  case atStart => exact ⟨0, 0, by omega, rfl, rfl, hbw1, rfl, by omega, by omega⟩
  case round =>
    obtain ⟨k, n, hk, rfl, rfl, hbel, hin, n1, n2⟩ := hrel
    by_cases hlt : k < l.length
    · obtain ⟨b, off, ha, hblk, c0, c1'⟩ := (hs.below (Nat.le_refl _) hbel) k hlt
      have ix1 := @ix_Lp a b off l.length cap k ha hlt
      have hsz := hbel.size
      have hat := inst_at c n l k hlt
      have hsh := hv.sh k hlt
      have hlo := hv.lo k hlt
      have hhi := hv.hi k hlt
      clear ha
      generalize l[k] = x at *
      have HI := Lib.hid hin
      have HA := Lib.hid hat
      clear hin hat
      have h3 : -1 ≤ x.sh := by omega
      have h4 : x.sh ≤ 1 := by omega
      rcases hsh with hsh | hsh
      · by_cases q1 : c < (x.day + 1) * 86400000 + 1000 * n
        · have hfe : inst c 0 l = fin c n := by rw [HI.out, HA.out]; rw [if_pos (by omega)]
          cases hb : dayB ((c - 1000 * n) / 86400000) with
          | true =>
            have hfin : inst c 0 l = (c - 1000 * n, false, 0) := by rw [hfe]; unfold fin; rw [if_pos hb]
            clear hfe
            have HF := Lib.hid hfin
            clear hfin
            go_wp2_with (go_at_call 21; refine (c_isInst (c - 1000 * n) _ (by omega) (by omega)).mono ?_; rintro e w' ⟨rfl, nn, rfl⟩)
            go_ret3
            refine ⟨by rw [HF.out]; rfl, ?_⟩
            exact belz
          | false =>
            have hfin : inst c 0 l = (0, false, 3) := by rw [hfe]; unfold fin; rw [hb]; rfl
            clear hfe
            have HF := Lib.hid hfin
            clear hfin
            go_wp2_with (go_at_call 21; refine (c_isInst (c - 1000 * n) _ (by omega) (by omega)).mono ?_; rintro e w' ⟨rfl, nn, rfl⟩)
            go_ret3
            refine ⟨by rw [HF.out]; rfl, ?_⟩
            exact belz
        · by_cases q2 : c < (x.day + 1) * 86400000 + 1000 * n + 1000
          · have hfin : inst c 0 l = ((x.day + 1) * 86400000 - 1, true, 0) := by rw [HI.out, HA.out]; rw [if_neg (by omega), if_pos (by omega)]
            have HF := Lib.hid hfin
            clear hfin
            go_wp2
            go_ret3
            refine ⟨by rw [HF.out]; rfl, ?_⟩
            exact belz
          · have hnx : inst c 0 l = inst c (n + x.sh) (l.drop (k + 1)) := by rw [HI.out, HA.out]; rw [if_neg (by omega), if_neg (by omega)]
            rw [hsh] at hnx
            have HF := Lib.hid hnx
            clear hnx
            go_wp2
            go_roundg (l.length - (k + 1))
            case measure => omega
            case rel =>
              refine ⟨k + 1, _, by omega, by go_num, rfl, ?_, HF.out, by omega, by omega⟩
              exact belz
      · by_cases q1 : c < (x.day + 1) * 86400000 + 1000 * n + -1000
        · have hfe : inst c 0 l = fin c n := by rw [HI.out, HA.out]; rw [if_pos (by omega)]
          cases hb : dayB ((c - 1000 * n) / 86400000) with
          | true =>
            have hfin : inst c 0 l = (c - 1000 * n, false, 0) := by rw [hfe]; unfold fin; rw [if_pos hb]
            clear hfe
            have HF := Lib.hid hfin
            clear hfin
            go_wp2_with (go_at_call 21; refine (c_isInst (c - 1000 * n) _ (by omega) (by omega)).mono ?_; rintro e w' ⟨rfl, nn, rfl⟩)
            go_ret3
            refine ⟨by rw [HF.out]; rfl, ?_⟩
            exact belz
          | false =>
            have hfin : inst c 0 l = (0, false, 3) := by rw [hfe]; unfold fin; rw [hb]; rfl
            clear hfe
            have HF := Lib.hid hfin
            clear hfin
            go_wp2_with (go_at_call 21; refine (c_isInst (c - 1000 * n) _ (by omega) (by omega)).mono ?_; rintro e w' ⟨rfl, nn, rfl⟩)
            go_ret3
            refine ⟨by rw [HF.out]; rfl, ?_⟩
            exact belz
        · have hnx : inst c 0 l = inst c (n + x.sh) (l.drop (k + 1)) := by rw [HI.out, HA.out]; rw [if_neg (by omega), if_neg (by omega)]
          rw [hsh] at hnx
          have HF := Lib.hid hnx
          clear hnx
          go_wp2
          go_roundg (l.length - (k + 1))
          case measure => omega
          case rel =>
            refine ⟨k + 1, _, by omega, by go_num, rfl, ?_, HF.out, by omega, by omega⟩
            exact belz
    · have hkl : k = l.length := by omega
      have hdr : l.drop k = [] := by rw [hkl]; exact List.drop_length
      have hsz := hbel.size
      clear hkl
      have hfe : inst c 0 l = fin c n := by rw [hin, hdr]; rfl
      cases hb : dayB ((c - 1000 * n) / 86400000) with
      | true =>
        have hfin : inst c 0 l = (c - 1000 * n, false, 0) := by rw [hfe]; unfold fin; rw [if_pos hb]
        clear hfe hin hdr
        have HF := Lib.hid hfin
        clear hfin
        go_wp2_with (go_at_call 21; refine (c_isInst (c - 1000 * n) _ (by omega) (by omega)).mono ?_; rintro e w' ⟨rfl, nn, rfl⟩)
        go_ret3
        refine ⟨by rw [HF.out]; rfl, ?_⟩
        exact belz
      | false =>
        have hfin : inst c 0 l = (0, false, 3) := by rw [hfe]; unfold fin; rw [hb]; rfl
        clear hfe hin hdr
        have HF := Lib.hid hfin
        clear hfin
        go_wp2_with (go_at_call 21; refine (c_isInst (c - 1000 * n) _ (by omega) (by omega)).mono ?_; rintro e w' ⟨rfl, nn, rfl⟩)
        go_ret3
        refine ⟨by rw [HF.out]; rfl, ?_⟩
        exact belz
end Go.Proofs.Ytenmiilndiaopaa
