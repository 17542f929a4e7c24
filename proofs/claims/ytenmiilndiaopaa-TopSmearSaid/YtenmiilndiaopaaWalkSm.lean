/- Contracts of smear.Check and smear.Smear. -/
import Derived.Test.YtenmiilndiaopaaWalkLinsts
import Derived.Test.YtenmiilndiaopaaPlainSm
set_option linter.unusedVariables false
set_option linter.unusedSimpArgs false
namespace Go.Proofs.Ytenmiilndiaopaa
open Go.RowKit
def smErr (l : List Lp) (h : Int) : Int := if leapsErr l ≠ 0 then leapsErr l else if halfB h = true then 0 else 1
theorem c_smCheck (a : Option Addr) (cap : Nat) (l : List Lp) (h : Int) (w : World) (hc : l.length ≤ cap) (hs : LpSlice w a l) :
    Calls Try.prog 19 #[.slice a l.length cap, .int .i64 h] w fun e w' => e = .returned (.int .i64 (smErr l h)) ∧ Below w.heap.size w w' := by
  by_cases h0 : leapsErr l = 0
  · have hK := fun w1 hs1 => c_leapCheck a cap l w1 hc hs1
    rw [h0] at hK
    have hgen := sgen; have hgen2 := sgen2; have hgen3 := sgen3; go_enter Try.func19, Try.ntmps19
    go_wp2_with (go_at_call 22; (refine (hK _ hs).mono ?_); rintro e w1 ⟨rfl, hb⟩; have hz := hb.size; (try simp only [szA, szS, szD, szN] at hz); (try (refine bcB (n := w.heap.size) hb ?_; intro h_w_0 e_w_0 d_w_0 _ _)))
    all_goals go_ret
    all_goals refine ⟨ret_int (by unfold smErr; rw [if_neg (by omega)]; split <;> first | rfl | (next q => have q := halfB_of q; omega) | (next q => exfalso; apply q; simp [halfB]; omega)), ?_⟩
    all_goals exact belz
  · have h1 : (leapsErr l != 0) = true := by simp [h0]
    have hgen := sgen; have hgen2 := sgen2; have hgen3 := sgen3; go_enter Try.func19, Try.ntmps19
    go_wp2_with (go_at_call 22; (refine (c_leapCheck _ _ l _ hc hs).mono ?_); rintro e w1 ⟨rfl, hb⟩; have hz := hb.size; (try simp only [szA, szS, szD, szN] at hz); (try (refine bcB (n := w.heap.size) hb ?_; intro h_w_0 e_w_0 d_w_0 _ _)))
    go_ret
    refine ⟨ret_int ?_, ?_⟩
    · unfold smErr; rw [if_pos h0]
    · exact belz
theorem c_smear_bad (a : Option Addr) (cap : Nat) (l : List Lp) (h c : Int) (w : World) (hc : l.length ≤ cap) (he : smErr l h ≠ 0) (hs : LpSlice w a l) :
    Calls Try.prog 7 #[.slice a l.length cap, .int .i64 h, .int .i64 c] w fun e w' => e = .returned (.tuple #[.int .i64 0, .int .i64 (smErr l h)]) ∧ Below w.heap.size w w' := by
  have h1 : (smErr l h != 0) = true := by simp [he]
  have hgen := sgen; have hgen2 := sgen2; have hgen3 := sgen3; go_enter Try.func7, Try.ntmps7
  go_wp2_with (go_at_call 19; (refine (c_smCheck _ _ l _ _ hc hs).mono ?_); rintro e w1 ⟨rfl, hb⟩; have hz := hb.size; (try simp only [szA, szS, szD, szN] at hz); (try (refine bcB (n := w.heap.size) hb ?_; intro h_w_0 e_w_0 d_w_0 _ _)))
  go_ret2
  refine ⟨rfl, ?_⟩
  exact belz
theorem c_smear_far (a : Option Addr) (cap : Nat) (l : List Lp) (h c : Int) (w : World) (hc : l.length ≤ cap) (he : smErr l h = 0) (hs : LpSlice w a l) (hf : farB c = true) :
    Calls Try.prog 7 #[.slice a l.length cap, .int .i64 h, .int .i64 c] w fun e w' => e = .returned (.tuple #[.int .i64 0, .int .i64 3]) ∧ Below w.heap.size w w' := by
  have h1 : (smErr l h != 0) = false := by simp [he]
  have hgen := sgen; have hgen2 := sgen2; have hgen3 := sgen3; go_enter Try.func7, Try.ntmps7
  go_wp2_with (first | (go_at_call 19; (refine (c_smCheck _ _ l _ _ hc hs).mono ?_); rintro e w1 ⟨rfl, hb⟩; have hz := hb.size; (try simp only [szA, szS, szD, szN] at hz); (try (refine bcB (n := w.heap.size) hb ?_; intro h_w_0 e_w_0 d_w_0 _ _))) | (go_at_call 20; refine (c_far _ _).mono ?_; rintro e w' ⟨rfl, rfl⟩))
  go_ret2
  refine ⟨rfl, ?_⟩
  exact belz
theorem c_smear_ok (a : Option Addr) (cap : Nat) (l : List Lp) (h c : Int) (w : World) (hc : l.length ≤ cap) (he : smErr l h = 0) (hv : LpOk l) (h1000 : 1000 ≤ h) (h432 : h ≤ 43200000) (hs : LpSlice w a l) (hf : farB c = false)
    (t x : Int) (ht : (dayB (sm c h 0 l / 86400000) = true ∧ t = sm c h 0 l ∧ x = 0) ∨ (dayB (sm c h 0 l / 86400000) = false ∧ t = 0 ∧ x = 3)) :
    Calls Try.prog 7 #[.slice a l.length cap, .int .i64 h, .int .i64 c] w fun e w' => e = .returned (.tuple #[.int .i64 t, .int .i64 x]) ∧ Below w.heap.size w w' := by
  have h1 : (smErr l h != 0) = false := by simp [he]
  have h2 := hv.len
  have hcc : -345600864000000 ≤ c ∧ c ≤ 345600864000000 := by simpa [farB] using hf
  obtain ⟨c1, c2⟩ := hcc
  have hbd := (sm_bd0 (c := c) hv h1000 h432 (by omega) (by omega)).1
  have hgen := sgen; have hgen2 := sgen2; have hgen3 := sgen3; go_enter Try.func7, Try.ntmps7
  go_wp2_with (first | (go_at_call 19; (refine (c_smCheck _ _ l _ _ hc hs).mono ?_); rintro e w1 ⟨rfl, hb⟩; have hz := hb.size; (try simp only [szA, szS, szD, szN] at hz); (try (refine bcB (n := w.heap.size) hb ?_; intro h_w_0 e_w_0 d_w_0 _ _))) | (go_at_call 20; refine (c_far _ _).mono ?_; rintro e w' ⟨rfl, rfl⟩))
  have hbw1 : Below w.heap.size w w1 := by assumption
  go_loopg [9, 10, 27] l.length (fun gk x9 x10 i wr => ∃ k : Nat, ∃ n o : Int, gk + k = l.length ∧ i = .int .i64 k ∧ x9 = .int .i64 n ∧ x10 = .int .i64 o ∧ Below w.heap.size w wr ∧ -(k : Int) ≤ n ∧ n ≤ k ∧ SmAt c h l k n o)
  case atStart => exact ⟨0, 0, c, by omega, rfl, rfl, rfl, hbw1, by omega, by omega, .inl ⟨by omega, rfl⟩⟩
  case round =>
    obtain ⟨k, n, o, hk, rfl, rfl, rfl, hbel, n1, n2, hsm⟩ := hrel
    by_cases hlt : k < l.length
    · obtain ⟨b, off, ha, hblk, c0, c1'⟩ := (hs.below (Nat.le_refl _) hbel) k hlt
      have ix1 := @ix_Lp a b off l.length cap k ha hlt
      have hsz := hbel.size
      have hsh := hv.sh k hlt
      have hlo := hv.lo k hlt
      have hhi := hv.hi k hlt
      have hst := smAt_step hv h1000 h432 hlt hsm
      clear ha hsm
      generalize l[k] = x at *
      have h3 : -1 ≤ x.sh := by omega
      have h4 : x.sh ≤ 1 := by omega
      obtain ⟨st1, st2, st3⟩ := hst
      have S1 := Lib.hid st1
      have S2 := Lib.hid st2
      have S3 := Lib.hid st3
      clear st1 st2 st3 hsh
      have e1 : IntKind.i64.wrap (1000 * n) = 1000 * n := IntWalk.i64_in _ (by omega)
      have e2 : IntKind.i64.wrap ((x.day + 1) * 86400000 - h + 1000 * n) = (x.day + 1) * 86400000 - h + 1000 * n := IntWalk.i64_in _ (by omega)
      have e3 : IntKind.i64.wrap (2 * h) = 2 * h := IntWalk.i64_in _ (by omega)
      have e4 : IntKind.i64.wrap (1000 * x.sh) = 1000 * x.sh := IntWalk.i64_in _ (by omega)
      have e5 : IntKind.i64.wrap (2 * h + 1000 * x.sh) = 2 * h + 1000 * x.sh := IntWalk.i64_in _ (by omega)
      by_cases q1 : c < (x.day + 1) * 86400000 - h + 1000 * n
      · go_wp2
        go_quiet (fail)
        clear e1 e2 e3 e4 e5
        go_wp2
        go_roundg (l.length - (k + 1))
        case measure => omega
        case rel =>
          refine ⟨k + 1, n + x.sh, o, by omega, by go_num, rfl, rfl, ?_, by omega, by omega, S1.out q1⟩
          exact belz
      · by_cases q2 : c < (x.day + 1) * 86400000 - h + 1000 * n + (2 * h + 1000 * x.sh)
        · have y0 : 0 ≤ c - ((x.day + 1) * 86400000 - h + 1000 * n) := by omega
          have y1 : c - ((x.day + 1) * 86400000 - h + 1000 * n) ≤ 86401000 := by omega
          obtain ⟨z0, z1⟩ := prod_bd y0 y1 h1000 h432
          obtain ⟨z2, z3⟩ := tdiv_bd (q := 2 * h + 1000 * x.sh) z0 (by omega)
          rw [Int.tdiv_eq_ediv_of_nonneg z0] at z2 z3
          have z4 := Int.le_trans z3 z1
          clear z3
          go_wp2
          go_quiet (fail)
          clear e1 e2 e3 e4 e5
          go_wp2
          go_roundg (l.length - (k + 1))
          case measure => omega
          case rel =>
            refine ⟨k + 1, n + x.sh, smMid c h n x, by omega, by go_num, rfl, ?_, ?_, by omega, by omega, S2.out q1 q2⟩
            · congr 1
              rw [← Int.tdiv_eq_ediv_of_nonneg z0]; rfl
            · exact belz
        · go_wp2
          go_quiet (fail)
          clear e1 e2 e3 e4 e5
          go_wp2
          go_roundg (l.length - (k + 1))
          case measure => omega
          case rel =>
            refine ⟨k + 1, n + x.sh, c - 1000 * (n + x.sh), by omega, by go_num, rfl, rfl, ?_, by omega, by omega, S3.out q1 q2⟩
            exact belz
    · have hkl : k = l.length := by omega
      rw [hkl] at hsm
      have ho := smAt_end hsm
      subst ho
      have hsz := hbel.size
      clear hkl hsm
      obtain ⟨hb1, hb2⟩ := hbd
      rcases ht with ⟨hd, rfl, rfl⟩ | ⟨hd, rfl, rfl⟩
      all_goals
        go_wp2_with (go_at_call 21; refine (c_isInst _ _ (by omega) (by omega)).mono ?_; rintro e w' ⟨rfl, nn, rfl⟩)
        go_ret2
        refine ⟨rfl, ?_⟩
        exact belz
end Go.Proofs.Ytenmiilndiaopaa
