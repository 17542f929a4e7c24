/- The contracts of frac.Of, Mul, Add. -/
import Derived.Test.YtbcehnhiedbbbaaDoorWalkFbx
import Derived.Test.YtbcehnhiedbbbaaDoorPlainMap
import Derived.IntWalk
import Derived.Deep.LoopGhost
set_option linter.unusedVariables false
set_option linter.unusedSimpArgs false
namespace Go.Proofs.YtbcehnhiedbbbaaDoor
open Go.RowKit
theorem c_fSize (a : Int) (w : World) (h0 : -9223372036854775807 ≤ a) (h1 : a ≤ 9223372036854775807) : Calls Tryd.prog 87 #[.int .i64 a] w fun e w' => e = .returned (.int .u64 (a.natAbs : Int)) ∧ w = w' := by
  by_cases h : a < 0
  · have d1 : decide (a < 0) = true := decide_eq_true h
    have e1 : IntKind.u64.wrap a = a + 18446744073709551616 := by rw [IntKind.wrap_u64]; omega
    have e2 : IntKind.u64.wrap (-(a + 18446744073709551616)) = (a.natAbs : Int) := by rw [IntKind.wrap_u64]; omega
    have e3 : IntKind.u64.wrap (-a) = (a.natAbs : Int) := by rw [IntKind.wrap_u64]; omega
    have e4 : -a = (a.natAbs : Int) := by omega
    have H := Lib.hid e4
    have hgen := sgen; have hgen2 := sgen2; have hgen3 := sgen3; go_enter Tryd.func87, Tryd.ntmps87
    go_wp2
    go_ret
    exact ⟨rfl, rfl⟩
  · have d1 : decide (a < 0) = false := decide_eq_false h
    have e1 : IntKind.u64.wrap a = a := by rw [IntKind.wrap_u64]; omega
    have H := Lib.hid (show a = (a.natAbs : Int) by omega)
    rw [← H.out]
    have hgen := sgen; have hgen2 := sgen2; have hgen3 := sgen3; go_enter Tryd.func87, Tryd.ntmps87
    go_wp2
    go_ret
    exact ⟨rfl, rfl⟩
set_option maxHeartbeats 1000000 in
theorem c_Of (n d : Int) (w : World) (n0 : -9223372036854775807 ≤ n) (n1 : n ≤ 9223372036854775807) (d0 : 1 ≤ d) (d1 : d ≤ 9223372036854775807) : Calls Tryd.prog 75 #[.int .i64 n, .int .i64 d] w fun e w' => e = .returned (.tuple #[.agg #[.int .i64 (ofR n d).n, .int .i64 (ofR n d).d], .int .i64 (ofR n d).e]) ∧ Below w.heap.size w w' := by
  have HA := Lib.hid (fun w1 => c_fSize n w1 n0 n1)
  have HB := Lib.hid (fun w1 => c_fSize d w1 (by omega) d1)
  obtain ⟨x0, hx0⟩ : ∃ x, x = n.natAbs := ⟨_, rfl⟩
  obtain ⟨y0, hy0⟩ : ∃ y, y = d.natAbs := ⟨_, rfl⟩
  have xb : x0 ≤ 9223372036854775807 := by omega
  have yb : y0 ≤ 9223372036854775807 := by omega
  have yp : 0 < y0 := by omega
  have gd : (d == 0) = false := by simp; omega
  have gd2 : decide (d < 0) = false := decide_eq_false (by omega)
  obtain ⟨R, hR⟩ : ∃ R, R = ofR n d := ⟨_, rfl⟩
  rw [← hR]
  unfold ofR at hR
  rw [← hx0] at HA hR
  rw [← hy0] at HB hR
  have HR := Lib.hid hR
  have hgp : 0 < Nat.gcd x0 y0 := Nat.gcd_pos_of_pos_right _ yp
  have hga : x0 / Nat.gcd x0 y0 ≤ x0 := Nat.div_le_self _ _
  have hgb : y0 / Nat.gcd x0 y0 ≤ y0 := Nat.div_le_self _ _
  clear hx0 hy0 d0 d1 hR
  have hgen := sgen; have hgen2 := sgen2; have hgen3 := sgen3; go_enter Tryd.func75, Tryd.ntmps75
  go_wp2_with (go_at_call 87; (first | (with_reducible refine (HA.out _).mono ?_) | (with_reducible refine (HB.out _).mono ?_)); rintro e w' ⟨rfl, rfl⟩)
  go_loopg [8, 9] y0 (fun gk x8 x9 wr => ∃ x y : Nat, gk = y ∧ x ≤ 9223372036854775807 ∧ y ≤ 9223372036854775807 ∧ x8 = .int .u64 (x : Int) ∧ x9 = .int .u64 (y : Int) ∧ Nat.gcd x y = Nat.gcd x0 y0 ∧ Below w.heap.size w wr ∧ wr.cell? ⟨w.heap.size, 0, none⟩ = some (.int .i64 0) ∧ wr.cell? ⟨w.heap.size, 1, none⟩ = some (.int .i64 0) ∧ wr.frozen? ⟨w.heap.size, 0, none⟩ = false ∧ wr.frozen? ⟨w.heap.size, 1, none⟩ = false ∧ w.heap.size < wr.heap.size)
  case atStart => exact ⟨x0, y0, rfl, xb, yb, rfl, rfl, rfl, by exact belz, by go_simp, by go_simp, by go_keep, by go_keep, by simp⟩
  case round =>
    obtain ⟨x, y, rfl, hx, hy, rfl, rfl, hg, hbel, k0, k1, k2, k3, klt⟩ := hrel
    have HG := Lib.hid hg
    clear hg
    by_cases hz : gk = 0
    · subst hz
      have hxg : x = Nat.gcd x0 y0 := by rw [← HG.out, Nat.gcd_zero_right]
      rw [← hxg] at HR hgp hga hgb
      have d3 : ((x : Int) == 0) = false := by simp; omega
      have d4 : (x0 : Int).tdiv (x : Int) = ((x0 / x : Nat) : Int) := rfl
      have d5 : (y0 : Int).tdiv (x : Int) = ((y0 / x : Nat) : Int) := rfl
      clear HG hxg
      generalize x0 / x = A at *
      generalize y0 / x = B at *
      have e1 : IntKind.u64.wrap (A : Int) = (A : Int) := by rw [IntKind.wrap_u64]; omega
      have e2 : IntKind.u64.wrap (B : Int) = (B : Int) := by rw [IntKind.wrap_u64]; omega
      have e3 : IntKind.i64.wrap (A : Int) = (A : Int) := IntWalk.i64_in _ (by omega)
      have e4 : IntKind.i64.wrap (B : Int) = (B : Int) := IntWalk.i64_in _ (by omega)
      have e5 : IntKind.i64.wrap (-(A : Int)) = -(A : Int) := IntWalk.i64_in _ (by omega)
      have hr := HR.out
      clear HR HA HB
      by_cases hA : 2147483647 < A
      · have t1 := decide_eq_true (show (2147483647 : Int) < (A : Int) by omega)
        rw [if_pos (.inl hA)] at hr
        subst hr
        go_upto_region 8 with fail
        go_quiet (fail)
        go_wp2_with fail
        refine bodyPost_ret (v := .tuple #[.agg #[.int .i64 0, .int .i64 0], .int .i64 14]) (by simp only [results, Tryd.results75]; go_simp) rfl ⟨rfl, ?_⟩
        exact belz
      · have t1 := decide_eq_false (show ¬ (2147483647 : Int) < (A : Int) by omega)
        by_cases hB : 2147483647 < B
        · have t2 := decide_eq_true (show (2147483647 : Int) < (B : Int) by omega)
          rw [if_pos (.inr hB)] at hr
          subst hr
          go_upto_region 8 with fail
          go_quiet (fail)
          go_wp2_with fail
          refine bodyPost_ret (v := .tuple #[.agg #[.int .i64 0, .int .i64 0], .int .i64 14]) (by simp only [results, Tryd.results75]; go_simp) rfl ⟨rfl, ?_⟩
          exact belz
        · have t2 := decide_eq_false (show ¬ (2147483647 : Int) < (B : Int) by omega)
          rw [if_neg (fun h => h.elim hA hB)] at hr
          by_cases hn : n < 0
          · have t3 := decide_eq_true hn
            rw [if_pos hn] at hr
            subst hr
            go_upto_region 8 with fail
            go_quiet (fail)
            have j0 : (wr.drewN nq).cell? ⟨w.heap.size, 0, none⟩ = some (.int .i64 0) := by go_simp
            have j1 : (wr.drewN nq).cell? ⟨w.heap.size, 1, none⟩ = some (.int .i64 0) := by go_simp
            have j2 : (wr.drewN nq).frozen? ⟨w.heap.size, 0, none⟩ = false := by go_keep
            have j3 : (wr.drewN nq).frozen? ⟨w.heap.size, 1, none⟩ = false := by go_keep
            have jl : w.heap.size < (wr.drewN nq).heap.size := by simpa using klt
            have jb : Below w.heap.size w (wr.drewN nq) := by exact belz
            generalize wr.drewN nq = wq at *
            clear hbel k0 k1 k2 k3 klt
            go_wp2_with fail
            refine bodyPost_ret (v := .tuple #[.agg #[.int .i64 (-(A : Int)), .int .i64 (B : Int)], .int .i64 0]) (by simp only [results, Tryd.results75]; go_simp) rfl ⟨rfl, ?_⟩
            exact belz
          · have t3 := decide_eq_false hn
            rw [if_neg hn] at hr
            subst hr
            go_upto_region 8 with fail
            go_quiet (fail)
            have j0 : (wr.drewN nq).cell? ⟨w.heap.size, 0, none⟩ = some (.int .i64 0) := by go_simp
            have j1 : (wr.drewN nq).cell? ⟨w.heap.size, 1, none⟩ = some (.int .i64 0) := by go_simp
            have j2 : (wr.drewN nq).frozen? ⟨w.heap.size, 0, none⟩ = false := by go_keep
            have j3 : (wr.drewN nq).frozen? ⟨w.heap.size, 1, none⟩ = false := by go_keep
            have jl : w.heap.size < (wr.drewN nq).heap.size := by simpa using klt
            have jb : Below w.heap.size w (wr.drewN nq) := by exact belz
            generalize wr.drewN nq = wq at *
            clear hbel k0 k1 k2 k3 klt
            go_wp2_with fail
            refine bodyPost_ret (v := .tuple #[.agg #[.int .i64 (A : Int), .int .i64 (B : Int)], .int .i64 0]) (by simp only [results, Tryd.results75]; go_simp) rfl ⟨rfl, ?_⟩
            exact belz
    · have d1 : ((gk : Int) != 0) = true := by simp; omega
      have d2 : ((gk : Int) == 0) = false := by simp; omega
      have hlt := Nat.mod_lt x (show 0 < gk by omega)
      have e1 : (x : Int).tmod (gk : Int) = ((x % gk : Nat) : Int) := by rw [Int.tmod_eq_emod_of_nonneg (by omega)]; rfl
      have e2 : IntKind.u64.wrap ((x % gk : Nat) : Int) = ((x % gk : Nat) : Int) := by rw [IntKind.wrap_u64]; omega
      have HX := Lib.hid (show Nat.gcd gk (x % gk) = Nat.gcd x0 y0 by rw [← HG.out, Nat.gcd_comm x gk, Nat.gcd_rec gk x, Nat.gcd_comm])
      clear HG
      generalize x % gk = r at *
      go_wp2
      go_quiet (fail)
      go_wp2
      go_roundg r
      case measure => omega
      case rel => exact ⟨gk, r, rfl, hy, by omega, rfl, rfl, HX.out, by exact belz, by go_simp, by go_simp, by go_keep, by go_keep, by simpa using klt⟩
theorem mul_sum {a b c d : Int} (h1 : -4611686014132420609 ≤ a * b ∧ a * b ≤ 4611686014132420609) (h2 : -4611686014132420609 ≤ c * d ∧ c * d ≤ 4611686014132420609) : -9223372028264841218 ≤ a * b + c * d ∧ a * b + c * d ≤ 9223372028264841218 := by omega
theorem c_Mul (n d m e : Int) (w : World) (h1 : okF (n, d)) (h2 : okF (m, e)) : Calls Tryd.prog 64 #[.agg #[.int .i64 n, .int .i64 d], .agg #[.int .i64 m, .int .i64 e]] w fun x w' => x = .returned (.tuple #[.agg #[.int .i64 (mulR (n, d) (m, e)).n, .int .i64 (mulR (n, d) (m, e)).d], .int .i64 (mulR (n, d) (m, e)).e]) ∧ Below w.heap.size w w' := by
  have HA := Lib.hid (fun w1 => c_both n d m e w1 h1 h2)
  have hp := den_pos h1 h2
  obtain ⟨d0, d1, n0, n1, -⟩ := fcE_ok h1
  obtain ⟨e0, e1, m0, m1, -⟩ := fcE_ok h2
  have b1 : -4611686014132420609 ≤ n * m ∧ n * m ≤ 4611686014132420609 := by
    by_cases hm : 0 ≤ m
    · exact mul_bd2 n0 n1 hm m1
    · have := mul_bd2 (x := n) (y := -m) n0 n1 (by omega) (by omega)
      rw [Int.mul_neg] at this
      omega
  have b2 : -4611686014132420609 ≤ d * e ∧ d * e ≤ 4611686014132420609 := mul_bd2 (by omega) (by omega) (by omega) (by omega)
  dsimp only at hp
  have HB := Lib.hid (fun w1 => c_Of (n * m) (d * e) w1 (by omega) (by omega) hp (by omega))
  have V1 : IntKind.i64.wrap (n * m) = n * m := IntWalk.i64_in _ (by omega)
  have V2 : IntKind.i64.wrap (d * e) = d * e := IntWalk.i64_in _ (by omega)
  have V3 : wrap64 (n * m) = n * m := (IntWalk.i64_left _).symm.trans V1
  have V4 : wrap64 (d * e) = d * e := (IntWalk.i64_left _).symm.trans V2
  unfold mulR
  dsimp only
  generalize ofR (n * m) (d * e) = R at *
  clear b1 b2 hp d0 d1 n0 n1 e0 e1 m0 m1
  have hgen := sgen; have hgen2 := sgen2; have hgen3 := sgen3; go_enter Tryd.func64, Tryd.ntmps64
  go_wp2_with (first | (go_at_call 60; (with_reducible refine (HA.out _).mono ?_); rintro e w1 ⟨rfl, hb⟩; have hz := hb.size; (try simp only [szA, szS, szD, szN] at hz); (try (refine bcB (n := w.heap.size) hb ?_; intro h_w_0 e_w_0 d_w_0 _ _)); (try (refine bcB (n := w.heap.size + 1) hb ?_; intro h_w_1 e_w_1 d_w_1 _ _)); (try (refine bcB (n := w.heap.size + 1 + 1) hb ?_; intro h_w_2 e_w_2 d_w_2 _ _))) | (go_at_call 75; (with_reducible refine (HB.out _).mono ?_); rintro e w2 ⟨rfl, hb⟩; have hz := hb.size; (try simp only [szA, szS, szD, szN] at hz); (try (refine bcB (n := w.heap.size) hb ?_; intro h_w_0 e_w_0 d_w_0 _ _)); (try (refine bcB (n := w.heap.size + 1) hb ?_; intro h_w_1 e_w_1 d_w_1 _ _)); (try (refine bcB (n := w.heap.size + 1 + 1) hb ?_; intro h_w_2 e_w_2 d_w_2 _ _))))
  refine bodyPost_ret (v := .tuple #[.agg #[.int .i64 R.n, .int .i64 R.d], .int .i64 R.e]) (by simp only [results, Tryd.results64]; go_simp) rfl ⟨rfl, ?_⟩
  exact belz
theorem c_Add (n d m e : Int) (w : World) (h1 : okF (n, d)) (h2 : okF (m, e)) : Calls Tryd.prog 65 #[.agg #[.int .i64 n, .int .i64 d], .agg #[.int .i64 m, .int .i64 e]] w fun x w' => x = .returned (.tuple #[.agg #[.int .i64 (addR (n, d) (m, e)).n, .int .i64 (addR (n, d) (m, e)).d], .int .i64 (addR (n, d) (m, e)).e]) ∧ Below w.heap.size w w' := by
  have HA := Lib.hid (fun w1 => c_both n d m e w1 h1 h2)
  have hp := den_pos h1 h2
  obtain ⟨d0, d1, n0, n1, -⟩ := fcE_ok h1
  obtain ⟨e0, e1, m0, m1, -⟩ := fcE_ok h2
  have b1 : -4611686014132420609 ≤ n * e ∧ n * e ≤ 4611686014132420609 := mul_bd2 n0 n1 (by omega) (by omega)
  have b3 : -4611686014132420609 ≤ m * d ∧ m * d ≤ 4611686014132420609 := mul_bd2 m0 m1 (by omega) (by omega)
  have b2 : -4611686014132420609 ≤ d * e ∧ d * e ≤ 4611686014132420609 := mul_bd2 (by omega) (by omega) (by omega) (by omega)
  have b4 := mul_sum b1 b3
  dsimp only at hp
  have HB := Lib.hid (fun w1 => c_Of (n * e + m * d) (d * e) w1 (by omega) (by omega) hp (by omega))
  have V1 : IntKind.i64.wrap (n * e) = n * e := IntWalk.i64_in _ (by omega)
  have V2 : IntKind.i64.wrap (d * e) = d * e := IntWalk.i64_in _ (by omega)
  have V3 : wrap64 (n * e) = n * e := (IntWalk.i64_left _).symm.trans V1
  have V4 : wrap64 (d * e) = d * e := (IntWalk.i64_left _).symm.trans V2
  have V5 : IntKind.i64.wrap (m * d) = m * d := IntWalk.i64_in _ (by omega)
  have V6 : wrap64 (m * d) = m * d := (IntWalk.i64_left _).symm.trans V5
  have V7 : IntKind.i64.wrap (n * e + m * d) = n * e + m * d := IntWalk.i64_in _ (by omega)
  have V8 : wrap64 (n * e + m * d) = n * e + m * d := (IntWalk.i64_left _).symm.trans V7
  unfold addR
  dsimp only
  generalize ofR (n * e + m * d) (d * e) = R at *
  clear b1 b2 b3 b4 hp d0 d1 n0 n1 e0 e1 m0 m1
  have hgen := sgen; have hgen2 := sgen2; have hgen3 := sgen3; go_enter Tryd.func65, Tryd.ntmps65
  go_wp2_with (first | (go_at_call 60; (with_reducible refine (HA.out _).mono ?_); rintro e w1 ⟨rfl, hb⟩; have hz := hb.size; (try simp only [szA, szS, szD, szN] at hz); (try (refine bcB (n := w.heap.size) hb ?_; intro h_w_0 e_w_0 d_w_0 _ _)); (try (refine bcB (n := w.heap.size + 1) hb ?_; intro h_w_1 e_w_1 d_w_1 _ _)); (try (refine bcB (n := w.heap.size + 1 + 1) hb ?_; intro h_w_2 e_w_2 d_w_2 _ _))) | (go_at_call 75; (with_reducible refine (HB.out _).mono ?_); rintro e w2 ⟨rfl, hb⟩; have hz := hb.size; (try simp only [szA, szS, szD, szN] at hz); (try (refine bcB (n := w.heap.size) hb ?_; intro h_w_0 e_w_0 d_w_0 _ _)); (try (refine bcB (n := w.heap.size + 1) hb ?_; intro h_w_1 e_w_1 d_w_1 _ _)); (try (refine bcB (n := w.heap.size + 1 + 1) hb ?_; intro h_w_2 e_w_2 d_w_2 _ _))))
  refine bodyPost_ret (v := .tuple #[.agg #[.int .i64 R.n, .int .i64 R.d], .int .i64 R.e]) (by simp only [results, Tryd.results65]; go_simp) rfl ⟨rfl, ?_⟩
  exact belz
end Go.Proofs.YtbcehnhiedbbbaaDoor
