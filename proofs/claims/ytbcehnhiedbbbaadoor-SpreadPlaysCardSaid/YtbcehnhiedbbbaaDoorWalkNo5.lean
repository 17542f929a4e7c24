/- The contract of NoticeSum. -/
import Derived.Test.YtbcehnhiedbbbaaDoorWalkNo4
set_option linter.unusedVariables false
set_option linter.unusedSimpArgs false
namespace Go.Proofs.YtbcehnhiedbbbaaDoor
open Go.RowKit
theorem itoa_nat (u : Nat) : Go.Lib.itoa (u : Int) = Go.Lib.decDigits u := by
  unfold Go.Lib.itoa
  rw [if_neg (by omega)]
  rfl
theorem c_DigitsI (n : Int) (w : World) (h0 : 0 ≤ n) (h1 : n ≤ 9223372036854775807) : Calls Tryd.prog 19 #[.int .i64 n] w fun e w' => e = .returned (.string (strB (Go.Lib.itoa n))) ∧ Below w.heap.size w w' := by
  obtain ⟨u, rfl⟩ : ∃ u : Nat, n = (u : Int) := ⟨n.toNat, by omega⟩
  rw [itoa_nat]
  exact c_Digits u w (by omega)
theorem noT_cons (key : Int) (c : UInt8) (l : List UInt8) : noT key (c :: l) = (((noT key l).1 + ((c.toNat : Int) + 1) * (noT key l).2) % 2147483647, (noT key l).2 * 257 % 2147483647) := rfl
theorem noT_nn {key : Int} (k0 : 0 ≤ key) (k1 : key ≤ 1000000000) (l : List UInt8) : 0 ≤ (noT key l).1 ∧ (noT key l).1 ≤ 2147483646 ∧ 0 ≤ (noT key l).2 ∧ (noT key l).2 ≤ 2147483646 := by
  have := noT_bd k0 k1 l; omega
theorem mul_bd {x y X Y : Int} (x0 : 0 ≤ x) (x1 : x ≤ X) (y0 : 0 ≤ y) (y1 : y ≤ Y) : 0 ≤ x * y ∧ x * y ≤ X * Y :=
  ⟨Int.mul_nonneg x0 y0, Int.mul_le_mul x1 y1 y0 (by omega)⟩
set_option maxRecDepth 100000 in
set_option maxHeartbeats 2000000 in
theorem c_rSum (key a n : Int) (T : ByteArray) (s : Int) (w : World) (k0 : 0 ≤ key) (k1 : key ≤ 1000000000) (a0 : 0 ≤ a) (a1 : a < 8) (n0 : 1 ≤ n) (n1 : n ≤ 2147483647) (hl : T.size ≤ 200) :
    Calls Tryd.prog 16 #[.int .i64 key, .agg #[.int .i64 a, .int .i64 n, .string T, .int .i64 s]] w fun e w' => e = .returned (.int .i64 (noH key (noS a n T.data.toList))) ∧ Below w.heap.size w w' := by
  have HA := Lib.hid (fun w1 => c_DigitsI a w1 (by omega) (by omega))
  have HB := Lib.hid (fun w1 => c_DigitsI n w1 (by omega) (by omega))
  have la := Go.Lib.itoa_length_le a (by omega) (by omega)
  have lb := Go.Lib.itoa_length_le n (by omega) (by omega)
  have hS : noS a n T.data.toList = Go.Lib.itoa a ++ [32] ++ Go.Lib.itoa n ++ [32] ++ T.data.toList := rfl
  have el := str_len T
  obtain ⟨S, hSS⟩ : ∃ S, S = strB (noS a n T.data.toList) := ⟨_, rfl⟩
  have hlen : S.size ≤ 300 := by rw [hSS, hS]; unfold strB; show (List.toArray _).size ≤ 300; simp; omega
  have eS : S.data.toList = noS a n T.data.toList := by rw [hSS, strB_l]
  rw [← eS]
  obtain ⟨x1, x2, x3, x4⟩ := sum_steps (ia := Go.Lib.itoa a) (ib := Go.Lib.itoa n) (l := T.data.toList) la lb (by omega)
  rw [strB_of, ← hS, ← hSS] at x4
  clear hS hSS eS la lb
  generalize strB (Go.Lib.itoa a) = A1 at *
  generalize strB (Go.Lib.itoa n) = B1 at *
  generalize strB (Go.Lib.itoa a ++ [32]) = A2 at *
  generalize strB (Go.Lib.itoa a ++ [32] ++ Go.Lib.itoa n) = A3 at *
  generalize strB (Go.Lib.itoa a ++ [32] ++ Go.Lib.itoa n ++ [32]) = A4 at *
  have sl := str_len S
  obtain ⟨R, hR⟩ : ∃ R, R = noH key S.data.toList := ⟨_, rfl⟩
  rw [← hR]
  rw [noH_noT] at hR
  have HR := Lib.hid hR
  clear hR
  have hcv := fun w0 : World => Go.Lib.run_convert_string_bytes (P := Tryd.prog) w0 9 84 5 S Tryd.underlying9 Tryd.underlying84 Tryd.underlying5
  have hgen := sgen; have hgen2 := sgen2; have hgen3 := sgen3; go_enter Tryd.func16, Tryd.ntmps16
  go_upto_region 1 with fail
  go_cut [5] (fun x wc => ∃ (b cap : Nat), x = .slice (some ⟨b, 0, none⟩) S.size cap ∧ ByAt wc b S ∧ Below w.heap.size w wc)
  case first =>
    go_region_with (first | (go_at_call 19; (with_reducible refine (HA.out _).mono ?_); rintro e w1 ⟨rfl, hb⟩; have hz := hb.size; (try simp only [szA, szS, szD, szN] at hz); (try (refine bcB (n := w.heap.size) hb ?_; intro h_w_0 e_w_0 d_w_0 _ _))) | (go_at_call 19; (with_reducible refine (HB.out _).mono ?_); rintro e w2 ⟨rfl, hb⟩; have hz := hb.size; (try simp only [szA, szS, szD, szN] at hz); (try (refine bcB (n := w.heap.size) hb ?_; intro h_w_0 e_w_0 d_w_0 _ _)); (try (refine bcB (n := w1.heap.size) hb ?_; intro h_w1_0 e_w1_0 d_w1_0 _ _))))
    all_goals (go_step; apply_assumption; refine Met.intro ?_; apply_assumption; (repeat apply Exists.intro); refine ⟨?_, rfl⟩; exact ⟨_, _, rfl, by_new _ _ _ _ (by simp), Below.trans (by exact belz) (Go.Joins.below_bytesWorld _ _ _ _ (by omega))⟩)
  case rest =>
    obtain ⟨b, cap, rfl, hB, hbd⟩ := hcut
    have hbs := hbd.size
    clear hcv
    obtain ⟨wo, rfl⟩ : ∃ wo : World, wo = wc := ⟨_, rfl⟩
    go_wp2
    go_loopg [6, 7, 8] S.size (fun gk x6 x7 x8 wr => gk ≤ S.size ∧ x8 = .int .i64 ((gk : Int) - 1) ∧ x6 = .int .i64 (noT key (S.data.toList.drop gk)).1 ∧ x7 = .int .i64 (noT key (S.data.toList.drop gk)).2 ∧ ByAt wr b S ∧ Below w.heap.size w wr)
    case atStart =>
      refine ⟨Nat.le_refl _, rfl, ?_, ?_, hB, by exact belz⟩ <;> (rw [List.drop_eq_nil_of_le (by omega)]; rfl)
    case round =>
      obtain ⟨hk, rfl, rfl, rfl, hBr, hbel⟩ := hrel
      have hs := hbel.size
      have hlt := hBr.lt
      have bd := noT_nn k0 k1 (S.data.toList.drop gk)
      cases gk with
      | zero =>
        have e0 : (noT key (S.data.toList.drop 0)) = noT key S.data.toList := by rw [List.drop_zero]
        have hR := HR.out
        rw [← e0] at hR
        clear HR e0
        have hk9 : decide (0 ≤ (((0 : Nat) : Int) - 1)) = false := by decide
        generalize (noT key (S.data.toList.drop 0)).1 = t at *
        generalize (noT key (S.data.toList.drop 0)).2 = p at *
        obtain ⟨t0, t1, p0, p1⟩ := bd
        have mb := mul_bd k0 k1 p0 p1
        have V1 : IntKind.i64.wrap (key * p) = key * p := IntWalk.i64_in _ (by omega)
        have V2 : IntKind.i64.wrap (t + key * p) = t + key * p := IntWalk.i64_in _ (by omega)
        have e1 : (t + key * p).tmod 2147483647 = R := by rw [Int.tmod_eq_emod_of_nonneg (by omega), hR]
        have V3 : IntKind.i64.wrap R = R := IntWalk.i64_in _ (by omega)
        have V4 : wrap64 R = R := (IntWalk.i64_left _).symm.trans V3
        clear hR mb
        go_wp2
        go_ret
        refine ⟨rfl, ?_⟩
        exact belz
      | succ m =>
        have em : ((m + 1 : Nat) : Int) - 1 = (m : Int) := by omega
        rw [em]
        have hk8 : decide (0 ≤ (m : Int)) = true := decide_eq_true (by omega)
        have q0 : (0 : Int) ≤ (m : Int) := by omega
        have q1 : (m : Int) < (S.size : Int) := by omega
        obtain ⟨c, hc, hd⟩ := drop_one (l := S.data.toList) (k := m) (by omega)
        have cc := hBr.c m c hc
        have cb := c.toNat_lt
        have eT := noT_cons key c (S.data.toList.drop (m + 1))
        rw [← hd] at eT
        generalize (noT key (S.data.toList.drop (m + 1))).1 = t at *
        generalize (noT key (S.data.toList.drop (m + 1))).2 = p at *
        obtain ⟨t0, t1, p0, p1⟩ := bd
        have mb := mul_bd (x := (c.toNat : Int) + 1) (X := 256) (by omega) (by omega) p0 p1
        have V0 : IntKind.i64.wrap (c.toNat : Int) = (c.toNat : Int) := IntWalk.i64_in _ (by omega)
        have V1 : IntKind.i64.wrap ((c.toNat : Int) + 1) = (c.toNat : Int) + 1 := IntWalk.i64_in _ (by omega)
        have V2 : IntKind.i64.wrap (((c.toNat : Int) + 1) * p) = ((c.toNat : Int) + 1) * p := IntWalk.i64_in _ (by omega)
        have V3 : IntKind.i64.wrap (t + ((c.toNat : Int) + 1) * p) = t + ((c.toNat : Int) + 1) * p := IntWalk.i64_in _ (by omega)
        have e1 : (t + ((c.toNat : Int) + 1) * p).tmod 2147483647 = (t + ((c.toNat : Int) + 1) * p) % 2147483647 := by rw [Int.tmod_eq_emod_of_nonneg (by omega)]
        have V4 : IntKind.i64.wrap ((t + ((c.toNat : Int) + 1) * p) % 2147483647) = (t + ((c.toNat : Int) + 1) * p) % 2147483647 := IntWalk.i64_in _ (by omega)
        have V5 : wrap64 ((t + ((c.toNat : Int) + 1) * p) % 2147483647) = (t + ((c.toNat : Int) + 1) * p) % 2147483647 := (IntWalk.i64_left _).symm.trans V4
        have V6 : IntKind.i64.wrap (p * 257) = p * 257 := IntWalk.i64_in _ (by omega)
        have e2 : (p * 257).tmod 2147483647 = p * 257 % 2147483647 := by rw [Int.tmod_eq_emod_of_nonneg (by omega)]
        have V7 : IntKind.i64.wrap (p * 257 % 2147483647) = p * 257 % 2147483647 := IntWalk.i64_in _ (by omega)
        have V8 : wrap64 (p * 257 % 2147483647) = p * 257 % 2147483647 := (IntWalk.i64_left _).symm.trans V7
        have V9 : IntKind.i64.wrap ((m : Int) - 1) = (m : Int) - 1 := IntWalk.i64_in _ (by omega)
        generalize (t + ((c.toNat : Int) + 1) * p) % 2147483647 = t2 at *
        generalize p * 257 % 2147483647 = p2 at *
        have HB2 := Lib.hid hBr
        clear hBr mb
        go_wp2
        go_roundg m
        case measure => omega
        case rel => exact ⟨by omega, rfl, by rw [eT], by rw [eT], HB2.out, by exact belz⟩
end Go.Proofs.YtbcehnhiedbbbaaDoor
