/- Contracts of notice.sum and NoticeSum. -/
import Derived.Test.YtbcehnhiedbbbaaDoorWalkNo3
set_option linter.unusedVariables false
set_option linter.unusedSimpArgs false
namespace Go.Proofs.YtbcehnhiedbbbaaDoor
open Go.RowKit
def strB (l : List UInt8) : ByteArray := ⟨l.toArray⟩
theorem strB_l (l : List UInt8) : (strB l).data.toList = l := by unfold strB; simp
theorem strB_of (T : ByteArray) : strB T.data.toList = T := by unfold strB; simp
theorem add_str (x y : List UInt8) (h : x.length + y.length ≤ 8388608) (w0 : World) : (Op.stringOp .add (strB x) (strB y)).run Tryd.prog w0 = .ok (.string (strB (x ++ y))) w0 :=
  run_string_add_lists (P := Tryd.prog) w0 x y (by omega) (by omega)
theorem sp_str : (⟨#[32]⟩ : ByteArray) = strB [32] := rfl
/-- What a walk needs of the text that is summed. -/
theorem sum_steps {ia ib l : List UInt8} (h1 : ia.length ≤ 21) (h2 : ib.length ≤ 21) (h3 : l.length ≤ 200) :
    (∀ w0, (Op.stringOp .add (strB ia) ⟨#[32]⟩).run Tryd.prog w0 = .ok (.string (strB (ia ++ [32]))) w0) ∧
    (∀ w0, (Op.stringOp .add (strB (ia ++ [32])) (strB ib)).run Tryd.prog w0 = .ok (.string (strB (ia ++ [32] ++ ib))) w0) ∧
    (∀ w0, (Op.stringOp .add (strB (ia ++ [32] ++ ib)) ⟨#[32]⟩).run Tryd.prog w0 = .ok (.string (strB (ia ++ [32] ++ ib ++ [32]))) w0) ∧
    (∀ w0, (Op.stringOp .add (strB (ia ++ [32] ++ ib ++ [32])) (strB l)).run Tryd.prog w0 = .ok (.string (strB (ia ++ [32] ++ ib ++ [32] ++ l))) w0) := by
  refine ⟨fun w0 => add_str _ _ ?_ w0, fun w0 => add_str _ _ ?_ w0, fun w0 => add_str _ _ ?_ w0, fun w0 => add_str _ _ ?_ w0⟩ <;> (simp; omega)
set_option maxRecDepth 100000 in
set_option maxHeartbeats 2000000 in
theorem c_nSum (key a n : Int) (T : ByteArray) (s : Int) (w : World) (hT : NTab w) (k0 : 0 ≤ key) (k1 : key ≤ 1000000000) (a0 : 0 ≤ a) (a1 : a < 8) (n0 : 1 ≤ n) (n1 : n ≤ 2147483647) (hl : T.size ≤ 200) :
    Calls Tryd.prog 39 #[.int .i64 key, .agg #[.int .i64 a, .int .i64 n, .string T, .int .i64 s]] w fun e w' => e = .returned (.int .i64 (noH key (noS a n T.data.toList))) ∧ Below w.heap.size w w' := by
  have HA := Lib.hid (fun w1 h => c_Itoa a w1 h (by omega) (by omega))
  have HB := Lib.hid (fun w1 h => c_Itoa n w1 h (by omega) (by omega))
  have la := Go.Lib.itoa_length_le a (by omega) (by omega)
  have lb := Go.Lib.itoa_length_le n (by omega) (by omega)
  have HT := Lib.hid hT
  have hS : noS a n T.data.toList = Go.Lib.itoa a ++ [32] ++ Go.Lib.itoa n ++ [32] ++ T.data.toList := rfl
  have el := str_len T
  obtain ⟨S, hSS⟩ : ∃ S, S = strB (noS a n T.data.toList) := ⟨_, rfl⟩
  have hlen : S.size ≤ 300 := by rw [hSS, hS]; unfold strB; show (List.toArray _).size ≤ 300; simp; omega
  have eS : S.data.toList = noS a n T.data.toList := by rw [hSS, strB_l]
  rw [← eS]
  obtain ⟨x1, x2, x3, x4⟩ := sum_steps (ia := Go.Lib.itoa a) (ib := Go.Lib.itoa n) (l := T.data.toList) la lb (by omega)
  rw [strB_of, ← hS, ← hSS] at x4
  have e1 : (⟨(Go.Lib.itoa a).toArray⟩ : ByteArray) = strB (Go.Lib.itoa a) := rfl
  have e2 : (⟨(Go.Lib.itoa n).toArray⟩ : ByteArray) = strB (Go.Lib.itoa n) := rfl
  rw [e1] at HA
  rw [e2] at HB
  clear hS hSS eS hT e1 e2 la lb
  generalize strB (Go.Lib.itoa a) = A1 at *
  generalize strB (Go.Lib.itoa n) = B1 at *
  generalize strB (Go.Lib.itoa a ++ [32]) = A2 at *
  generalize strB (Go.Lib.itoa a ++ [32] ++ Go.Lib.itoa n) = A3 at *
  generalize strB (Go.Lib.itoa a ++ [32] ++ Go.Lib.itoa n ++ [32]) = A4 at *
  have sl := str_len S
  obtain ⟨R, hR⟩ : ∃ R, R = noH key S.data.toList := ⟨_, rfl⟩
  rw [← hR]
  have HR := Lib.hid hR
  clear hR
  have hgen := sgen; have hgen2 := sgen2; have hgen3 := sgen3; go_enter Tryd.func39, Tryd.ntmps39
  go_upto_region 1 with fail
  go_cut [5] (fun x wc => x = .string S ∧ Below w.heap.size w wc)
  case first =>
    go_region_held3 (fun w' => w'.cell? ⟨w.heap.size, 0, none⟩ = some (.int .i64 a) ∧ w'.cell? ⟨w.heap.size, 1, none⟩ = some (.int .i64 n) ∧ w'.cell? ⟨w.heap.size, 2, none⟩ = some (.string T)) (refine ⟨?_, ?_, ?_⟩ <;> (first | (go_simp; done) | go_keep)) (first | (go_at_call 40; (with_reducible refine (HA.out _ (HT.out.below (by exact belz))).mono ?_); rintro e w1 ⟨rfl, hb⟩; have hz := hb.size; (try simp only [szA, szS, szD, szN] at hz); (try (refine bcB (n := w.heap.size) hb ?_; intro h_w_0 e_w_0 d_w_0 _ _))) | (go_at_call 40; (with_reducible refine (HB.out _ (HT.out.below (by exact belz))).mono ?_); rintro e w2 ⟨rfl, hb⟩; have hz := hb.size; (try simp only [szA, szS, szD, szN] at hz); (try (refine bcB (n := w.heap.size) hb ?_; intro h_w_0 e_w_0 d_w_0 _ _)); (try (refine bcB (n := w1.heap.size) hb ?_; intro h_w1_0 e_w1_0 d_w1_0 _ _))))
    all_goals (go_step; apply_assumption; refine Met.intro ?_; apply_assumption; (repeat apply Exists.intro); refine ⟨?_, rfl⟩; exact ⟨rfl, by exact belz⟩)
  case rest =>
    obtain ⟨rfl, hbd⟩ := hcut
    have hbs := hbd.size
    obtain ⟨wo, rfl⟩ : ∃ wo : World, wo = wc := ⟨_, rfl⟩
    go_wp2
    go_loopg [6, 23] S.size (fun gk x6 x23 wr => ∃ (k : Nat) (h : Int), gk + k = S.size ∧ x23 = .int .i64 k ∧ x6 = .int .i64 h ∧ 0 ≤ h ∧ h ≤ 2147483646 ∧ (noF h (S.data.toList.drop k) * 257 + key) % 2147483647 = R ∧ Below w.heap.size w wr)
    case atStart => exact ⟨0, key, by omega, rfl, rfl, k0, by omega, HR.out.symm, by exact belz⟩
    case round =>
      obtain ⟨k, h, hk, rfl, rfl, b0, b1, hF, hbel⟩ := hrel
      have hs := hbel.size
      cases gk with
      | zero =>
        obtain rfl : k = S.size := by omega
        have hk9 : decide ((S.size : Int) < (S.size : Int)) = false := decide_eq_false (by omega)
        rw [List.drop_eq_nil_of_le (by omega)] at hF
        rw [show noF h [] = h from rfl] at hF
        clear HR
        have V1 : IntKind.i64.wrap (h * 257) = h * 257 := IntWalk.i64_in _ (by omega)
        have V2 : IntKind.i64.wrap (h * 257 + key) = h * 257 + key := IntWalk.i64_in _ (by omega)
        have e1 : (h * 257 + key).tmod 2147483647 = (h * 257 + key) % 2147483647 := by rw [Int.tmod_eq_emod_of_nonneg (by omega)]
        have V3 : IntKind.i64.wrap ((h * 257 + key) % 2147483647) = (h * 257 + key) % 2147483647 := IntWalk.i64_in _ (by omega)
        have V4 : wrap64 ((h * 257 + key) % 2147483647) = (h * 257 + key) % 2147483647 := (IntWalk.i64_left _).symm.trans V3
        rw [hF] at e1 V3 V4
        go_wp2
        go_ret
        refine ⟨rfl, ?_⟩
        exact belz
      | succ m =>
        have hk8 : decide ((k : Int) < (S.size : Int)) = true := decide_eq_true (by omega)
        obtain ⟨c, hc, hd⟩ := drop_one (l := S.data.toList) (k := k) (by omega)
        have ix := str_ix S k c hc
        have cb := c.toNat_lt
        rw [hd, show noF h (c :: S.data.toList.drop (k + 1)) = noF ((h * 257 + (c.toNat : Int) + 1) % 2147483647) (S.data.toList.drop (k + 1)) from rfl] at hF
        have V1 : IntKind.i64.wrap (h * 257) = h * 257 := IntWalk.i64_in _ (by omega)
        have V0 : IntKind.i64.wrap (c.toNat : Int) = (c.toNat : Int) := IntWalk.i64_in _ (by omega)
        have V2 : IntKind.i64.wrap (h * 257 + (c.toNat : Int)) = h * 257 + (c.toNat : Int) := IntWalk.i64_in _ (by omega)
        have V5 : IntKind.i64.wrap (h * 257 + (c.toNat : Int) + 1) = h * 257 + (c.toNat : Int) + 1 := IntWalk.i64_in _ (by omega)
        have e1 : (h * 257 + (c.toNat : Int) + 1).tmod 2147483647 = (h * 257 + (c.toNat : Int) + 1) % 2147483647 := by rw [Int.tmod_eq_emod_of_nonneg (by omega)]
        have V3 : IntKind.i64.wrap ((h * 257 + (c.toNat : Int) + 1) % 2147483647) = (h * 257 + (c.toNat : Int) + 1) % 2147483647 := IntWalk.i64_in _ (by omega)
        have V4 : wrap64 ((h * 257 + (c.toNat : Int) + 1) % 2147483647) = (h * 257 + (c.toNat : Int) + 1) % 2147483647 := (IntWalk.i64_left _).symm.trans V3
        have bb : 0 ≤ (h * 257 + (c.toNat : Int) + 1) % 2147483647 ∧ (h * 257 + (c.toNat : Int) + 1) % 2147483647 ≤ 2147483646 := by omega
        generalize (h * 257 + (c.toNat : Int) + 1) % 2147483647 = h2 at *
        have HF := Lib.hid hF
        clear hF
        go_wp2
        go_roundg m
        case measure => omega
        case rel => exact ⟨k + 1, h2, by omega, by go_num, rfl, bb.1, bb.2, HF.out, by exact belz⟩
end Go.Proofs.YtbcehnhiedbbbaaDoor
