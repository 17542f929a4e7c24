/- The contract of NoticeErr. -/
import Derived.Test.YtbcehnhiedbbbaaDoorWalkNo2
set_option linter.unusedVariables false
set_option linter.unusedSimpArgs false
namespace Go.Proofs.YtbcehnhiedbbbaaDoor
open Go.RowKit
/-- The bytes of a string in a block. -/
structure ByAt (w : World) (b : Nat) (T : ByteArray) : Prop where
  lt : b < w.heap.size
  c : ∀ (k : Nat) (c : UInt8), T.data.toList[k]? = some c → w.cell? ⟨b, k, none⟩ = some (.int .u8 (c.toNat : Int))
theorem by_new (w : World) (e : TypeId) (T : ByteArray) (b : Nat) (hb : b = w.heap.size) : ByAt (Go.Lib.bytesWorld w e T) b T := by
  subst hb
  refine ⟨by rw [Go.Lib.bytesWorld_size]; omega, fun k c h => ?_⟩
  have hk : k < T.size := by
    rcases Nat.lt_or_ge k T.data.toList.length with q | q
    · simpa using q
    · rw [List.getElem?_eq_none q] at h; cases h
  rw [Go.Lib.bytesWorld_cell w e T k hk, List.getD, h]
  rfl
set_option maxHeartbeats 2000000 in
theorem c_nErr (a n : Int) (T : ByteArray) (s : Int) (w : World) (hsz : T.size ≤ 9223372036854775807) :
    Calls Tryd.prog 14 #[.agg #[.int .i64 a, .int .i64 n, .string T, .int .i64 s]] w fun e w' => e = .returned (.int .i64 (noE a n s T.data.toList)) ∧ Below w.heap.size w w' := by
  by_cases h1 : a < 0
  · rw [noE_six _ (by omega)]
    have g := decide_eq_true h1
    have hgen := sgen; have hgen2 := sgen2; have hgen3 := sgen3; go_enter Tryd.func14, Tryd.ntmps14
    go_wp2
    go_ret
    refine ⟨rfl, ?_⟩; exact belz
  have g1 := decide_eq_false h1
  by_cases h2 : 7 < a
  · rw [noE_six _ (by omega)]
    have g := decide_eq_true h2
    have hgen := sgen; have hgen2 := sgen2; have hgen3 := sgen3; go_enter Tryd.func14, Tryd.ntmps14
    go_wp2
    go_ret
    refine ⟨rfl, ?_⟩; exact belz
  have g2 := decide_eq_false h2
  by_cases h3 : n < 1
  · rw [noE_six _ (by omega)]
    have g := decide_eq_true h3
    have hgen := sgen; have hgen2 := sgen2; have hgen3 := sgen3; go_enter Tryd.func14, Tryd.ntmps14
    go_wp2
    go_ret
    refine ⟨rfl, ?_⟩; exact belz
  have g3 := decide_eq_false h3
  by_cases h4 : 2147483647 < n
  · rw [noE_six _ (by omega)]
    have g := decide_eq_true h4
    have hgen := sgen; have hgen2 := sgen2; have hgen3 := sgen3; go_enter Tryd.func14, Tryd.ntmps14
    go_wp2
    go_ret
    refine ⟨rfl, ?_⟩; exact belz
  have g4 := decide_eq_false h4
  by_cases h5 : s < 0
  · rw [noE_six _ (by omega)]
    have g := decide_eq_true h5
    have hgen := sgen; have hgen2 := sgen2; have hgen3 := sgen3; go_enter Tryd.func14, Tryd.ntmps14
    go_wp2
    go_ret
    refine ⟨rfl, ?_⟩; exact belz
  have g5 := decide_eq_false h5
  by_cases h6 : 2147483646 < s
  · rw [noE_six _ (by omega)]
    have g := decide_eq_true h6
    have hgen := sgen; have hgen2 := sgen2; have hgen3 := sgen3; go_enter Tryd.func14, Tryd.ntmps14
    go_wp2
    go_ret
    refine ⟨rfl, ?_⟩; exact belz
  have g6 := decide_eq_false h6
  have el := str_len T
  by_cases h7 : 200 < T.size
  · rw [show noE a n s T.data.toList = 2 by unfold noE; rw [if_neg (by omega), if_pos (by omega)]]
    have g : decide (200 < (T.size : Int)) = true := decide_eq_true (by omega)
    have hgen := sgen; have hgen2 := sgen2; have hgen3 := sgen3; go_enter Tryd.func14, Tryd.ntmps14
    go_wp2
    go_ret
    refine ⟨rfl, ?_⟩; exact belz
  have g7 : decide (200 < (T.size : Int)) = false := decide_eq_false (by omega)
  obtain ⟨R, hR⟩ : ∃ R, R = noE a n s T.data.toList := ⟨_, rfl⟩
  rw [← hR]
  have hF : (if noBad (T.data.toList.drop 0) = true then (4 : Int) else 0) = R := by
    rw [hR]; unfold noE
    rw [if_neg (show ¬ (a < 0 ∨ 8 ≤ a ∨ n < 1 ∨ 2147483647 < n ∨ s < 0 ∨ 2147483647 ≤ s) by omega), if_neg (show ¬ 200 < T.data.toList.length by omega)]; rfl
  have HF := Lib.hid hF
  clear hR hF
  have hcv := fun w0 : World => Go.Lib.run_convert_string_bytes (P := Tryd.prog) w0 9 84 5 T Tryd.underlying9 Tryd.underlying84 Tryd.underlying5
  have hgen := sgen; have hgen2 := sgen2; have hgen3 := sgen3; go_enter Tryd.func14, Tryd.ntmps14
  go_wp2
  go_loopg [41] T.size (fun gk x41 wr => ∃ k : Nat, gk + k = T.size ∧ x41 = .int .i64 k ∧ (if noBad (T.data.toList.drop k) = true then (4 : Int) else 0) = R ∧ ByAt wr (w.heap.size + 1) T ∧ Below w.heap.size w wr)
  case atStart =>
    refine ⟨0, by omega, rfl, HF.out, ?_, ?_⟩
    · refine by_new _ _ _ _ ?_
      simp
    · refine Below.trans ?_ (Go.Joins.below_bytesWorld _ _ _ _ ?_) <;> first | (simp; done) | exact belz
  case round =>
    obtain ⟨k, hk, rfl, hF, hB, hbel⟩ := hrel
    have hs := hbel.size
    have hlt := hB.lt
    cases gk with
    | zero =>
      obtain rfl : k = T.size := by omega
      have hk9 : decide ((T.size : Int) < (T.size : Int)) = false := decide_eq_false (by omega)
      rw [List.drop_eq_nil_of_le (by omega)] at hF
      rw [show noBad [] = false from rfl, if_neg (by decide)] at hF
      subst hF
      go_wp2
      go_ret
      refine ⟨rfl, ?_⟩; exact belz
    | succ m =>
      have hk8 : decide ((k : Int) < (T.size : Int)) = true := decide_eq_true (by omega)
      have k0 : (0 : Int) ≤ (k : Int) := by omega
      have k1 : (k : Int) < (T.size : Int) := by omega
      obtain ⟨c, hc, hd⟩ := drop_one (l := T.data.toList) (k := k) (by omega)
      have cc := hB.c k c hc
      rw [hd, show noBad (c :: T.data.toList.drop (k + 1)) = (noB c || noBad (T.data.toList.drop (k + 1))) from rfl] at hF
      have HB := Lib.hid hB
      clear hB
      by_cases q1 : c.toNat < 32
      · have G1 : decide ((c.toNat : Int) < 32) = true := decide_eq_true (by omega)
        rw [show noB c = true by unfold noB; rw [decide_eq_true q1]; rfl] at hF
        rw [Bool.true_or, if_pos rfl] at hF
        subst hF
        go_wp2
        go_ret
        refine ⟨rfl, ?_⟩; exact belz
      have G1 : decide ((c.toNat : Int) < 32) = false := decide_eq_false (by omega)
      by_cases q2 : 126 < c.toNat
      · have G2 : decide (126 < (c.toNat : Int)) = true := decide_eq_true (by omega)
        rw [show noB c = true by unfold noB; rw [decide_eq_true q2]; simp] at hF
        rw [Bool.true_or, if_pos rfl] at hF
        subst hF
        go_wp2
        go_ret
        refine ⟨rfl, ?_⟩; exact belz
      have G2 : decide (126 < (c.toNat : Int)) = false := decide_eq_false (by omega)
      rw [show noB c = false by unfold noB; rw [decide_eq_false q1, decide_eq_false q2]; rfl, Bool.false_or] at hF
      have HF1 := Lib.hid hF
      clear hF
      go_wp2
      go_roundg m
      case measure => omega
      case rel => exact ⟨k + 1, by omega, by go_num, HF1.out, HB.out, by exact belz⟩
end Go.Proofs.YtbcehnhiedbbbaaDoor
