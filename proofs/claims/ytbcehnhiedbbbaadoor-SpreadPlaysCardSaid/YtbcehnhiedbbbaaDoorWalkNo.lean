/- Contracts of strconv.Itoa, Digits, notice.Check and NoticeErr. -/
import Derived.Test.YtbcehnhiedbbbaaDoorWalkBase
import Derived.Test.YtbcehnhiedbbbaaDoorPlainNo
import Derived.Test.YtbcehnhiedbbbaaDoorShelf
import Derived.Lib.AppendIntMem
import Derived.Lib.ConvBytes
import Derived.Laws.IdiomStrings
import Derived.Deep.LoopGhost
set_option linter.unusedVariables false
set_option linter.unusedSimpArgs false
namespace Go.Proofs.YtbcehnhiedbbbaaDoor
open Go.RowKit
/-- The library's table of powers of ten, as the program's text lays it. -/
structure NTab (w : World) : Prop where
  lt : 3 < w.heap.size
  t : Go.Lib.TabIs Tryd.prog w "internal/strconv.uint64pow10" .u64 Go.Lib.pow10Tab
theorem NTab.below {w w' : World} (h : NTab w) (hb : Below w.heap.size w w') : NTab w' :=
  ⟨Nat.lt_of_lt_of_le h.lt hb.size, var?_below hb (by kernel_rfl) h.lt h.t⟩
theorem c_Itoa (n : Int) (w : World) (hT : NTab w) (h0 : -9223372036854775808 ≤ n) (h1 : n ≤ 9223372036854775807) :
    Calls Tryd.prog 40 #[.int .i64 n] w fun e w' => e = .returned (.string ⟨(Go.Lib.itoa n).toArray⟩) ∧ Below w.heap.size w w' :=
  (Tryd.strconv_Itoa n h0 h1 w hT.t).mono fun e w' ⟨h, k, os, e'⟩ => ⟨h, by rw [e']; exact Go.Lib.below_grow _ w (Nat.le_refl _) k os⟩
/-- A byte of a string. -/
theorem str_ix (T : ByteArray) (k : Nat) (c : UInt8) (h : T.data.toList[k]? = some c) (w : World) : (Instr.index 9 (.string T) (.int .i64 (k : Int))).run Tryd.prog w = .ok (.int .u8 (c.toNat : Int)) w := by
  rw [run_index_string (P := Tryd.prog) (w := w) 9 T .i64 (k : Int) Tryd.underlying9]
  have hk : k < T.size := by
    rcases Nat.lt_or_ge k T.data.toList.length with q | q
    · simpa using q
    · rw [List.getElem?_eq_none q] at h; cases h
  rw [dif_pos ⟨by omega, by exact_mod_cast hk⟩]
  have e : T[(k : Int).toNat]'(by simpa using hk) = c := by
    rw [List.getElem?_eq_getElem (by simpa using hk)] at h
    injection h
  rw [e]
theorem drop_one {l : List UInt8} {k : Nat} (h : k < l.length) : ∃ c, l[k]? = some c ∧ l.drop k = c :: l.drop (k + 1) :=
  ⟨l[k], List.getElem?_eq_getElem h, List.drop_eq_getElem_cons h⟩
theorem str_len (T : ByteArray) : T.data.toList.length = T.size := Array.length_toList
/-- A notice in memory. -/
structure NoAt (w : World) (b : Nat) (a n : Int) (T : ByteArray) (s : Int) : Prop where
  lt : b < w.heap.size
  c0 : w.cell? ⟨b, 0, none⟩ = some (.int .i64 a)
  c1 : w.cell? ⟨b, 1, none⟩ = some (.int .i64 n)
  c2 : w.cell? ⟨b, 2, none⟩ = some (.string T)
  c3 : w.cell? ⟨b, 3, none⟩ = some (.int .i64 s)
theorem noE_six {a n s : Int} (l : List UInt8) (h : a < 0 ∨ 8 ≤ a ∨ n < 1 ∨ 2147483647 < n ∨ s < 0 ∨ 2147483647 ≤ s) : noE a n s l = 3 := by unfold noE; rw [if_pos h]
set_option maxHeartbeats 2000000 in
theorem c_nCheck (a n : Int) (T : ByteArray) (s : Int) (w : World) (hsz : T.size ≤ 9223372036854775807) :
    Calls Tryd.prog 15 #[.agg #[.int .i64 a, .int .i64 n, .string T, .int .i64 s]] w fun e w' => e = .returned (.int .i64 (noE a n s T.data.toList)) ∧ Below w.heap.size w w' := by
  by_cases h1 : a < 0
  · rw [noE_six _ (by omega)]
    have g := decide_eq_true h1
    have hgen := sgen; have hgen2 := sgen2; have hgen3 := sgen3; go_enter Tryd.func15, Tryd.ntmps15
    go_wp2
    go_ret
    refine ⟨rfl, ?_⟩; exact belz
  have g1 := decide_eq_false h1
  by_cases h2 : 8 ≤ a
  · rw [noE_six _ (by omega)]
    have g := decide_eq_true h2
    have hgen := sgen; have hgen2 := sgen2; have hgen3 := sgen3; go_enter Tryd.func15, Tryd.ntmps15
    go_wp2
    go_ret
    refine ⟨rfl, ?_⟩; exact belz
  have g2 := decide_eq_false h2
  by_cases h3 : n < 1
  · rw [noE_six _ (by omega)]
    have g := decide_eq_true h3
    have hgen := sgen; have hgen2 := sgen2; have hgen3 := sgen3; go_enter Tryd.func15, Tryd.ntmps15
    go_wp2
    go_ret
    refine ⟨rfl, ?_⟩; exact belz
  have g3 := decide_eq_false h3
  by_cases h4 : 2147483647 < n
  · rw [noE_six _ (by omega)]
    have g := decide_eq_true h4
    have hgen := sgen; have hgen2 := sgen2; have hgen3 := sgen3; go_enter Tryd.func15, Tryd.ntmps15
    go_wp2
    go_ret
    refine ⟨rfl, ?_⟩; exact belz
  have g4 := decide_eq_false h4
  by_cases h5 : s < 0
  · rw [noE_six _ (by omega)]
    have g := decide_eq_true h5
    have hgen := sgen; have hgen2 := sgen2; have hgen3 := sgen3; go_enter Tryd.func15, Tryd.ntmps15
    go_wp2
    go_ret
    refine ⟨rfl, ?_⟩; exact belz
  have g5 := decide_eq_false h5
  by_cases h6 : 2147483647 ≤ s
  · rw [noE_six _ (by omega)]
    have g := decide_eq_true h6
    have hgen := sgen; have hgen2 := sgen2; have hgen3 := sgen3; go_enter Tryd.func15, Tryd.ntmps15
    go_wp2
    go_ret
    refine ⟨rfl, ?_⟩; exact belz
  have g6 := decide_eq_false h6
  have el := str_len T
  by_cases h7 : 200 < T.size
  · rw [show noE a n s T.data.toList = 2 by unfold noE; rw [if_neg (by omega), if_pos (by omega)]]
    have g : decide (200 < (T.size : Int)) = true := decide_eq_true (by omega)
    have hgen := sgen; have hgen2 := sgen2; have hgen3 := sgen3; go_enter Tryd.func15, Tryd.ntmps15
    go_wp2
    go_ret
    refine ⟨rfl, ?_⟩; exact belz
  have g7 : decide (200 < (T.size : Int)) = false := decide_eq_false (by omega)
  obtain ⟨R, hR⟩ : ∃ R, R = noE a n s T.data.toList := ⟨_, rfl⟩
  rw [← hR]
  have hF : (if noBad (T.data.toList.drop 0) = true then (4 : Int) else 0) = R := by
    rw [hR]; unfold noE
    rw [if_neg (show ¬ (a < 0 ∨ 8 ≤ a ∨ n < 1 ∨ 2147483647 < n ∨ s < 0 ∨ 2147483647 ≤ s) by omega), if_neg (show ¬ 200 < T.data.toList.length by omega)]; rfl
  have HF := Lib.hid hF
  clear hR hF
  have hgen := sgen; have hgen2 := sgen2; have hgen3 := sgen3; go_enter Tryd.func15, Tryd.ntmps15
  go_wp2
  go_loopg [39] T.size (fun gk x39 wr => ∃ k : Nat, gk + k = T.size ∧ x39 = .int .i64 k ∧ (if noBad (T.data.toList.drop k) = true then (4 : Int) else 0) = R ∧ NoAt wr w.heap.size a n T s ∧ Below w.heap.size w wr)
  case atStart =>
    refine ⟨0, by omega, rfl, HF.out, ?_, by exact belz⟩
    constructor <;> go_simp
  case round =>
    obtain ⟨k, hk, rfl, hF, hN, hbel⟩ := hrel
    have hs := hbel.size
    obtain ⟨lt, c0, c1, c2, c3⟩ := hN
    cases gk with
    | zero =>
      obtain rfl : k = T.size := by omega
      have hk9 : decide ((T.size : Int) < (T.size : Int)) = false := decide_eq_false (by omega)
      rw [List.drop_eq_nil_of_le (by omega)] at hF
      rw [show noBad [] = false from rfl, if_neg (by decide)] at hF
      subst hF
      go_wp2
      go_ret
      refine ⟨rfl, ?_⟩; exact belz
    | succ m =>
      have hk8 : decide ((k : Int) < (T.size : Int)) = true := decide_eq_true (by omega)
      obtain ⟨c, hc, hd⟩ := drop_one (l := T.data.toList) (k := k) (by omega)
      have ix := str_ix T k c hc
      rw [hd, show noBad (c :: T.data.toList.drop (k + 1)) = (noB c || noBad (T.data.toList.drop (k + 1))) from rfl] at hF
      by_cases q1 : c.toNat < 32
      · have G1 : decide ((c.toNat : Int) < 32) = true := decide_eq_true (by omega)
        rw [show noB c = true by unfold noB; rw [decide_eq_true q1]; rfl] at hF
        rw [Bool.true_or, if_pos rfl] at hF
        subst hF
        go_wp2
        go_ret
        refine ⟨rfl, ?_⟩; exact belz
      have G1 : decide ((c.toNat : Int) < 32) = false := decide_eq_false (by omega)
      by_cases q2 : 126 < c.toNat
      · have G2 : decide (126 < (c.toNat : Int)) = true := decide_eq_true (by omega)
        rw [show noB c = true by unfold noB; rw [decide_eq_true q2]; simp] at hF
        rw [Bool.true_or, if_pos rfl] at hF
        subst hF
        go_wp2
        go_ret
        refine ⟨rfl, ?_⟩; exact belz
      have G2 : decide (126 < (c.toNat : Int)) = false := decide_eq_false (by omega)
      rw [show noB c = false by unfold noB; rw [decide_eq_false q1, decide_eq_false q2]; rfl, Bool.false_or] at hF
      have HF1 := Lib.hid hF
      clear hF
      go_wp2
      go_roundg m
      case measure => omega
      case rel => exact ⟨k + 1, by omega, by go_num, HF1.out, by constructor <;> go_simp, by exact belz⟩
end Go.Proofs.YtbcehnhiedbbbaaDoor
