/- The contracts of spread.Net's Put. -/
import Derived.Test.YtbcehnhiedbbbaaDoorWalkNet
import Derived.Test.YtbcehnhiedbbbaaDoorFgI
import Derived.Deep.RegionHeld3
set_option linter.unusedVariables false
set_option linter.unusedSimpArgs false
namespace Go.Proofs.YtbcehnhiedbbbaaDoor
open Go.RowKit
theorem c_Put_node (nb ob n hc : Nat) (node au no : Int) (tx : ByteArray) (sm : Int) (w : World) (h2 : w.cell? ⟨nb, 2, none⟩ = some (.slice (some ⟨ob, 0, none⟩) n hc)) (hnb : nb < w.heap.size) (h : ¬ (0 ≤ node ∧ node < (n : Int))) :
    Calls Tryd.prog 24 #[.pointer (some ⟨nb, 0, none⟩), .int .i64 node, .agg #[.int .i64 au, .int .i64 no, .string tx, .int .i64 sm]] w fun e w' => e = .returned (.int .i64 3) ∧ Below w.heap.size w w' := by
  have hd := decide_eq_false h
  have hne : ¬ nb = w.heap.size := by omega
  have hgen := sgen; have hgen2 := sgen2; have hgen3 := sgen3; go_enter Tryd.func24, Tryd.ntmps24
  go_wp2_with (go_at_call 50; (refine (c_isNode nb (some ⟨ob, 0, none⟩) n hc _ _ (by (first | assumption | go_simp))).mono ?_); rintro e w' ⟨rfl, rfl⟩)
  go_ret
  refine ⟨rfl, ?_⟩
  exact belz
theorem c_Put_bad (nb ob n hc : Nat) (node au no : Int) (tx : ByteArray) (sm : Int) (w : World) (h2 : w.cell? ⟨nb, 2, none⟩ = some (.slice (some ⟨ob, 0, none⟩) n hc)) (hnb : nb < w.heap.size) (h : 0 ≤ node ∧ node < (n : Int)) (hsz : tx.size ≤ 9223372036854775807) (he : noE au no sm tx.data.toList ≠ 0) :
    Calls Tryd.prog 24 #[.pointer (some ⟨nb, 0, none⟩), .int .i64 node, .agg #[.int .i64 au, .int .i64 no, .string tx, .int .i64 sm]] w fun e w' => e = .returned (.int .i64 (noE au no sm tx.data.toList)) ∧ Below w.heap.size w w' := by
  have hd := decide_eq_true h
  have hne : ¬ nb = w.heap.size := by omega
  have HC := Lib.hid (fun w1 => c_nCheck au no tx sm w1 hsz)
  generalize noE au no sm tx.data.toList = x at *
  have g : (x != 0) = true := by simpa using he
  have hgen := sgen; have hgen2 := sgen2; have hgen3 := sgen3; go_enter Tryd.func24, Tryd.ntmps24
  go_wp2_with (first | (go_at_call 50; (refine (c_isNode nb (some ⟨ob, 0, none⟩) n hc _ _ (by (first | assumption | go_simp))).mono ?_); rintro e w' ⟨rfl, rfl⟩) | (go_at_call 15; (with_reducible refine (HC.out _).mono ?_); rintro e w1 ⟨rfl, hb⟩; have hz := hb.size; (try simp only [szA, szS, szD, szN] at hz); (try (refine bcB (n := w.heap.size) hb ?_; intro h_w_0 e_w_0 d_w_0 _ _))))
  go_ret
  refine ⟨rfl, ?_⟩
  exact belz
theorem c_Put_name (nb ob n hc : Nat) (ka : Option Addr) (k kc : Nat) (node au no : Int) (tx : ByteArray) (sm : Int) (w : World) (h0 : w.cell? ⟨nb, 0, none⟩ = some (.slice ka k kc)) (h2 : w.cell? ⟨nb, 2, none⟩ = some (.slice (some ⟨ob, 0, none⟩) n hc)) (hnb : nb < w.heap.size) (h : 0 ≤ node ∧ node < (n : Int)) (hsz : tx.size ≤ 9223372036854775807) (he : noE au no sm tx.data.toList = 0) (ha : ¬ (0 ≤ au ∧ au < (k : Int))) :
    Calls Tryd.prog 24 #[.pointer (some ⟨nb, 0, none⟩), .int .i64 node, .agg #[.int .i64 au, .int .i64 no, .string tx, .int .i64 sm]] w fun e w' => e = .returned (.int .i64 5) ∧ Below w.heap.size w w' := by
  have hd := decide_eq_true h
  have hd2 := decide_eq_false ha
  have hne : ¬ nb = w.heap.size := by omega
  have hc1 := fun w1 => c_nCheck au no tx sm w1 hsz
  rw [he] at hc1
  have HC := Lib.hid hc1
  clear he hc1
  have hgen := sgen; have hgen2 := sgen2; have hgen3 := sgen3; go_enter Tryd.func24, Tryd.ntmps24
  go_wp2_with (first | (go_at_call 50; (refine (c_isNode nb (some ⟨ob, 0, none⟩) n hc _ _ (by (first | assumption | go_simp))).mono ?_); rintro e w' ⟨rfl, rfl⟩) | (go_at_call 15; (with_reducible refine (HC.out _).mono ?_); rintro e w1 ⟨rfl, hb⟩; have hz := hb.size; (try simp only [szA, szS, szD, szN] at hz); (try (refine bcB (n := w.heap.size) hb ?_; intro h_w_0 e_w_0 d_w_0 _ _))) | (go_at_call 51; (refine (c_isAuthor nb ka k kc _ _ (by (rw [hb.cell (p := ⟨nb, 0, none⟩) (by simp; omega)]; go_simp))).mono ?_); rintro e w' ⟨rfl, rfl⟩))
  go_ret
  refine ⟨rfl, ?_⟩
  exact belz
/-- The key of author a lies in the net's keys. -/
structure KeyAt (w : World) (ka : Option Addr) (k kc a : Nat) (key : Int) : Prop where
  ex : ∃ kb ko, ka = some ⟨kb, ko, none⟩ ∧ kb < w.heap.size ∧ w.cell? ⟨kb, ko + a, none⟩ = some (.int .i64 key)
set_option maxHeartbeats 1000000 in
theorem c_Put_sign (nb ob n hc : Nat) (ka : Option Addr) (k kc : Nat) (node : Int) (a : Nat) (no : Int) (tx : ByteArray) (sm : Int) (key : Int) (w : World) (hT : NTab w) (h0 : w.cell? ⟨nb, 0, none⟩ = some (.slice ka k kc)) (h2 : w.cell? ⟨nb, 2, none⟩ = some (.slice (some ⟨ob, 0, none⟩) n hc)) (hnb : nb < w.heap.size) (h : 0 ≤ node ∧ node < (n : Int)) (hsz : tx.size ≤ 9223372036854775807) (he : noE (a : Int) no sm tx.data.toList = 0) (ha : a < k) (hK : KeyAt w ka k kc a key) (hk : keyB key = true) (hs : (sm == noH key (noS (a : Int) no tx.data.toList)) = false) :
    Calls Tryd.prog 24 #[.pointer (some ⟨nb, 0, none⟩), .int .i64 node, .agg #[.int .i64 (a : Int), .int .i64 no, .string tx, .int .i64 sm]] w fun e w' => e = .returned (.int .i64 13) ∧ Below w.heap.size w w' := by
  have hd := decide_eq_true h
  have hd2 := decide_eq_true (show 0 ≤ (a : Int) ∧ (a : Int) < (k : Int) from ⟨by omega, by omega⟩)
  have hne : ¬ nb = w.heap.size := by omega
  have hc1 := fun w1 => c_nCheck (a : Int) no tx sm w1 hsz
  have hr1 := fun w1 hT => c_Right_ok key (a : Int) no tx sm w1 hT hsz he hk
  rw [he] at hc1
  rw [hs] at hr1
  have HC := Lib.hid hc1
  have HR := Lib.hid hr1
  have HT := Lib.hid hT
  obtain ⟨kb, ko, rfl, hkb, hkc⟩ := hK
  have ix1 := @ix_Int (some ⟨kb, ko, none⟩) kb ko k kc a rfl ha
  clear he hc1 hr1 hT
  have hgen := sgen; have hgen2 := sgen2; have hgen3 := sgen3; go_enter Tryd.func24, Tryd.ntmps24
  go_upto_region 8 with (first | (go_at_call 50; (refine (c_isNode nb (some ⟨ob, 0, none⟩) n hc _ _ (by (first | assumption | go_simp))).mono ?_); rintro e w' ⟨rfl, rfl⟩) | (go_at_call 15; (with_reducible refine (HC.out _).mono ?_); rintro e w1 ⟨rfl, hb⟩; have hz := hb.size; (try simp only [szA, szS, szD, szN] at hz); (try (refine bcB (n := w.heap.size) hb ?_; intro h_w_0 e_w_0 d_w_0 _ _))) | (go_at_call 51; (refine (c_isAuthor nb (some ⟨kb, ko, none⟩) k kc _ _ (by (rw [hb.cell (p := ⟨nb, 0, none⟩) (by simp; omega)]; go_simp))).mono ?_); rintro e w' ⟨rfl, rfl⟩))
  have f0 : w1.cell? ⟨nb, 0, none⟩ = some (.slice (some ⟨kb, ko, none⟩) k kc) := by rw [hb.cell (p := ⟨nb, 0, none⟩) (by simp; omega)]; go_simp
  have f1 : w1.cell? ⟨kb, ko + a, none⟩ = some (.int .i64 key) := by rw [hb.cell (p := ⟨kb, ko + a, none⟩) (by simp; omega)]; go_simp
  have hs1 : w.heap.size < w1.heap.size := by assumption
  have hs2 : nb < w1.heap.size := by omega
  have hs3 : kb < w1.heap.size := by omega
  go_region_held3 (fun w' => w'.cell? ⟨nb, 0, none⟩ = some (.slice (some ⟨kb, ko, none⟩) k kc) ∧ w'.cell? ⟨kb, ko + a, none⟩ = some (.int .i64 key) ∧ w'.cell? ⟨w.heap.size, 0, none⟩ = some (.int .i64 (a : Int)) ∧ w'.cell? ⟨w.heap.size, 1, none⟩ = some (.int .i64 no) ∧ w'.cell? ⟨w.heap.size, 2, none⟩ = some (.string tx) ∧ w'.cell? ⟨w.heap.size, 3, none⟩ = some (.int .i64 sm)) (refine ⟨?_, ?_, ?_, ?_, ?_, ?_⟩ <;> (first | assumption | (go_simp; done) | (rw [hb.cell (p := ⟨nb, 0, none⟩) (by (try simp); (try omega))]; first | assumption | (go_simp; done)) | (rw [hb.cell (p := ⟨kb, ko + a, none⟩) (by (try simp); (try omega))]; first | assumption | (go_simp; done)) | go_keep)) ((go_at_call 13; (with_reducible refine (HR.out _ (HT.out.below (by exact belz))).mono ?_); rintro e w2 ⟨rfl, hb⟩; have hz := hb.size; (try simp only [szA, szS, szD, szN] at hz); (try (refine bcB (n := w.heap.size) hb ?_; intro h_w_0 e_w_0 d_w_0 _ _))))
  go_wp2_with fail
  go_ret
  refine ⟨rfl, ?_⟩
  exact belz
end Go.Proofs.YtbcehnhiedbbbaaDoor
