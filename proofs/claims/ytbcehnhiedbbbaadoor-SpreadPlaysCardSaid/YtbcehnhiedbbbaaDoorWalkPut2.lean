/- The contract of spread.Net's Put: the order, and the notice that is taken. -/
import Derived.Test.YtbcehnhiedbbbaaDoorWalkPut
import Derived.BigQuiet
set_option linter.unusedVariables false
set_option linter.unusedSimpArgs false
namespace Go.Proofs.YtbcehnhiedbbbaaDoor
open Go.RowKit
set_option maxHeartbeats 1000000 in
theorem c_Put_order (nb ob n hc : Nat) (ka : Option Addr) (k kc : Nat) (i : Nat) (a : Nat) (no : Int) (tx : ByteArray) (sm : Int) (key : Int) (w : World) (hT : NTab w) (h0 : w.cell? ⟨nb, 0, none⟩ = some (.slice ka k kc)) (h2 : w.cell? ⟨nb, 2, none⟩ = some (.slice (some ⟨ob, 0, none⟩) n hc)) (hnb : nb < w.heap.size) (hi : i < n) (hsz : tx.size ≤ 9223372036854775807) (he : noE (a : Int) no sm tx.data.toList = 0) (ha : a < k) (hK : KeyAt w ka k kc a key) (hk : keyB key = true) (hs : (sm == noH key (noS (a : Int) no tx.data.toList)) = true) (g gc : Nat) (hob : ob < w.heap.size) (hr : w.cell? ⟨ob, i, none⟩ = some (.slice (some ⟨g, 0, none⟩) k gc)) (t : Nt) (ht : NtAt w g a t) (hn : 0 < t.no) (hnw : nwF no tx t.no t.tx = false) :
    Calls Tryd.prog 24 #[.pointer (some ⟨nb, 0, none⟩), .int .i64 (i : Int), .agg #[.int .i64 (a : Int), .int .i64 no, .string tx, .int .i64 sm]] w fun e w' => e = .returned (.int .i64 9) ∧ Below w.heap.size w w' := by
  have hd := decide_eq_true (show 0 ≤ (i : Int) ∧ (i : Int) < (n : Int) from ⟨by omega, by omega⟩)
  have HNw := Lib.hid (fun w1 => c_newer (a : Int) no tx sm t.au t.no t.tx t.sm w1)
  obtain ⟨y0, y1, y2, y3, hg⟩ := ht
  have ixr := @ix_Hr ob 0 n hc i hi
  have ixt := @ix_Nt (some ⟨g, 0, none⟩) g 0 k gc a rfl ha
  simp only [Nat.zero_add] at ixr ixt
  rw [hnw] at HNw
  have dn := decide_eq_true hn
  have hd2 := decide_eq_true (show 0 ≤ (a : Int) ∧ (a : Int) < (k : Int) from ⟨by omega, by omega⟩)
  have hne : ¬ nb = w.heap.size := by omega
  have hc1 := fun w1 => c_nCheck (a : Int) no tx sm w1 hsz
  have hr1 := fun w1 hT => c_Right_ok key (a : Int) no tx sm w1 hT hsz he hk
  rw [he] at hc1
  rw [hs] at hr1
  have HC := Lib.hid hc1
  have HR := Lib.hid hr1
  have HT := Lib.hid hT
  obtain ⟨kb, ko, rfl, hkb, hkc⟩ := hK
  have ix1 := @ix_Int (some ⟨kb, ko, none⟩) kb ko k kc a rfl ha
  clear he hc1 hr1 hT
  have hgen := sgen; have hgen2 := sgen2; have hgen3 := sgen3; go_enter Tryd.func24, Tryd.ntmps24
  go_upto_region 8 with (first | (go_at_call 50; (refine (c_isNode nb (some ⟨ob, 0, none⟩) n hc _ _ (by (first | assumption | go_simp))).mono ?_); rintro e w' ⟨rfl, rfl⟩) | (go_at_call 15; (with_reducible refine (HC.out _).mono ?_); rintro e w1 ⟨rfl, hb⟩; have hz := hb.size; (try simp only [szA, szS, szD, szN] at hz); (try (refine bcB (n := w.heap.size) hb ?_; intro h_w_0 e_w_0 d_w_0 _ _))) | (go_at_call 51; (refine (c_isAuthor nb (some ⟨kb, ko, none⟩) k kc _ _ (by (rw [hb.cell (p := ⟨nb, 0, none⟩) (by simp; omega)]; go_simp))).mono ?_); rintro e w' ⟨rfl, rfl⟩))
  have f0 : w1.cell? ⟨nb, 0, none⟩ = some (.slice (some ⟨kb, ko, none⟩) k kc) := by rw [hb.cell (p := ⟨nb, 0, none⟩) (by simp; omega)]; go_simp
  have f1 : w1.cell? ⟨kb, ko + a, none⟩ = some (.int .i64 key) := by rw [hb.cell (p := ⟨kb, ko + a, none⟩) (by simp; omega)]; go_simp
  have hs1 : w.heap.size < w1.heap.size := by assumption
  have hs2 : nb < w1.heap.size := by omega
  have hs3 : kb < w1.heap.size := by omega
  go_region_held3 (fun w' => w'.cell? ⟨nb, 0, none⟩ = some (.slice (some ⟨kb, ko, none⟩) k kc) ∧ w'.cell? ⟨kb, ko + a, none⟩ = some (.int .i64 key) ∧ w'.cell? ⟨w.heap.size, 0, none⟩ = some (.int .i64 (a : Int)) ∧ w'.cell? ⟨w.heap.size, 1, none⟩ = some (.int .i64 no) ∧ w'.cell? ⟨w.heap.size, 2, none⟩ = some (.string tx) ∧ w'.cell? ⟨w.heap.size, 3, none⟩ = some (.int .i64 sm)) (refine ⟨?_, ?_, ?_, ?_, ?_, ?_⟩ <;> (first | assumption | (go_simp; done) | (rw [hb.cell (p := ⟨nb, 0, none⟩) (by (try simp); (try omega))]; first | assumption | (go_simp; done)) | (rw [hb.cell (p := ⟨kb, ko + a, none⟩) (by (try simp); (try omega))]; first | assumption | (go_simp; done)) | go_keep)) ((go_at_call 13; (with_reducible refine (HR.out _ (HT.out.below (by exact belz))).mono ?_); rintro e w2 ⟨rfl, hb⟩; have hz := hb.size; (try simp only [szA, szS, szD, szN] at hz); (try (refine bcB (n := w.heap.size) hb ?_; intro h_w_0 e_w_0 d_w_0 _ _))))
  have hB2 : Below w.heap.size w w2 := by exact belz
  have z0 : w2.cell? ⟨nb, 2, none⟩ = some (.slice (some ⟨ob, 0, none⟩) n hc) := by rw [hB2.cell (p := ⟨nb, 2, none⟩) hnb]; exact h2
  have z1 : w2.cell? ⟨ob, i, none⟩ = some (.slice (some ⟨g, 0, none⟩) k gc) := by rw [hB2.cell (p := ⟨ob, i, none⟩) hob]; exact hr
  have z2 : w2.cell? ⟨g, a * 4, none⟩ = some (.int .i64 t.au) := by rw [hB2.cell (p := ⟨g, a * 4, none⟩) hg]; exact y0
  have z3 : w2.cell? ⟨g, a * 4 + 1, none⟩ = some (.int .i64 t.no) := by rw [hB2.cell (p := ⟨g, a * 4 + 1, none⟩) hg]; exact y1
  have z4 : w2.cell? ⟨g, a * 4 + 2, none⟩ = some (.string t.tx) := by rw [hB2.cell (p := ⟨g, a * 4 + 2, none⟩) hg]; exact y2
  have z5 : w2.cell? ⟨g, a * 4 + 3, none⟩ = some (.int .i64 t.sm) := by rw [hB2.cell (p := ⟨g, a * 4 + 3, none⟩) hg]; exact y3
  have x0 : w2.cell? ⟨w.heap.size, 0, none⟩ = some (.int .i64 (a : Int)) := by go_simp
  have x1 : w2.cell? ⟨w.heap.size, 1, none⟩ = some (.int .i64 no) := by go_simp
  have x2 : w2.cell? ⟨w.heap.size, 2, none⟩ = some (.string tx) := by go_simp
  have x3 : w2.cell? ⟨w.heap.size, 3, none⟩ = some (.int .i64 sm) := by go_simp
  have hl2 : w.heap.size < w2.heap.size := by assumption
  have hl3 : nb < w2.heap.size := by omega
  have hl4 : ob < w2.heap.size := by omega
  have hl5 : g < w2.heap.size := by omega
  go_upto_region 11 with fail
  go_quiet (fail)
  have hBq : Below w.heap.size w (w2.drewN nq) := by (clear hb; exact belz)
  have v2 : (w2.drewN nq).cell? ⟨g, a * 4, none⟩ = some (.int .i64 t.au) := by go_simp
  have v3 : (w2.drewN nq).cell? ⟨g, a * 4 + 1, none⟩ = some (.int .i64 t.no) := by go_simp
  have v4 : (w2.drewN nq).cell? ⟨g, a * 4 + 2, none⟩ = some (.string t.tx) := by go_simp
  have v5 : (w2.drewN nq).cell? ⟨g, a * 4 + 3, none⟩ = some (.int .i64 t.sm) := by go_simp
  have r0 : (w2.drewN nq).cell? ⟨w.heap.size, 0, none⟩ = some (.int .i64 (a : Int)) := by go_simp
  have r1 : (w2.drewN nq).cell? ⟨w.heap.size, 1, none⟩ = some (.int .i64 no) := by go_simp
  have r2 : (w2.drewN nq).cell? ⟨w.heap.size, 2, none⟩ = some (.string tx) := by go_simp
  have r3 : (w2.drewN nq).cell? ⟨w.heap.size, 3, none⟩ = some (.int .i64 sm) := by go_simp
  have l1 : w.heap.size < (w2.drewN nq).heap.size := by simpa using hl2
  have l2 : g < (w2.drewN nq).heap.size := by simpa using hl5
  clear z0 z1 z2 z3 z4 z5 x0 x1 x2 x3 hB2
  generalize w2.drewN nq = wq at *
  go_upto_region 12 with fail
  go_region_held3 (fun w' => w'.cell? ⟨g, a * 4, none⟩ = some (.int .i64 t.au) ∧ w'.cell? ⟨g, a * 4 + 1, none⟩ = some (.int .i64 t.no) ∧ w'.cell? ⟨g, a * 4 + 2, none⟩ = some (.string t.tx) ∧ w'.cell? ⟨g, a * 4 + 3, none⟩ = some (.int .i64 t.sm) ∧ w'.cell? ⟨w.heap.size, 0, none⟩ = some (.int .i64 (a : Int)) ∧ w'.cell? ⟨w.heap.size, 1, none⟩ = some (.int .i64 no) ∧ w'.cell? ⟨w.heap.size, 2, none⟩ = some (.string tx) ∧ w'.cell? ⟨w.heap.size, 3, none⟩ = some (.int .i64 sm)) (refine ⟨?_, ?_, ?_, ?_, ?_, ?_, ?_, ?_⟩ <;> (first | assumption | (go_simp; done) | (rw [hb.cell (by first | (simp; done) | (simp; omega) | exact l1 | exact l2)]; first | assumption | (go_simp; done)) | go_keep)) ((go_at_call 48; (with_reducible refine (HNw.out _).mono ?_); rintro e w3 ⟨rfl, hb⟩; have hz := hb.size; (try simp only [szA, szS, szD, szN] at hz); (try (refine bcB (n := w.heap.size) hb ?_; intro h_w_0 e_w_0 d_w_0 _ _))))
  go_wp2_with fail
  go_ret
  refine ⟨rfl, hBq.trans ?_⟩
  (clear hBq; exact belz)
set_option maxHeartbeats 1000000 in
theorem c_Put_new (nb ob n hc : Nat) (ka : Option Addr) (k kc : Nat) (i : Nat) (a : Nat) (no : Int) (tx : ByteArray) (sm : Int) (key : Int) (w : World) (hT : NTab w) (h0 : w.cell? ⟨nb, 0, none⟩ = some (.slice ka k kc)) (h2 : w.cell? ⟨nb, 2, none⟩ = some (.slice (some ⟨ob, 0, none⟩) n hc)) (hnb : nb < w.heap.size) (hi : i < n) (hsz : tx.size ≤ 9223372036854775807) (he : noE (a : Int) no sm tx.data.toList = 0) (ha : a < k) (hK : KeyAt w ka k kc a key) (hk : keyB key = true) (hs : (sm == noH key (noS (a : Int) no tx.data.toList)) = true) (g gc : Nat) (hob : ob < w.heap.size) (hr : w.cell? ⟨ob, i, none⟩ = some (.slice (some ⟨g, 0, none⟩) k gc)) (t : Nt) (ht : NtAt w g a t) (hn : 0 < t.no) (hnw : nwF no tx t.no t.tx = true) (hf : ∀ j, w.frozen? ⟨g, j, none⟩ = false) :
    Calls Tryd.prog 24 #[.pointer (some ⟨nb, 0, none⟩), .int .i64 (i : Int), .agg #[.int .i64 (a : Int), .int .i64 no, .string tx, .int .i64 sm]] w fun e w' => e = .returned (.int .i64 0) ∧ ∃ W, Below w.heap.size w W ∧ w' = (((W.setCell ⟨g, a * 4, none⟩ (.int .i64 (a : Int))).setCell ⟨g, a * 4 + 1, none⟩ (.int .i64 no)).setCell ⟨g, a * 4 + 2, none⟩ (.string tx)).setCell ⟨g, a * 4 + 3, none⟩ (.int .i64 sm) := by
  have hd := decide_eq_true (show 0 ≤ (i : Int) ∧ (i : Int) < (n : Int) from ⟨by omega, by omega⟩)
  have HNw := Lib.hid (fun w1 => c_newer (a : Int) no tx sm t.au t.no t.tx t.sm w1)
  obtain ⟨y0, y1, y2, y3, hg⟩ := ht
  have ixr := @ix_Hr ob 0 n hc i hi
  have ixt := @ix_Nt (some ⟨g, 0, none⟩) g 0 k gc a rfl ha
  simp only [Nat.zero_add] at ixr ixt
  rw [hnw] at HNw
  have dn := decide_eq_true hn
  have hd2 := decide_eq_true (show 0 ≤ (a : Int) ∧ (a : Int) < (k : Int) from ⟨by omega, by omega⟩)
  have hne : ¬ nb = w.heap.size := by omega
  have hc1 := fun w1 => c_nCheck (a : Int) no tx sm w1 hsz
  have hr1 := fun w1 hT => c_Right_ok key (a : Int) no tx sm w1 hT hsz he hk
  rw [he] at hc1
  rw [hs] at hr1
  have HC := Lib.hid hc1
  have HR := Lib.hid hr1
  have HT := Lib.hid hT
  obtain ⟨kb, ko, rfl, hkb, hkc⟩ := hK
  have ix1 := @ix_Int (some ⟨kb, ko, none⟩) kb ko k kc a rfl ha
  clear he hc1 hr1 hT
  have hgen := sgen; have hgen2 := sgen2; have hgen3 := sgen3; go_enter Tryd.func24, Tryd.ntmps24
  go_upto_region 8 with (first | (go_at_call 50; (refine (c_isNode nb (some ⟨ob, 0, none⟩) n hc _ _ (by (first | assumption | go_simp))).mono ?_); rintro e w' ⟨rfl, rfl⟩) | (go_at_call 15; (with_reducible refine (HC.out _).mono ?_); rintro e w1 ⟨rfl, hb⟩; have hz := hb.size; (try simp only [szA, szS, szD, szN] at hz); (try (refine bcB (n := w.heap.size) hb ?_; intro h_w_0 e_w_0 d_w_0 _ _))) | (go_at_call 51; (refine (c_isAuthor nb (some ⟨kb, ko, none⟩) k kc _ _ (by (rw [hb.cell (p := ⟨nb, 0, none⟩) (by simp; omega)]; go_simp))).mono ?_); rintro e w' ⟨rfl, rfl⟩))
  have f0 : w1.cell? ⟨nb, 0, none⟩ = some (.slice (some ⟨kb, ko, none⟩) k kc) := by rw [hb.cell (p := ⟨nb, 0, none⟩) (by simp; omega)]; go_simp
  have f1 : w1.cell? ⟨kb, ko + a, none⟩ = some (.int .i64 key) := by rw [hb.cell (p := ⟨kb, ko + a, none⟩) (by simp; omega)]; go_simp
  have hs1 : w.heap.size < w1.heap.size := by assumption
  have hs2 : nb < w1.heap.size := by omega
  have hs3 : kb < w1.heap.size := by omega
  go_region_held3 (fun w' => w'.cell? ⟨nb, 0, none⟩ = some (.slice (some ⟨kb, ko, none⟩) k kc) ∧ w'.cell? ⟨kb, ko + a, none⟩ = some (.int .i64 key) ∧ w'.cell? ⟨w.heap.size, 0, none⟩ = some (.int .i64 (a : Int)) ∧ w'.cell? ⟨w.heap.size, 1, none⟩ = some (.int .i64 no) ∧ w'.cell? ⟨w.heap.size, 2, none⟩ = some (.string tx) ∧ w'.cell? ⟨w.heap.size, 3, none⟩ = some (.int .i64 sm)) (refine ⟨?_, ?_, ?_, ?_, ?_, ?_⟩ <;> (first | assumption | (go_simp; done) | (rw [hb.cell (p := ⟨nb, 0, none⟩) (by (try simp); (try omega))]; first | assumption | (go_simp; done)) | (rw [hb.cell (p := ⟨kb, ko + a, none⟩) (by (try simp); (try omega))]; first | assumption | (go_simp; done)) | go_keep)) ((go_at_call 13; (with_reducible refine (HR.out _ (HT.out.below (by exact belz))).mono ?_); rintro e w2 ⟨rfl, hb⟩; have hz := hb.size; (try simp only [szA, szS, szD, szN] at hz); (try (refine bcB (n := w.heap.size) hb ?_; intro h_w_0 e_w_0 d_w_0 _ _))))
  have hB2 : Below w.heap.size w w2 := by exact belz
  have z0 : w2.cell? ⟨nb, 2, none⟩ = some (.slice (some ⟨ob, 0, none⟩) n hc) := by rw [hB2.cell (p := ⟨nb, 2, none⟩) hnb]; exact h2
  have z1 : w2.cell? ⟨ob, i, none⟩ = some (.slice (some ⟨g, 0, none⟩) k gc) := by rw [hB2.cell (p := ⟨ob, i, none⟩) hob]; exact hr
  have z2 : w2.cell? ⟨g, a * 4, none⟩ = some (.int .i64 t.au) := by rw [hB2.cell (p := ⟨g, a * 4, none⟩) hg]; exact y0
  have z3 : w2.cell? ⟨g, a * 4 + 1, none⟩ = some (.int .i64 t.no) := by rw [hB2.cell (p := ⟨g, a * 4 + 1, none⟩) hg]; exact y1
  have z4 : w2.cell? ⟨g, a * 4 + 2, none⟩ = some (.string t.tx) := by rw [hB2.cell (p := ⟨g, a * 4 + 2, none⟩) hg]; exact y2
  have z5 : w2.cell? ⟨g, a * 4 + 3, none⟩ = some (.int .i64 t.sm) := by rw [hB2.cell (p := ⟨g, a * 4 + 3, none⟩) hg]; exact y3
  have x0 : w2.cell? ⟨w.heap.size, 0, none⟩ = some (.int .i64 (a : Int)) := by go_simp
  have x1 : w2.cell? ⟨w.heap.size, 1, none⟩ = some (.int .i64 no) := by go_simp
  have x2 : w2.cell? ⟨w.heap.size, 2, none⟩ = some (.string tx) := by go_simp
  have x3 : w2.cell? ⟨w.heap.size, 3, none⟩ = some (.int .i64 sm) := by go_simp
  have hl2 : w.heap.size < w2.heap.size := by assumption
  have hl3 : nb < w2.heap.size := by omega
  have hl4 : ob < w2.heap.size := by omega
  have hl5 : g < w2.heap.size := by omega
  go_upto_region 11 with fail
  go_quiet (fail)
  have hBq : Below w.heap.size w (w2.drewN nq) := by (clear hb; exact belz)
  have v2 : (w2.drewN nq).cell? ⟨g, a * 4, none⟩ = some (.int .i64 t.au) := by go_simp
  have v3 : (w2.drewN nq).cell? ⟨g, a * 4 + 1, none⟩ = some (.int .i64 t.no) := by go_simp
  have v4 : (w2.drewN nq).cell? ⟨g, a * 4 + 2, none⟩ = some (.string t.tx) := by go_simp
  have v5 : (w2.drewN nq).cell? ⟨g, a * 4 + 3, none⟩ = some (.int .i64 t.sm) := by go_simp
  have r0 : (w2.drewN nq).cell? ⟨w.heap.size, 0, none⟩ = some (.int .i64 (a : Int)) := by go_simp
  have r1 : (w2.drewN nq).cell? ⟨w.heap.size, 1, none⟩ = some (.int .i64 no) := by go_simp
  have r2 : (w2.drewN nq).cell? ⟨w.heap.size, 2, none⟩ = some (.string tx) := by go_simp
  have r3 : (w2.drewN nq).cell? ⟨w.heap.size, 3, none⟩ = some (.int .i64 sm) := by go_simp
  have l1 : w.heap.size < (w2.drewN nq).heap.size := by simpa using hl2
  have l2 : g < (w2.drewN nq).heap.size := by simpa using hl5
  clear z0 z1 z2 z3 z4 z5 x0 x1 x2 x3 hB2
  generalize w2.drewN nq = wq at *
  go_upto_region 12 with fail
  go_region_held3 (fun w' => w'.cell? ⟨g, a * 4, none⟩ = some (.int .i64 t.au) ∧ w'.cell? ⟨g, a * 4 + 1, none⟩ = some (.int .i64 t.no) ∧ w'.cell? ⟨g, a * 4 + 2, none⟩ = some (.string t.tx) ∧ w'.cell? ⟨g, a * 4 + 3, none⟩ = some (.int .i64 t.sm) ∧ w'.cell? ⟨w.heap.size, 0, none⟩ = some (.int .i64 (a : Int)) ∧ w'.cell? ⟨w.heap.size, 1, none⟩ = some (.int .i64 no) ∧ w'.cell? ⟨w.heap.size, 2, none⟩ = some (.string tx) ∧ w'.cell? ⟨w.heap.size, 3, none⟩ = some (.int .i64 sm)) (refine ⟨?_, ?_, ?_, ?_, ?_, ?_, ?_, ?_⟩ <;> (first | assumption | (go_simp; done) | (rw [hb.cell (by first | (simp; done) | (simp; omega) | exact l1 | exact l2)]; first | assumption | (go_simp; done)) | go_keep)) ((go_at_call 48; (with_reducible refine (HNw.out _).mono ?_); rintro e w3 ⟨rfl, hb⟩; have hz := hb.size; (try simp only [szA, szS, szD, szN] at hz); (try (refine bcB (n := w.heap.size) hb ?_; intro h_w_0 e_w_0 d_w_0 _ _))))
  have hB3 : Below w.heap.size w w3 := by
    refine hBq.trans ?_
    (clear hBq; exact belz)
  have q0 : w3.frozen? ⟨g, a * 4, none⟩ = false := (hB3.frozen (p := ⟨g, a * 4, none⟩) hg).trans (hf _)
  have q1 : w3.frozen? ⟨g, a * 4 + 1, none⟩ = false := (hB3.frozen (p := ⟨g, a * 4 + 1, none⟩) hg).trans (hf _)
  have q2 : w3.frozen? ⟨g, a * 4 + 2, none⟩ = false := (hB3.frozen (p := ⟨g, a * 4 + 2, none⟩) hg).trans (hf _)
  have q3 : w3.frozen? ⟨g, a * 4 + 3, none⟩ = false := (hB3.frozen (p := ⟨g, a * 4 + 3, none⟩) hg).trans (hf _)
  have HB3 := Lib.hid hB3
  go_wp2_with fail
  go_ret
  exact ⟨rfl, w3, HB3.out, rfl⟩
set_option maxHeartbeats 1000000 in
theorem c_Put_first (nb ob n hc : Nat) (ka : Option Addr) (k kc : Nat) (i : Nat) (a : Nat) (no : Int) (tx : ByteArray) (sm : Int) (key : Int) (w : World) (hT : NTab w) (h0 : w.cell? ⟨nb, 0, none⟩ = some (.slice ka k kc)) (h2 : w.cell? ⟨nb, 2, none⟩ = some (.slice (some ⟨ob, 0, none⟩) n hc)) (hnb : nb < w.heap.size) (hi : i < n) (hsz : tx.size ≤ 9223372036854775807) (he : noE (a : Int) no sm tx.data.toList = 0) (ha : a < k) (hK : KeyAt w ka k kc a key) (hk : keyB key = true) (hs : (sm == noH key (noS (a : Int) no tx.data.toList)) = true) (g gc : Nat) (hob : ob < w.heap.size) (hr : w.cell? ⟨ob, i, none⟩ = some (.slice (some ⟨g, 0, none⟩) k gc)) (t : Nt) (ht : NtAt w g a t) (hn : ¬ 0 < t.no) (hf : ∀ j, w.frozen? ⟨g, j, none⟩ = false) :
    Calls Tryd.prog 24 #[.pointer (some ⟨nb, 0, none⟩), .int .i64 (i : Int), .agg #[.int .i64 (a : Int), .int .i64 no, .string tx, .int .i64 sm]] w fun e w' => e = .returned (.int .i64 0) ∧ ∃ W, Below w.heap.size w W ∧ w' = (((W.setCell ⟨g, a * 4, none⟩ (.int .i64 (a : Int))).setCell ⟨g, a * 4 + 1, none⟩ (.int .i64 no)).setCell ⟨g, a * 4 + 2, none⟩ (.string tx)).setCell ⟨g, a * 4 + 3, none⟩ (.int .i64 sm) := by
  have hd := decide_eq_true (show 0 ≤ (i : Int) ∧ (i : Int) < (n : Int) from ⟨by omega, by omega⟩)
  obtain ⟨y0, y1, y2, y3, hg⟩ := ht
  have ixr := @ix_Hr ob 0 n hc i hi
  have ixt := @ix_Nt (some ⟨g, 0, none⟩) g 0 k gc a rfl ha
  simp only [Nat.zero_add] at ixr ixt
  have dn := decide_eq_false hn
  have hd2 := decide_eq_true (show 0 ≤ (a : Int) ∧ (a : Int) < (k : Int) from ⟨by omega, by omega⟩)
  have hne : ¬ nb = w.heap.size := by omega
  have hc1 := fun w1 => c_nCheck (a : Int) no tx sm w1 hsz
  have hr1 := fun w1 hT => c_Right_ok key (a : Int) no tx sm w1 hT hsz he hk
  rw [he] at hc1
  rw [hs] at hr1
  have HC := Lib.hid hc1
  have HR := Lib.hid hr1
  have HT := Lib.hid hT
  obtain ⟨kb, ko, rfl, hkb, hkc⟩ := hK
  have ix1 := @ix_Int (some ⟨kb, ko, none⟩) kb ko k kc a rfl ha
  clear he hc1 hr1 hT
  have hgen := sgen; have hgen2 := sgen2; have hgen3 := sgen3; go_enter Tryd.func24, Tryd.ntmps24
  go_upto_region 8 with (first | (go_at_call 50; (refine (c_isNode nb (some ⟨ob, 0, none⟩) n hc _ _ (by (first | assumption | go_simp))).mono ?_); rintro e w' ⟨rfl, rfl⟩) | (go_at_call 15; (with_reducible refine (HC.out _).mono ?_); rintro e w1 ⟨rfl, hb⟩; have hz := hb.size; (try simp only [szA, szS, szD, szN] at hz); (try (refine bcB (n := w.heap.size) hb ?_; intro h_w_0 e_w_0 d_w_0 _ _))) | (go_at_call 51; (refine (c_isAuthor nb (some ⟨kb, ko, none⟩) k kc _ _ (by (rw [hb.cell (p := ⟨nb, 0, none⟩) (by simp; omega)]; go_simp))).mono ?_); rintro e w' ⟨rfl, rfl⟩))
  have f0 : w1.cell? ⟨nb, 0, none⟩ = some (.slice (some ⟨kb, ko, none⟩) k kc) := by rw [hb.cell (p := ⟨nb, 0, none⟩) (by simp; omega)]; go_simp
  have f1 : w1.cell? ⟨kb, ko + a, none⟩ = some (.int .i64 key) := by rw [hb.cell (p := ⟨kb, ko + a, none⟩) (by simp; omega)]; go_simp
  have hs1 : w.heap.size < w1.heap.size := by assumption
  have hs2 : nb < w1.heap.size := by omega
  have hs3 : kb < w1.heap.size := by omega
  go_region_held3 (fun w' => w'.cell? ⟨nb, 0, none⟩ = some (.slice (some ⟨kb, ko, none⟩) k kc) ∧ w'.cell? ⟨kb, ko + a, none⟩ = some (.int .i64 key) ∧ w'.cell? ⟨w.heap.size, 0, none⟩ = some (.int .i64 (a : Int)) ∧ w'.cell? ⟨w.heap.size, 1, none⟩ = some (.int .i64 no) ∧ w'.cell? ⟨w.heap.size, 2, none⟩ = some (.string tx) ∧ w'.cell? ⟨w.heap.size, 3, none⟩ = some (.int .i64 sm)) (refine ⟨?_, ?_, ?_, ?_, ?_, ?_⟩ <;> (first | assumption | (go_simp; done) | (rw [hb.cell (p := ⟨nb, 0, none⟩) (by (try simp); (try omega))]; first | assumption | (go_simp; done)) | (rw [hb.cell (p := ⟨kb, ko + a, none⟩) (by (try simp); (try omega))]; first | assumption | (go_simp; done)) | go_keep)) ((go_at_call 13; (with_reducible refine (HR.out _ (HT.out.below (by exact belz))).mono ?_); rintro e w2 ⟨rfl, hb⟩; have hz := hb.size; (try simp only [szA, szS, szD, szN] at hz); (try (refine bcB (n := w.heap.size) hb ?_; intro h_w_0 e_w_0 d_w_0 _ _))))
  have hB2 : Below w.heap.size w w2 := by exact belz
  have z0 : w2.cell? ⟨nb, 2, none⟩ = some (.slice (some ⟨ob, 0, none⟩) n hc) := by rw [hB2.cell (p := ⟨nb, 2, none⟩) hnb]; exact h2
  have z1 : w2.cell? ⟨ob, i, none⟩ = some (.slice (some ⟨g, 0, none⟩) k gc) := by rw [hB2.cell (p := ⟨ob, i, none⟩) hob]; exact hr
  have z2 : w2.cell? ⟨g, a * 4, none⟩ = some (.int .i64 t.au) := by rw [hB2.cell (p := ⟨g, a * 4, none⟩) hg]; exact y0
  have z3 : w2.cell? ⟨g, a * 4 + 1, none⟩ = some (.int .i64 t.no) := by rw [hB2.cell (p := ⟨g, a * 4 + 1, none⟩) hg]; exact y1
  have z4 : w2.cell? ⟨g, a * 4 + 2, none⟩ = some (.string t.tx) := by rw [hB2.cell (p := ⟨g, a * 4 + 2, none⟩) hg]; exact y2
  have z5 : w2.cell? ⟨g, a * 4 + 3, none⟩ = some (.int .i64 t.sm) := by rw [hB2.cell (p := ⟨g, a * 4 + 3, none⟩) hg]; exact y3
  have x0 : w2.cell? ⟨w.heap.size, 0, none⟩ = some (.int .i64 (a : Int)) := by go_simp
  have x1 : w2.cell? ⟨w.heap.size, 1, none⟩ = some (.int .i64 no) := by go_simp
  have x2 : w2.cell? ⟨w.heap.size, 2, none⟩ = some (.string tx) := by go_simp
  have x3 : w2.cell? ⟨w.heap.size, 3, none⟩ = some (.int .i64 sm) := by go_simp
  have hl2 : w.heap.size < w2.heap.size := by assumption
  have hl3 : nb < w2.heap.size := by omega
  have hl4 : ob < w2.heap.size := by omega
  have hl5 : g < w2.heap.size := by omega
  go_upto_region 11 with fail
  go_quiet (fail)
  have hBq : Below w.heap.size w (w2.drewN nq) := by (clear hb; exact belz)
  have v2 : (w2.drewN nq).cell? ⟨g, a * 4, none⟩ = some (.int .i64 t.au) := by go_simp
  have v3 : (w2.drewN nq).cell? ⟨g, a * 4 + 1, none⟩ = some (.int .i64 t.no) := by go_simp
  have v4 : (w2.drewN nq).cell? ⟨g, a * 4 + 2, none⟩ = some (.string t.tx) := by go_simp
  have v5 : (w2.drewN nq).cell? ⟨g, a * 4 + 3, none⟩ = some (.int .i64 t.sm) := by go_simp
  have r0 : (w2.drewN nq).cell? ⟨w.heap.size, 0, none⟩ = some (.int .i64 (a : Int)) := by go_simp
  have r1 : (w2.drewN nq).cell? ⟨w.heap.size, 1, none⟩ = some (.int .i64 no) := by go_simp
  have r2 : (w2.drewN nq).cell? ⟨w.heap.size, 2, none⟩ = some (.string tx) := by go_simp
  have r3 : (w2.drewN nq).cell? ⟨w.heap.size, 3, none⟩ = some (.int .i64 sm) := by go_simp
  have l1 : w.heap.size < (w2.drewN nq).heap.size := by simpa using hl2
  have l2 : g < (w2.drewN nq).heap.size := by simpa using hl5
  clear z0 z1 z2 z3 z4 z5 x0 x1 x2 x3 hB2
  generalize w2.drewN nq = wq at *
  go_upto_region 12 with fail
  go_quiet (fail)
  have hB3 : Below w.heap.size w (wq.drewN nq) := by (clear hb; exact belz)
  have b0 : (wq.drewN nq).cell? ⟨g, a * 4, none⟩ = some (.int .i64 t.au) := by go_simp
  have b1 : (wq.drewN nq).cell? ⟨g, a * 4 + 1, none⟩ = some (.int .i64 t.no) := by go_simp
  have b2 : (wq.drewN nq).cell? ⟨g, a * 4 + 2, none⟩ = some (.string t.tx) := by go_simp
  have b3 : (wq.drewN nq).cell? ⟨g, a * 4 + 3, none⟩ = some (.int .i64 t.sm) := by go_simp
  have d0 : (wq.drewN nq).cell? ⟨w.heap.size, 0, none⟩ = some (.int .i64 (a : Int)) := by go_simp
  have d1 : (wq.drewN nq).cell? ⟨w.heap.size, 1, none⟩ = some (.int .i64 no) := by go_simp
  have d2 : (wq.drewN nq).cell? ⟨w.heap.size, 2, none⟩ = some (.string tx) := by go_simp
  have d3 : (wq.drewN nq).cell? ⟨w.heap.size, 3, none⟩ = some (.int .i64 sm) := by go_simp
  clear r0 r1 r2 r3 hBq v2 v3 v4 v5
  generalize wq.drewN nq = w3 at *
  have q0 : w3.frozen? ⟨g, a * 4, none⟩ = false := (hB3.frozen (p := ⟨g, a * 4, none⟩) hg).trans (hf _)
  have q1 : w3.frozen? ⟨g, a * 4 + 1, none⟩ = false := (hB3.frozen (p := ⟨g, a * 4 + 1, none⟩) hg).trans (hf _)
  have q2 : w3.frozen? ⟨g, a * 4 + 2, none⟩ = false := (hB3.frozen (p := ⟨g, a * 4 + 2, none⟩) hg).trans (hf _)
  have q3 : w3.frozen? ⟨g, a * 4 + 3, none⟩ = false := (hB3.frozen (p := ⟨g, a * 4 + 3, none⟩) hg).trans (hf _)
  have HB3 := Lib.hid hB3
  go_wp2_with fail
  go_ret
  exact ⟨rfl, w3, HB3.out, rfl⟩
end Go.Proofs.YtbcehnhiedbbbaaDoor
