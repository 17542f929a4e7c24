/- Contracts of planet.Radius, planet.Helio and the reference's Helio. -/
import Derived.Test.YtjkhoepohiafeaaDoorWalkPl
import Derived.Test.YtjkhoepohiafeaaDoorWalkArgX
import Derived.Deep.QuietTactic
import Derived.BigQuiet
set_option linter.unusedVariables false
set_option linter.unusedSimpArgs false
set_option maxRecDepth 100000
namespace Go.Proofs.YtjkhoepohiafeaaDoor
open Go.RowKit
structure PhMem (w : World) (b : Nat) : Prop where
  n0 : w.cell? ⟨b, 0, none⟩ = some (.string ⟨#[109, 101, 114, 99, 117, 114, 121]⟩)
  n1 : w.cell? ⟨b, 1, none⟩ = some (.string ⟨#[118, 101, 110, 117, 115]⟩)
  n2 : w.cell? ⟨b, 2, none⟩ = some (.string ⟨#[109, 97, 114, 115]⟩)
  n3 : w.cell? ⟨b, 3, none⟩ = some (.string ⟨#[106, 117, 112, 105, 116, 101, 114]⟩)
  n4 : w.cell? ⟨b, 4, none⟩ = some (.string ⟨#[115, 97, 116, 117, 114, 110]⟩)
  a0 : w.cell? ⟨b + 1, 0, none⟩ = some (.int .i64 387)
  a1 : w.cell? ⟨b + 1, 1, none⟩ = some (.int .i64 723)
  a2 : w.cell? ⟨b + 1, 2, none⟩ = some (.int .i64 1524)
  a3 : w.cell? ⟨b + 1, 3, none⟩ = some (.int .i64 5203)
  a4 : w.cell? ⟨b + 1, 4, none⟩ = some (.int .i64 9537)
  b0 : w.cell? ⟨b + 2, 0, none⟩ = some (.int .i64 986042219)
  b1 : w.cell? ⟨b + 2, 1, none⟩ = some (.int .i64 204930817)
  b2 : w.cell? ⟨b + 2, 2, none⟩ = some (.int .i64 214414189)
  b3 : w.cell? ⟨b + 2, 3, none⟩ = some (.int .i64 589101452)
  b4 : w.cell? ⟨b + 2, 4, none⟩ = some (.int .i64 310632725)
  c0 : w.cell? ⟨b + 3, 0, none⟩ = some (.int .i64 11367595694444)
  c1 : w.cell? ⟨b + 3, 1, none⟩ = some (.int .i64 4450362055556)
  c2 : w.cell? ⟨b + 3, 2, none⟩ = some (.int .i64 1455613000000)
  c3 : w.cell? ⟨b + 3, 3, none⟩ = some (.int .i64 230792472222)
  c4 : w.cell? ⟨b + 3, 4, none⟩ = some (.int .i64 92900388889)
theorem c_Radius0 (s : ByteArray) (w : World) (hP : PTab w)  (q0 : isPl 0 s = true) :
    Calls Tryd.prog 46 #[.string s] w fun e w' => e = .returned (.tuple #[.int .i64 387, .int .i64 0]) ∧ Below w.heap.size w w' := by
  have HF := Lib.hid (fun w1 (h : PTab w1) => c_find0 s w1 h q0)
  have HP := Lib.hid hP
  clear hP q0
  have hgen := sgen; have hgen2 := sgen2; have hgen3 := sgen3; go_enter Tryd.func46, Tryd.ntmps46
  go_wp2_with (go_at_call 48; (refine (HF.out _ (HP.out.below (by exact belz))).mono ?_); rintro e w1 ⟨rfl, hb⟩; have hz := hb.size; (try simp only [szA, szS, szD, szN] at hz); (try (refine bcB (n := w.heap.size) hb ?_; intro h_w_0 e_w_0 d_w_0 _ _)))
  refine bodyPost_ret (v := .tuple #[.int .i64 387, .int .i64 0]) (by simp only [results, Tryd.results46]; go_simp) rfl ⟨rfl, ?_⟩
  exact belz
theorem c_Helio0 (s : ByteArray) (t : Int) (w : World) (hT : Tab w) (hP : PTab w)  (q0 : isPl 0 s = true) (ht : instB t = true) :
    Calls Tryd.prog 45 #[.string s, .int .i64 t] w fun e w' => e = .returned (.tuple #[.agg #[.int .i64 (angLo 986042219 11367595694444 [] 5000 t), .int .i64 (angHi 986042219 11367595694444 [] 5000 t)], .int .i64 0]) ∧ Below w.heap.size w w' := by
  have HF := Lib.hid (fun w1 (h : PTab w1) => c_find0 s w1 h q0)
  have HA : Hid (∀ w1, Tab w1 → Calls Tryd.prog 79 #[.agg #[.int .i64 986042219, .int .i64 11367595694444, .slice none 0 0, .int .i64 5000], .int .i64 t] w1 fun e w' => e = .returned (.tuple #[.agg #[.int .i64 (angLo 986042219 11367595694444 [] 5000 t), .int .i64 (angHi 986042219 11367595694444 [] 5000 t)], .int .i64 0]) ∧ Below w1.heap.size w1 w') := Lib.hid (fun w1 h => c_Angle_ok 986042219 11367595694444 5000 t none 0 [] w1 h (Nat.le_refl _) (tm_nil w1 none) (by decide +kernel) ht)
  have HP := Lib.hid hP
  have HT := Lib.hid hT
  clear hP hT ht q0
  generalize angLo 986042219 11367595694444 [] 5000 t = lo at *
  generalize angHi 986042219 11367595694444 [] 5000 t = hi at *
  have hgen := sgen; have hgen2 := sgen2; have hgen3 := sgen3; go_enter Tryd.func45, Tryd.ntmps45
  go_wp2_with (first | (go_at_call 48; (refine (HF.out _ (HP.out.below (by exact belz))).mono ?_); rintro e w1 ⟨rfl, hb⟩; have hz := hb.size; (try simp only [szA, szS, szD, szN] at hz); (try (refine bcB (n := w.heap.size) hb ?_; intro h_w_0 e_w_0 d_w_0 _ _)); (try (refine bcB (n := w.heap.size + 1) hb ?_; intro h_w_1 e_w_1 d_w_1 _ _))) | (go_at_call 79; (refine (HA.out _ (HT.out.below (by exact belz))).mono ?_); rintro e w2 ⟨rfl, hb⟩; have hz := hb.size; (try simp only [szA, szS, szD, szN] at hz); (try (refine bcB (n := w.heap.size) hb ?_; intro h_w_0 e_w_0 d_w_0 _ _)); (try (refine bcB (n := w.heap.size + 1) hb ?_; intro h_w_1 e_w_1 d_w_1 _ _)); (try (refine bcB (n := w1.heap.size) hb ?_; intro h_w1_0 e_w1_0 d_w1_0 _ _))))
  refine bodyPost_ret (v := .tuple #[.agg #[.int .i64 lo, .int .i64 hi], .int .i64 0]) (by simp only [results, Tryd.results45]; go_simp) rfl ⟨rfl, ?_⟩
  exact belz
theorem c_HelioT0 (s : ByteArray) (t : Int) (w : World) (hP : PTab w)  (q0 : isPl 0 s = true) (ht : instB t = false) (t1 : -9223372036854775808 ≤ t) (t2 : t ≤ 9223372036854775807) :
    Calls Tryd.prog 45 #[.string s, .int .i64 t] w fun e w' => e = .returned (.tuple #[.agg #[.int .i64 0, .int .i64 0], .int .i64 3]) ∧ Below w.heap.size w w' := by
  have HF := Lib.hid (fun w1 (h : PTab w1) => c_find0 s w1 h q0)
  have HA : Hid (∀ w1, Calls Tryd.prog 79 #[.agg #[.int .i64 986042219, .int .i64 11367595694444, .slice none 0 0, .int .i64 5000], .int .i64 t] w1 fun e w' => e = .returned (.tuple #[.agg #[.int .i64 0, .int .i64 0], .int .i64 3]) ∧ Below w1.heap.size w1 w') := Lib.hid (fun w1 => c_Angle_time 986042219 11367595694444 5000 t none 0 [] w1 (Nat.le_refl _) (tm_nil w1 none) (by decide +kernel) ht t1 t2)
  have HP := Lib.hid hP
  clear hP ht q0
  have hgen := sgen; have hgen2 := sgen2; have hgen3 := sgen3; go_enter Tryd.func45, Tryd.ntmps45
  go_wp2_with (first | (go_at_call 48; (refine (HF.out _ (HP.out.below (by exact belz))).mono ?_); rintro e w1 ⟨rfl, hb⟩; have hz := hb.size; (try simp only [szA, szS, szD, szN] at hz); (try (refine bcB (n := w.heap.size) hb ?_; intro h_w_0 e_w_0 d_w_0 _ _)); (try (refine bcB (n := w.heap.size + 1) hb ?_; intro h_w_1 e_w_1 d_w_1 _ _))) | (go_at_call 79; (refine (HA.out _).mono ?_); rintro e w2 ⟨rfl, hb⟩; have hz := hb.size; (try simp only [szA, szS, szD, szN] at hz); (try (refine bcB (n := w.heap.size) hb ?_; intro h_w_0 e_w_0 d_w_0 _ _)); (try (refine bcB (n := w.heap.size + 1) hb ?_; intro h_w_1 e_w_1 d_w_1 _ _)); (try (refine bcB (n := w1.heap.size) hb ?_; intro h_w1_0 e_w1_0 d_w1_0 _ _))))
  refine bodyPost_ret (v := .tuple #[.agg #[.int .i64 0, .int .i64 0], .int .i64 3]) (by simp only [results, Tryd.results45]; go_simp) rfl ⟨rfl, ?_⟩
  exact belz
theorem c_rHelio0 (s : ByteArray) (t : Int) (w : World)  (q0 : isPl 0 s = true) (v : Int) (v0 : 0 ≤ v) (v1 : v < 1000000000000000) (HA : Hid (∀ w1 : World, Calls Tryd.prog 35 #[.int .i64 11367595694444, .int .i64 t] w1 fun e w' => e = .returned (.int .i64 v) ∧ w1 = w')) :
    Calls Tryd.prog 54 #[.string s, .int .i64 t] w fun e w' => e = .returned (.tuple #[.int .i64 387, .int .i64 ((v + 986042219000000) % 1000000000000000), .bool true]) ∧ Below w.heap.size w w' := by
  unfold isPl plNm at q0
  have HM := Lib.hid (fun w1 => c_rMod (v + 986042219000000) 1000000000000000 w1 (by omega) (by omega) (by omega) (by omega))
  have hgen := sgen; have hgen2 := sgen2; have hgen3 := sgen3; go_enter Tryd.func54, Tryd.ntmps54
  go_wp2_with fail
  go_loopg [11, 12, 19] 5 (fun gk x11 x12 i wr => ∃ k : Nat, k ≤ 0 ∧ gk + k = 5 ∧ i = .int .i64 k ∧ Below w.heap.size w wr ∧ PhMem wr w.heap.size)
  case atStart => exact ⟨0, by omega, by omega, rfl, by exact belz, by constructor <;> go_simp⟩
  case round =>
    obtain ⟨k, hkK, hk, rfl, hbel, hR⟩ := hrel
    have hsz := hbel.size
    obtain ⟨n0, n1, n2, n3, n4, a0, a1, a2, a3, a4, b0, b1, b2, b3, b4, c0, c1, c2, c3, c4⟩ := hR
    rcases (show k = 0 by omega) with rfl
    · have hq : ([109, 101, 114, 99, 117, 114, 121] == s.toList) = true := q0
      have w2' : IntKind.i64.wrap (v + 986042219000000) = v + 986042219000000 := IntWalk.i64_in _ (by omega)
      go_wp2_with fail
      go_quiet ((first | (go_at_call 35; exact Calls.quiet_of_same ((HA.out _).mono (fun e w' ⟨h1, h2⟩ => ⟨h1, h2.symm⟩))) | (go_at_call 16; exact Calls.quiet_of_same ((HM.out _).mono (fun e w' ⟨h1, h2⟩ => ⟨h1, h2.symm⟩)))))
      go_wp2
      refine bodyPost_ret (v := .tuple #[.int .i64 387, .int .i64 ((v + 986042219000000) % 1000000000000000), .bool true]) (by simp only [results, Tryd.results54]; go_simp) rfl ⟨rfl, ?_⟩
      exact belz
theorem c_Radius1 (s : ByteArray) (w : World) (hP : PTab w) (q0 : isPl 0 s = false) (q1 : isPl 1 s = true) :
    Calls Tryd.prog 46 #[.string s] w fun e w' => e = .returned (.tuple #[.int .i64 723, .int .i64 0]) ∧ Below w.heap.size w w' := by
  have HF := Lib.hid (fun w1 (h : PTab w1) => c_find1 s w1 h q0 q1)
  have HP := Lib.hid hP
  clear hP q0 q1
  have hgen := sgen; have hgen2 := sgen2; have hgen3 := sgen3; go_enter Tryd.func46, Tryd.ntmps46
  go_wp2_with (go_at_call 48; (refine (HF.out _ (HP.out.below (by exact belz))).mono ?_); rintro e w1 ⟨rfl, hb⟩; have hz := hb.size; (try simp only [szA, szS, szD, szN] at hz); (try (refine bcB (n := w.heap.size) hb ?_; intro h_w_0 e_w_0 d_w_0 _ _)))
  refine bodyPost_ret (v := .tuple #[.int .i64 723, .int .i64 0]) (by simp only [results, Tryd.results46]; go_simp) rfl ⟨rfl, ?_⟩
  exact belz
theorem c_Helio1 (s : ByteArray) (t : Int) (w : World) (hT : Tab w) (hP : PTab w) (q0 : isPl 0 s = false) (q1 : isPl 1 s = true) (ht : instB t = true) :
    Calls Tryd.prog 45 #[.string s, .int .i64 t] w fun e w' => e = .returned (.tuple #[.agg #[.int .i64 (angLo 204930817 4450362055556 [] 5000 t), .int .i64 (angHi 204930817 4450362055556 [] 5000 t)], .int .i64 0]) ∧ Below w.heap.size w w' := by
  have HF := Lib.hid (fun w1 (h : PTab w1) => c_find1 s w1 h q0 q1)
  have HA : Hid (∀ w1, Tab w1 → Calls Tryd.prog 79 #[.agg #[.int .i64 204930817, .int .i64 4450362055556, .slice none 0 0, .int .i64 5000], .int .i64 t] w1 fun e w' => e = .returned (.tuple #[.agg #[.int .i64 (angLo 204930817 4450362055556 [] 5000 t), .int .i64 (angHi 204930817 4450362055556 [] 5000 t)], .int .i64 0]) ∧ Below w1.heap.size w1 w') := Lib.hid (fun w1 h => c_Angle_ok 204930817 4450362055556 5000 t none 0 [] w1 h (Nat.le_refl _) (tm_nil w1 none) (by decide +kernel) ht)
  have HP := Lib.hid hP
  have HT := Lib.hid hT
  clear hP hT ht q0 q1
  generalize angLo 204930817 4450362055556 [] 5000 t = lo at *
  generalize angHi 204930817 4450362055556 [] 5000 t = hi at *
  have hgen := sgen; have hgen2 := sgen2; have hgen3 := sgen3; go_enter Tryd.func45, Tryd.ntmps45
  go_wp2_with (first | (go_at_call 48; (refine (HF.out _ (HP.out.below (by exact belz))).mono ?_); rintro e w1 ⟨rfl, hb⟩; have hz := hb.size; (try simp only [szA, szS, szD, szN] at hz); (try (refine bcB (n := w.heap.size) hb ?_; intro h_w_0 e_w_0 d_w_0 _ _)); (try (refine bcB (n := w.heap.size + 1) hb ?_; intro h_w_1 e_w_1 d_w_1 _ _))) | (go_at_call 79; (refine (HA.out _ (HT.out.below (by exact belz))).mono ?_); rintro e w2 ⟨rfl, hb⟩; have hz := hb.size; (try simp only [szA, szS, szD, szN] at hz); (try (refine bcB (n := w.heap.size) hb ?_; intro h_w_0 e_w_0 d_w_0 _ _)); (try (refine bcB (n := w.heap.size + 1) hb ?_; intro h_w_1 e_w_1 d_w_1 _ _)); (try (refine bcB (n := w1.heap.size) hb ?_; intro h_w1_0 e_w1_0 d_w1_0 _ _))))
  refine bodyPost_ret (v := .tuple #[.agg #[.int .i64 lo, .int .i64 hi], .int .i64 0]) (by simp only [results, Tryd.results45]; go_simp) rfl ⟨rfl, ?_⟩
  exact belz
theorem c_HelioT1 (s : ByteArray) (t : Int) (w : World) (hP : PTab w) (q0 : isPl 0 s = false) (q1 : isPl 1 s = true) (ht : instB t = false) (t1 : -9223372036854775808 ≤ t) (t2 : t ≤ 9223372036854775807) :
    Calls Tryd.prog 45 #[.string s, .int .i64 t] w fun e w' => e = .returned (.tuple #[.agg #[.int .i64 0, .int .i64 0], .int .i64 3]) ∧ Below w.heap.size w w' := by
  have HF := Lib.hid (fun w1 (h : PTab w1) => c_find1 s w1 h q0 q1)
  have HA : Hid (∀ w1, Calls Tryd.prog 79 #[.agg #[.int .i64 204930817, .int .i64 4450362055556, .slice none 0 0, .int .i64 5000], .int .i64 t] w1 fun e w' => e = .returned (.tuple #[.agg #[.int .i64 0, .int .i64 0], .int .i64 3]) ∧ Below w1.heap.size w1 w') := Lib.hid (fun w1 => c_Angle_time 204930817 4450362055556 5000 t none 0 [] w1 (Nat.le_refl _) (tm_nil w1 none) (by decide +kernel) ht t1 t2)
  have HP := Lib.hid hP
  clear hP ht q0 q1
  have hgen := sgen; have hgen2 := sgen2; have hgen3 := sgen3; go_enter Tryd.func45, Tryd.ntmps45
  go_wp2_with (first | (go_at_call 48; (refine (HF.out _ (HP.out.below (by exact belz))).mono ?_); rintro e w1 ⟨rfl, hb⟩; have hz := hb.size; (try simp only [szA, szS, szD, szN] at hz); (try (refine bcB (n := w.heap.size) hb ?_; intro h_w_0 e_w_0 d_w_0 _ _)); (try (refine bcB (n := w.heap.size + 1) hb ?_; intro h_w_1 e_w_1 d_w_1 _ _))) | (go_at_call 79; (refine (HA.out _).mono ?_); rintro e w2 ⟨rfl, hb⟩; have hz := hb.size; (try simp only [szA, szS, szD, szN] at hz); (try (refine bcB (n := w.heap.size) hb ?_; intro h_w_0 e_w_0 d_w_0 _ _)); (try (refine bcB (n := w.heap.size + 1) hb ?_; intro h_w_1 e_w_1 d_w_1 _ _)); (try (refine bcB (n := w1.heap.size) hb ?_; intro h_w1_0 e_w1_0 d_w1_0 _ _))))
  refine bodyPost_ret (v := .tuple #[.agg #[.int .i64 0, .int .i64 0], .int .i64 3]) (by simp only [results, Tryd.results45]; go_simp) rfl ⟨rfl, ?_⟩
  exact belz
theorem c_rHelio1 (s : ByteArray) (t : Int) (w : World) (q0 : isPl 0 s = false) (q1 : isPl 1 s = true) (v : Int) (v0 : 0 ≤ v) (v1 : v < 1000000000000000) (HA : Hid (∀ w1 : World, Calls Tryd.prog 35 #[.int .i64 4450362055556, .int .i64 t] w1 fun e w' => e = .returned (.int .i64 v) ∧ w1 = w')) :
    Calls Tryd.prog 54 #[.string s, .int .i64 t] w fun e w' => e = .returned (.tuple #[.int .i64 723, .int .i64 ((v + 204930817000000) % 1000000000000000), .bool true]) ∧ Below w.heap.size w w' := by
  unfold isPl plNm at q0
  unfold isPl plNm at q1
  have HM := Lib.hid (fun w1 => c_rMod (v + 204930817000000) 1000000000000000 w1 (by omega) (by omega) (by omega) (by omega))
  have hgen := sgen; have hgen2 := sgen2; have hgen3 := sgen3; go_enter Tryd.func54, Tryd.ntmps54
  go_wp2_with fail
  go_loopg [11, 12, 19] 5 (fun gk x11 x12 i wr => ∃ k : Nat, k ≤ 1 ∧ gk + k = 5 ∧ i = .int .i64 k ∧ Below w.heap.size w wr ∧ PhMem wr w.heap.size)
  case atStart => exact ⟨0, by omega, by omega, rfl, by exact belz, by constructor <;> go_simp⟩
  case round =>
    obtain ⟨k, hkK, hk, rfl, hbel, hR⟩ := hrel
    have hsz := hbel.size
    obtain ⟨n0, n1, n2, n3, n4, a0, a1, a2, a3, a4, b0, b1, b2, b3, b4, c0, c1, c2, c3, c4⟩ := hR
    rcases (show k = 0 ∨ k = 1 by omega) with rfl | rfl
    · have hq : ([109, 101, 114, 99, 117, 114, 121] == s.toList) = false := q0
      go_wp2
      go_roundg (5 - 1)
      case measure => omega
      case rel => exact ⟨1, by omega, by omega, by go_num, by exact belz, by constructor <;> go_simp⟩
    · have hq : ([118, 101, 110, 117, 115] == s.toList) = true := q1
      have w2' : IntKind.i64.wrap (v + 204930817000000) = v + 204930817000000 := IntWalk.i64_in _ (by omega)
      go_wp2_with fail
      go_quiet ((first | (go_at_call 35; exact Calls.quiet_of_same ((HA.out _).mono (fun e w' ⟨h1, h2⟩ => ⟨h1, h2.symm⟩))) | (go_at_call 16; exact Calls.quiet_of_same ((HM.out _).mono (fun e w' ⟨h1, h2⟩ => ⟨h1, h2.symm⟩)))))
      go_wp2
      refine bodyPost_ret (v := .tuple #[.int .i64 723, .int .i64 ((v + 204930817000000) % 1000000000000000), .bool true]) (by simp only [results, Tryd.results54]; go_simp) rfl ⟨rfl, ?_⟩
      exact belz
theorem c_Radius2 (s : ByteArray) (w : World) (hP : PTab w) (q0 : isPl 0 s = false) (q1 : isPl 1 s = false) (q2 : isPl 2 s = true) :
    Calls Tryd.prog 46 #[.string s] w fun e w' => e = .returned (.tuple #[.int .i64 1524, .int .i64 0]) ∧ Below w.heap.size w w' := by
  have HF := Lib.hid (fun w1 (h : PTab w1) => c_find2 s w1 h q0 q1 q2)
  have HP := Lib.hid hP
  clear hP q0 q1 q2
  have hgen := sgen; have hgen2 := sgen2; have hgen3 := sgen3; go_enter Tryd.func46, Tryd.ntmps46
  go_wp2_with (go_at_call 48; (refine (HF.out _ (HP.out.below (by exact belz))).mono ?_); rintro e w1 ⟨rfl, hb⟩; have hz := hb.size; (try simp only [szA, szS, szD, szN] at hz); (try (refine bcB (n := w.heap.size) hb ?_; intro h_w_0 e_w_0 d_w_0 _ _)))
  refine bodyPost_ret (v := .tuple #[.int .i64 1524, .int .i64 0]) (by simp only [results, Tryd.results46]; go_simp) rfl ⟨rfl, ?_⟩
  exact belz
theorem c_Helio2 (s : ByteArray) (t : Int) (w : World) (hT : Tab w) (hP : PTab w) (q0 : isPl 0 s = false) (q1 : isPl 1 s = false) (q2 : isPl 2 s = true) (ht : instB t = true) :
    Calls Tryd.prog 45 #[.string s, .int .i64 t] w fun e w' => e = .returned (.tuple #[.agg #[.int .i64 (angLo 214414189 1455613000000 [] 5000 t), .int .i64 (angHi 214414189 1455613000000 [] 5000 t)], .int .i64 0]) ∧ Below w.heap.size w w' := by
  have HF := Lib.hid (fun w1 (h : PTab w1) => c_find2 s w1 h q0 q1 q2)
  have HA : Hid (∀ w1, Tab w1 → Calls Tryd.prog 79 #[.agg #[.int .i64 214414189, .int .i64 1455613000000, .slice none 0 0, .int .i64 5000], .int .i64 t] w1 fun e w' => e = .returned (.tuple #[.agg #[.int .i64 (angLo 214414189 1455613000000 [] 5000 t), .int .i64 (angHi 214414189 1455613000000 [] 5000 t)], .int .i64 0]) ∧ Below w1.heap.size w1 w') := Lib.hid (fun w1 h => c_Angle_ok 214414189 1455613000000 5000 t none 0 [] w1 h (Nat.le_refl _) (tm_nil w1 none) (by decide +kernel) ht)
  have HP := Lib.hid hP
  have HT := Lib.hid hT
  clear hP hT ht q0 q1 q2
  generalize angLo 214414189 1455613000000 [] 5000 t = lo at *
  generalize angHi 214414189 1455613000000 [] 5000 t = hi at *
  have hgen := sgen; have hgen2 := sgen2; have hgen3 := sgen3; go_enter Tryd.func45, Tryd.ntmps45
  go_wp2_with (first | (go_at_call 48; (refine (HF.out _ (HP.out.below (by exact belz))).mono ?_); rintro e w1 ⟨rfl, hb⟩; have hz := hb.size; (try simp only [szA, szS, szD, szN] at hz); (try (refine bcB (n := w.heap.size) hb ?_; intro h_w_0 e_w_0 d_w_0 _ _)); (try (refine bcB (n := w.heap.size + 1) hb ?_; intro h_w_1 e_w_1 d_w_1 _ _))) | (go_at_call 79; (refine (HA.out _ (HT.out.below (by exact belz))).mono ?_); rintro e w2 ⟨rfl, hb⟩; have hz := hb.size; (try simp only [szA, szS, szD, szN] at hz); (try (refine bcB (n := w.heap.size) hb ?_; intro h_w_0 e_w_0 d_w_0 _ _)); (try (refine bcB (n := w.heap.size + 1) hb ?_; intro h_w_1 e_w_1 d_w_1 _ _)); (try (refine bcB (n := w1.heap.size) hb ?_; intro h_w1_0 e_w1_0 d_w1_0 _ _))))
  refine bodyPost_ret (v := .tuple #[.agg #[.int .i64 lo, .int .i64 hi], .int .i64 0]) (by simp only [results, Tryd.results45]; go_simp) rfl ⟨rfl, ?_⟩
  exact belz
theorem c_HelioT2 (s : ByteArray) (t : Int) (w : World) (hP : PTab w) (q0 : isPl 0 s = false) (q1 : isPl 1 s = false) (q2 : isPl 2 s = true) (ht : instB t = false) (t1 : -9223372036854775808 ≤ t) (t2 : t ≤ 9223372036854775807) :
    Calls Tryd.prog 45 #[.string s, .int .i64 t] w fun e w' => e = .returned (.tuple #[.agg #[.int .i64 0, .int .i64 0], .int .i64 3]) ∧ Below w.heap.size w w' := by
  have HF := Lib.hid (fun w1 (h : PTab w1) => c_find2 s w1 h q0 q1 q2)
  have HA : Hid (∀ w1, Calls Tryd.prog 79 #[.agg #[.int .i64 214414189, .int .i64 1455613000000, .slice none 0 0, .int .i64 5000], .int .i64 t] w1 fun e w' => e = .returned (.tuple #[.agg #[.int .i64 0, .int .i64 0], .int .i64 3]) ∧ Below w1.heap.size w1 w') := Lib.hid (fun w1 => c_Angle_time 214414189 1455613000000 5000 t none 0 [] w1 (Nat.le_refl _) (tm_nil w1 none) (by decide +kernel) ht t1 t2)
  have HP := Lib.hid hP
  clear hP ht q0 q1 q2
  have hgen := sgen; have hgen2 := sgen2; have hgen3 := sgen3; go_enter Tryd.func45, Tryd.ntmps45
  go_wp2_with (first | (go_at_call 48; (refine (HF.out _ (HP.out.below (by exact belz))).mono ?_); rintro e w1 ⟨rfl, hb⟩; have hz := hb.size; (try simp only [szA, szS, szD, szN] at hz); (try (refine bcB (n := w.heap.size) hb ?_; intro h_w_0 e_w_0 d_w_0 _ _)); (try (refine bcB (n := w.heap.size + 1) hb ?_; intro h_w_1 e_w_1 d_w_1 _ _))) | (go_at_call 79; (refine (HA.out _).mono ?_); rintro e w2 ⟨rfl, hb⟩; have hz := hb.size; (try simp only [szA, szS, szD, szN] at hz); (try (refine bcB (n := w.heap.size) hb ?_; intro h_w_0 e_w_0 d_w_0 _ _)); (try (refine bcB (n := w.heap.size + 1) hb ?_; intro h_w_1 e_w_1 d_w_1 _ _)); (try (refine bcB (n := w1.heap.size) hb ?_; intro h_w1_0 e_w1_0 d_w1_0 _ _))))
  refine bodyPost_ret (v := .tuple #[.agg #[.int .i64 0, .int .i64 0], .int .i64 3]) (by simp only [results, Tryd.results45]; go_simp) rfl ⟨rfl, ?_⟩
  exact belz
theorem c_rHelio2 (s : ByteArray) (t : Int) (w : World) (q0 : isPl 0 s = false) (q1 : isPl 1 s = false) (q2 : isPl 2 s = true) (v : Int) (v0 : 0 ≤ v) (v1 : v < 1000000000000000) (HA : Hid (∀ w1 : World, Calls Tryd.prog 35 #[.int .i64 1455613000000, .int .i64 t] w1 fun e w' => e = .returned (.int .i64 v) ∧ w1 = w')) :
    Calls Tryd.prog 54 #[.string s, .int .i64 t] w fun e w' => e = .returned (.tuple #[.int .i64 1524, .int .i64 ((v + 214414189000000) % 1000000000000000), .bool true]) ∧ Below w.heap.size w w' := by
  unfold isPl plNm at q0
  unfold isPl plNm at q1
  unfold isPl plNm at q2
  have HM := Lib.hid (fun w1 => c_rMod (v + 214414189000000) 1000000000000000 w1 (by omega) (by omega) (by omega) (by omega))
  have hgen := sgen; have hgen2 := sgen2; have hgen3 := sgen3; go_enter Tryd.func54, Tryd.ntmps54
  go_wp2_with fail
  go_loopg [11, 12, 19] 5 (fun gk x11 x12 i wr => ∃ k : Nat, k ≤ 2 ∧ gk + k = 5 ∧ i = .int .i64 k ∧ Below w.heap.size w wr ∧ PhMem wr w.heap.size)
  case atStart => exact ⟨0, by omega, by omega, rfl, by exact belz, by constructor <;> go_simp⟩
  case round =>
    obtain ⟨k, hkK, hk, rfl, hbel, hR⟩ := hrel
    have hsz := hbel.size
    obtain ⟨n0, n1, n2, n3, n4, a0, a1, a2, a3, a4, b0, b1, b2, b3, b4, c0, c1, c2, c3, c4⟩ := hR
    rcases (show k = 0 ∨ k = 1 ∨ k = 2 by omega) with rfl | rfl | rfl
    · have hq : ([109, 101, 114, 99, 117, 114, 121] == s.toList) = false := q0
      go_wp2
      go_roundg (5 - 1)
      case measure => omega
      case rel => exact ⟨1, by omega, by omega, by go_num, by exact belz, by constructor <;> go_simp⟩
    · have hq : ([118, 101, 110, 117, 115] == s.toList) = false := q1
      go_wp2
      go_roundg (5 - 2)
      case measure => omega
      case rel => exact ⟨2, by omega, by omega, by go_num, by exact belz, by constructor <;> go_simp⟩
    · have hq : ([109, 97, 114, 115] == s.toList) = true := q2
      have w2' : IntKind.i64.wrap (v + 214414189000000) = v + 214414189000000 := IntWalk.i64_in _ (by omega)
      go_wp2_with fail
      go_quiet ((first | (go_at_call 35; exact Calls.quiet_of_same ((HA.out _).mono (fun e w' ⟨h1, h2⟩ => ⟨h1, h2.symm⟩))) | (go_at_call 16; exact Calls.quiet_of_same ((HM.out _).mono (fun e w' ⟨h1, h2⟩ => ⟨h1, h2.symm⟩)))))
      go_wp2
      refine bodyPost_ret (v := .tuple #[.int .i64 1524, .int .i64 ((v + 214414189000000) % 1000000000000000), .bool true]) (by simp only [results, Tryd.results54]; go_simp) rfl ⟨rfl, ?_⟩
      exact belz
theorem c_Radius3 (s : ByteArray) (w : World) (hP : PTab w) (q0 : isPl 0 s = false) (q1 : isPl 1 s = false) (q2 : isPl 2 s = false) (q3 : isPl 3 s = true) :
    Calls Tryd.prog 46 #[.string s] w fun e w' => e = .returned (.tuple #[.int .i64 5203, .int .i64 0]) ∧ Below w.heap.size w w' := by
  have HF := Lib.hid (fun w1 (h : PTab w1) => c_find3 s w1 h q0 q1 q2 q3)
  have HP := Lib.hid hP
  clear hP q0 q1 q2 q3
  have hgen := sgen; have hgen2 := sgen2; have hgen3 := sgen3; go_enter Tryd.func46, Tryd.ntmps46
  go_wp2_with (go_at_call 48; (refine (HF.out _ (HP.out.below (by exact belz))).mono ?_); rintro e w1 ⟨rfl, hb⟩; have hz := hb.size; (try simp only [szA, szS, szD, szN] at hz); (try (refine bcB (n := w.heap.size) hb ?_; intro h_w_0 e_w_0 d_w_0 _ _)))
  refine bodyPost_ret (v := .tuple #[.int .i64 5203, .int .i64 0]) (by simp only [results, Tryd.results46]; go_simp) rfl ⟨rfl, ?_⟩
  exact belz
theorem c_Helio3 (s : ByteArray) (t : Int) (w : World) (hT : Tab w) (hP : PTab w) (q0 : isPl 0 s = false) (q1 : isPl 1 s = false) (q2 : isPl 2 s = false) (q3 : isPl 3 s = true) (ht : instB t = true) :
    Calls Tryd.prog 45 #[.string s, .int .i64 t] w fun e w' => e = .returned (.tuple #[.agg #[.int .i64 (angLo 589101452 230792472222 [] 5000 t), .int .i64 (angHi 589101452 230792472222 [] 5000 t)], .int .i64 0]) ∧ Below w.heap.size w w' := by
  have HF := Lib.hid (fun w1 (h : PTab w1) => c_find3 s w1 h q0 q1 q2 q3)
  have HA : Hid (∀ w1, Tab w1 → Calls Tryd.prog 79 #[.agg #[.int .i64 589101452, .int .i64 230792472222, .slice none 0 0, .int .i64 5000], .int .i64 t] w1 fun e w' => e = .returned (.tuple #[.agg #[.int .i64 (angLo 589101452 230792472222 [] 5000 t), .int .i64 (angHi 589101452 230792472222 [] 5000 t)], .int .i64 0]) ∧ Below w1.heap.size w1 w') := Lib.hid (fun w1 h => c_Angle_ok 589101452 230792472222 5000 t none 0 [] w1 h (Nat.le_refl _) (tm_nil w1 none) (by decide +kernel) ht)
  have HP := Lib.hid hP
  have HT := Lib.hid hT
  clear hP hT ht q0 q1 q2 q3
  generalize angLo 589101452 230792472222 [] 5000 t = lo at *
  generalize angHi 589101452 230792472222 [] 5000 t = hi at *
  have hgen := sgen; have hgen2 := sgen2; have hgen3 := sgen3; go_enter Tryd.func45, Tryd.ntmps45
  go_wp2_with (first | (go_at_call 48; (refine (HF.out _ (HP.out.below (by exact belz))).mono ?_); rintro e w1 ⟨rfl, hb⟩; have hz := hb.size; (try simp only [szA, szS, szD, szN] at hz); (try (refine bcB (n := w.heap.size) hb ?_; intro h_w_0 e_w_0 d_w_0 _ _)); (try (refine bcB (n := w.heap.size + 1) hb ?_; intro h_w_1 e_w_1 d_w_1 _ _))) | (go_at_call 79; (refine (HA.out _ (HT.out.below (by exact belz))).mono ?_); rintro e w2 ⟨rfl, hb⟩; have hz := hb.size; (try simp only [szA, szS, szD, szN] at hz); (try (refine bcB (n := w.heap.size) hb ?_; intro h_w_0 e_w_0 d_w_0 _ _)); (try (refine bcB (n := w.heap.size + 1) hb ?_; intro h_w_1 e_w_1 d_w_1 _ _)); (try (refine bcB (n := w1.heap.size) hb ?_; intro h_w1_0 e_w1_0 d_w1_0 _ _))))
  refine bodyPost_ret (v := .tuple #[.agg #[.int .i64 lo, .int .i64 hi], .int .i64 0]) (by simp only [results, Tryd.results45]; go_simp) rfl ⟨rfl, ?_⟩
  exact belz
theorem c_HelioT3 (s : ByteArray) (t : Int) (w : World) (hP : PTab w) (q0 : isPl 0 s = false) (q1 : isPl 1 s = false) (q2 : isPl 2 s = false) (q3 : isPl 3 s = true) (ht : instB t = false) (t1 : -9223372036854775808 ≤ t) (t2 : t ≤ 9223372036854775807) :
    Calls Tryd.prog 45 #[.string s, .int .i64 t] w fun e w' => e = .returned (.tuple #[.agg #[.int .i64 0, .int .i64 0], .int .i64 3]) ∧ Below w.heap.size w w' := by
  have HF := Lib.hid (fun w1 (h : PTab w1) => c_find3 s w1 h q0 q1 q2 q3)
  have HA : Hid (∀ w1, Calls Tryd.prog 79 #[.agg #[.int .i64 589101452, .int .i64 230792472222, .slice none 0 0, .int .i64 5000], .int .i64 t] w1 fun e w' => e = .returned (.tuple #[.agg #[.int .i64 0, .int .i64 0], .int .i64 3]) ∧ Below w1.heap.size w1 w') := Lib.hid (fun w1 => c_Angle_time 589101452 230792472222 5000 t none 0 [] w1 (Nat.le_refl _) (tm_nil w1 none) (by decide +kernel) ht t1 t2)
  have HP := Lib.hid hP
  clear hP ht q0 q1 q2 q3
  have hgen := sgen; have hgen2 := sgen2; have hgen3 := sgen3; go_enter Tryd.func45, Tryd.ntmps45
  go_wp2_with (first | (go_at_call 48; (refine (HF.out _ (HP.out.below (by exact belz))).mono ?_); rintro e w1 ⟨rfl, hb⟩; have hz := hb.size; (try simp only [szA, szS, szD, szN] at hz); (try (refine bcB (n := w.heap.size) hb ?_; intro h_w_0 e_w_0 d_w_0 _ _)); (try (refine bcB (n := w.heap.size + 1) hb ?_; intro h_w_1 e_w_1 d_w_1 _ _))) | (go_at_call 79; (refine (HA.out _).mono ?_); rintro e w2 ⟨rfl, hb⟩; have hz := hb.size; (try simp only [szA, szS, szD, szN] at hz); (try (refine bcB (n := w.heap.size) hb ?_; intro h_w_0 e_w_0 d_w_0 _ _)); (try (refine bcB (n := w.heap.size + 1) hb ?_; intro h_w_1 e_w_1 d_w_1 _ _)); (try (refine bcB (n := w1.heap.size) hb ?_; intro h_w1_0 e_w1_0 d_w1_0 _ _))))
  refine bodyPost_ret (v := .tuple #[.agg #[.int .i64 0, .int .i64 0], .int .i64 3]) (by simp only [results, Tryd.results45]; go_simp) rfl ⟨rfl, ?_⟩
  exact belz
theorem c_rHelio3 (s : ByteArray) (t : Int) (w : World) (q0 : isPl 0 s = false) (q1 : isPl 1 s = false) (q2 : isPl 2 s = false) (q3 : isPl 3 s = true) (v : Int) (v0 : 0 ≤ v) (v1 : v < 1000000000000000) (HA : Hid (∀ w1 : World, Calls Tryd.prog 35 #[.int .i64 230792472222, .int .i64 t] w1 fun e w' => e = .returned (.int .i64 v) ∧ w1 = w')) :
    Calls Tryd.prog 54 #[.string s, .int .i64 t] w fun e w' => e = .returned (.tuple #[.int .i64 5203, .int .i64 ((v + 589101452000000) % 1000000000000000), .bool true]) ∧ Below w.heap.size w w' := by
  unfold isPl plNm at q0
  unfold isPl plNm at q1
  unfold isPl plNm at q2
  unfold isPl plNm at q3
  have HM := Lib.hid (fun w1 => c_rMod (v + 589101452000000) 1000000000000000 w1 (by omega) (by omega) (by omega) (by omega))
  have hgen := sgen; have hgen2 := sgen2; have hgen3 := sgen3; go_enter Tryd.func54, Tryd.ntmps54
  go_wp2_with fail
  go_loopg [11, 12, 19] 5 (fun gk x11 x12 i wr => ∃ k : Nat, k ≤ 3 ∧ gk + k = 5 ∧ i = .int .i64 k ∧ Below w.heap.size w wr ∧ PhMem wr w.heap.size)
  case atStart => exact ⟨0, by omega, by omega, rfl, by exact belz, by constructor <;> go_simp⟩
  case round =>
    obtain ⟨k, hkK, hk, rfl, hbel, hR⟩ := hrel
    have hsz := hbel.size
    obtain ⟨n0, n1, n2, n3, n4, a0, a1, a2, a3, a4, b0, b1, b2, b3, b4, c0, c1, c2, c3, c4⟩ := hR
    rcases (show k = 0 ∨ k = 1 ∨ k = 2 ∨ k = 3 by omega) with rfl | rfl | rfl | rfl
    · have hq : ([109, 101, 114, 99, 117, 114, 121] == s.toList) = false := q0
      go_wp2
      go_roundg (5 - 1)
      case measure => omega
      case rel => exact ⟨1, by omega, by omega, by go_num, by exact belz, by constructor <;> go_simp⟩
    · have hq : ([118, 101, 110, 117, 115] == s.toList) = false := q1
      go_wp2
      go_roundg (5 - 2)
      case measure => omega
      case rel => exact ⟨2, by omega, by omega, by go_num, by exact belz, by constructor <;> go_simp⟩
    · have hq : ([109, 97, 114, 115] == s.toList) = false := q2
      go_wp2
      go_roundg (5 - 3)
      case measure => omega
      case rel => exact ⟨3, by omega, by omega, by go_num, by exact belz, by constructor <;> go_simp⟩
    · have hq : ([106, 117, 112, 105, 116, 101, 114] == s.toList) = true := q3
      have w2' : IntKind.i64.wrap (v + 589101452000000) = v + 589101452000000 := IntWalk.i64_in _ (by omega)
      go_wp2_with fail
      go_quiet ((first | (go_at_call 35; exact Calls.quiet_of_same ((HA.out _).mono (fun e w' ⟨h1, h2⟩ => ⟨h1, h2.symm⟩))) | (go_at_call 16; exact Calls.quiet_of_same ((HM.out _).mono (fun e w' ⟨h1, h2⟩ => ⟨h1, h2.symm⟩)))))
      go_wp2
      refine bodyPost_ret (v := .tuple #[.int .i64 5203, .int .i64 ((v + 589101452000000) % 1000000000000000), .bool true]) (by simp only [results, Tryd.results54]; go_simp) rfl ⟨rfl, ?_⟩
      exact belz
theorem c_Radius4 (s : ByteArray) (w : World) (hP : PTab w) (q0 : isPl 0 s = false) (q1 : isPl 1 s = false) (q2 : isPl 2 s = false) (q3 : isPl 3 s = false) (q4 : isPl 4 s = true) :
    Calls Tryd.prog 46 #[.string s] w fun e w' => e = .returned (.tuple #[.int .i64 9537, .int .i64 0]) ∧ Below w.heap.size w w' := by
  have HF := Lib.hid (fun w1 (h : PTab w1) => c_find4 s w1 h q0 q1 q2 q3 q4)
  have HP := Lib.hid hP
  clear hP q0 q1 q2 q3 q4
  have hgen := sgen; have hgen2 := sgen2; have hgen3 := sgen3; go_enter Tryd.func46, Tryd.ntmps46
  go_wp2_with (go_at_call 48; (refine (HF.out _ (HP.out.below (by exact belz))).mono ?_); rintro e w1 ⟨rfl, hb⟩; have hz := hb.size; (try simp only [szA, szS, szD, szN] at hz); (try (refine bcB (n := w.heap.size) hb ?_; intro h_w_0 e_w_0 d_w_0 _ _)))
  refine bodyPost_ret (v := .tuple #[.int .i64 9537, .int .i64 0]) (by simp only [results, Tryd.results46]; go_simp) rfl ⟨rfl, ?_⟩
  exact belz
theorem c_Helio4 (s : ByteArray) (t : Int) (w : World) (hT : Tab w) (hP : PTab w) (q0 : isPl 0 s = false) (q1 : isPl 1 s = false) (q2 : isPl 2 s = false) (q3 : isPl 3 s = false) (q4 : isPl 4 s = true) (ht : instB t = true) :
    Calls Tryd.prog 45 #[.string s, .int .i64 t] w fun e w' => e = .returned (.tuple #[.agg #[.int .i64 (angLo 310632725 92900388889 [] 5000 t), .int .i64 (angHi 310632725 92900388889 [] 5000 t)], .int .i64 0]) ∧ Below w.heap.size w w' := by
  have HF := Lib.hid (fun w1 (h : PTab w1) => c_find4 s w1 h q0 q1 q2 q3 q4)
  have HA : Hid (∀ w1, Tab w1 → Calls Tryd.prog 79 #[.agg #[.int .i64 310632725, .int .i64 92900388889, .slice none 0 0, .int .i64 5000], .int .i64 t] w1 fun e w' => e = .returned (.tuple #[.agg #[.int .i64 (angLo 310632725 92900388889 [] 5000 t), .int .i64 (angHi 310632725 92900388889 [] 5000 t)], .int .i64 0]) ∧ Below w1.heap.size w1 w') := Lib.hid (fun w1 h => c_Angle_ok 310632725 92900388889 5000 t none 0 [] w1 h (Nat.le_refl _) (tm_nil w1 none) (by decide +kernel) ht)
  have HP := Lib.hid hP
  have HT := Lib.hid hT
  clear hP hT ht q0 q1 q2 q3 q4
  generalize angLo 310632725 92900388889 [] 5000 t = lo at *
  generalize angHi 310632725 92900388889 [] 5000 t = hi at *
  have hgen := sgen; have hgen2 := sgen2; have hgen3 := sgen3; go_enter Tryd.func45, Tryd.ntmps45
  go_wp2_with (first | (go_at_call 48; (refine (HF.out _ (HP.out.below (by exact belz))).mono ?_); rintro e w1 ⟨rfl, hb⟩; have hz := hb.size; (try simp only [szA, szS, szD, szN] at hz); (try (refine bcB (n := w.heap.size) hb ?_; intro h_w_0 e_w_0 d_w_0 _ _)); (try (refine bcB (n := w.heap.size + 1) hb ?_; intro h_w_1 e_w_1 d_w_1 _ _))) | (go_at_call 79; (refine (HA.out _ (HT.out.below (by exact belz))).mono ?_); rintro e w2 ⟨rfl, hb⟩; have hz := hb.size; (try simp only [szA, szS, szD, szN] at hz); (try (refine bcB (n := w.heap.size) hb ?_; intro h_w_0 e_w_0 d_w_0 _ _)); (try (refine bcB (n := w.heap.size + 1) hb ?_; intro h_w_1 e_w_1 d_w_1 _ _)); (try (refine bcB (n := w1.heap.size) hb ?_; intro h_w1_0 e_w1_0 d_w1_0 _ _))))
  refine bodyPost_ret (v := .tuple #[.agg #[.int .i64 lo, .int .i64 hi], .int .i64 0]) (by simp only [results, Tryd.results45]; go_simp) rfl ⟨rfl, ?_⟩
  exact belz
theorem c_HelioT4 (s : ByteArray) (t : Int) (w : World) (hP : PTab w) (q0 : isPl 0 s = false) (q1 : isPl 1 s = false) (q2 : isPl 2 s = false) (q3 : isPl 3 s = false) (q4 : isPl 4 s = true) (ht : instB t = false) (t1 : -9223372036854775808 ≤ t) (t2 : t ≤ 9223372036854775807) :
    Calls Tryd.prog 45 #[.string s, .int .i64 t] w fun e w' => e = .returned (.tuple #[.agg #[.int .i64 0, .int .i64 0], .int .i64 3]) ∧ Below w.heap.size w w' := by
  have HF := Lib.hid (fun w1 (h : PTab w1) => c_find4 s w1 h q0 q1 q2 q3 q4)
  have HA : Hid (∀ w1, Calls Tryd.prog 79 #[.agg #[.int .i64 310632725, .int .i64 92900388889, .slice none 0 0, .int .i64 5000], .int .i64 t] w1 fun e w' => e = .returned (.tuple #[.agg #[.int .i64 0, .int .i64 0], .int .i64 3]) ∧ Below w1.heap.size w1 w') := Lib.hid (fun w1 => c_Angle_time 310632725 92900388889 5000 t none 0 [] w1 (Nat.le_refl _) (tm_nil w1 none) (by decide +kernel) ht t1 t2)
  have HP := Lib.hid hP
  clear hP ht q0 q1 q2 q3 q4
  have hgen := sgen; have hgen2 := sgen2; have hgen3 := sgen3; go_enter Tryd.func45, Tryd.ntmps45
  go_wp2_with (first | (go_at_call 48; (refine (HF.out _ (HP.out.below (by exact belz))).mono ?_); rintro e w1 ⟨rfl, hb⟩; have hz := hb.size; (try simp only [szA, szS, szD, szN] at hz); (try (refine bcB (n := w.heap.size) hb ?_; intro h_w_0 e_w_0 d_w_0 _ _)); (try (refine bcB (n := w.heap.size + 1) hb ?_; intro h_w_1 e_w_1 d_w_1 _ _))) | (go_at_call 79; (refine (HA.out _).mono ?_); rintro e w2 ⟨rfl, hb⟩; have hz := hb.size; (try simp only [szA, szS, szD, szN] at hz); (try (refine bcB (n := w.heap.size) hb ?_; intro h_w_0 e_w_0 d_w_0 _ _)); (try (refine bcB (n := w.heap.size + 1) hb ?_; intro h_w_1 e_w_1 d_w_1 _ _)); (try (refine bcB (n := w1.heap.size) hb ?_; intro h_w1_0 e_w1_0 d_w1_0 _ _))))
  refine bodyPost_ret (v := .tuple #[.agg #[.int .i64 0, .int .i64 0], .int .i64 3]) (by simp only [results, Tryd.results45]; go_simp) rfl ⟨rfl, ?_⟩
  exact belz
theorem c_rHelio4 (s : ByteArray) (t : Int) (w : World) (q0 : isPl 0 s = false) (q1 : isPl 1 s = false) (q2 : isPl 2 s = false) (q3 : isPl 3 s = false) (q4 : isPl 4 s = true) (v : Int) (v0 : 0 ≤ v) (v1 : v < 1000000000000000) (HA : Hid (∀ w1 : World, Calls Tryd.prog 35 #[.int .i64 92900388889, .int .i64 t] w1 fun e w' => e = .returned (.int .i64 v) ∧ w1 = w')) :
    Calls Tryd.prog 54 #[.string s, .int .i64 t] w fun e w' => e = .returned (.tuple #[.int .i64 9537, .int .i64 ((v + 310632725000000) % 1000000000000000), .bool true]) ∧ Below w.heap.size w w' := by
  unfold isPl plNm at q0
  unfold isPl plNm at q1
  unfold isPl plNm at q2
  unfold isPl plNm at q3
  unfold isPl plNm at q4
  have HM := Lib.hid (fun w1 => c_rMod (v + 310632725000000) 1000000000000000 w1 (by omega) (by omega) (by omega) (by omega))
  have hgen := sgen; have hgen2 := sgen2; have hgen3 := sgen3; go_enter Tryd.func54, Tryd.ntmps54
  go_wp2_with fail
  go_loopg [11, 12, 19] 5 (fun gk x11 x12 i wr => ∃ k : Nat, k ≤ 4 ∧ gk + k = 5 ∧ i = .int .i64 k ∧ Below w.heap.size w wr ∧ PhMem wr w.heap.size)
  case atStart => exact ⟨0, by omega, by omega, rfl, by exact belz, by constructor <;> go_simp⟩
  case round =>
    obtain ⟨k, hkK, hk, rfl, hbel, hR⟩ := hrel
    have hsz := hbel.size
    obtain ⟨n0, n1, n2, n3, n4, a0, a1, a2, a3, a4, b0, b1, b2, b3, b4, c0, c1, c2, c3, c4⟩ := hR
    rcases (show k = 0 ∨ k = 1 ∨ k = 2 ∨ k = 3 ∨ k = 4 by omega) with rfl | rfl | rfl | rfl | rfl
    · have hq : ([109, 101, 114, 99, 117, 114, 121] == s.toList) = false := q0
      go_wp2
      go_roundg (5 - 1)
      case measure => omega
      case rel => exact ⟨1, by omega, by omega, by go_num, by exact belz, by constructor <;> go_simp⟩
    · have hq : ([118, 101, 110, 117, 115] == s.toList) = false := q1
      go_wp2
      go_roundg (5 - 2)
      case measure => omega
      case rel => exact ⟨2, by omega, by omega, by go_num, by exact belz, by constructor <;> go_simp⟩
    · have hq : ([109, 97, 114, 115] == s.toList) = false := q2
      go_wp2
      go_roundg (5 - 3)
      case measure => omega
      case rel => exact ⟨3, by omega, by omega, by go_num, by exact belz, by constructor <;> go_simp⟩
    · have hq : ([106, 117, 112, 105, 116, 101, 114] == s.toList) = false := q3
      go_wp2
      go_roundg (5 - 4)
      case measure => omega
      case rel => exact ⟨4, by omega, by omega, by go_num, by exact belz, by constructor <;> go_simp⟩
    · have hq : ([115, 97, 116, 117, 114, 110] == s.toList) = true := q4
      have w2' : IntKind.i64.wrap (v + 310632725000000) = v + 310632725000000 := IntWalk.i64_in _ (by omega)
      go_wp2_with fail
      go_quiet ((first | (go_at_call 35; exact Calls.quiet_of_same ((HA.out _).mono (fun e w' ⟨h1, h2⟩ => ⟨h1, h2.symm⟩))) | (go_at_call 16; exact Calls.quiet_of_same ((HM.out _).mono (fun e w' ⟨h1, h2⟩ => ⟨h1, h2.symm⟩)))))
      go_wp2
      refine bodyPost_ret (v := .tuple #[.int .i64 9537, .int .i64 ((v + 310632725000000) % 1000000000000000), .bool true]) (by simp only [results, Tryd.results54]; go_simp) rfl ⟨rfl, ?_⟩
      exact belz
theorem c_Radius5 (s : ByteArray) (w : World) (hP : PTab w) (q0 : isPl 0 s = false) (q1 : isPl 1 s = false) (q2 : isPl 2 s = false) (q3 : isPl 3 s = false) (q4 : isPl 4 s = false) :
    Calls Tryd.prog 46 #[.string s] w fun e w' => e = .returned (.tuple #[.int .i64 0, .int .i64 5]) ∧ Below w.heap.size w w' := by
  have HF := Lib.hid (fun w1 (h : PTab w1) => c_find5 s w1 h q0 q1 q2 q3 q4)
  have HP := Lib.hid hP
  clear hP q0 q1 q2 q3 q4
  have hgen := sgen; have hgen2 := sgen2; have hgen3 := sgen3; go_enter Tryd.func46, Tryd.ntmps46
  go_wp2_with (go_at_call 48; (refine (HF.out _ (HP.out.below (by exact belz))).mono ?_); rintro e w1 ⟨rfl, hb⟩; have hz := hb.size; (try simp only [szA, szS, szD, szN] at hz); (try (refine bcB (n := w.heap.size) hb ?_; intro h_w_0 e_w_0 d_w_0 _ _)))
  refine bodyPost_ret (v := .tuple #[.int .i64 0, .int .i64 5]) (by simp only [results, Tryd.results46]; go_simp) rfl ⟨rfl, ?_⟩
  exact belz
theorem c_Helio5 (s : ByteArray) (t : Int) (w : World) (hP : PTab w) (q0 : isPl 0 s = false) (q1 : isPl 1 s = false) (q2 : isPl 2 s = false) (q3 : isPl 3 s = false) (q4 : isPl 4 s = false) :
    Calls Tryd.prog 45 #[.string s, .int .i64 t] w fun e w' => e = .returned (.tuple #[.agg #[.int .i64 0, .int .i64 0], .int .i64 5]) ∧ Below w.heap.size w w' := by
  have HF := Lib.hid (fun w1 (h : PTab w1) => c_find5 s w1 h q0 q1 q2 q3 q4)
  have HP := Lib.hid hP
  clear hP q0 q1 q2 q3 q4
  have hgen := sgen; have hgen2 := sgen2; have hgen3 := sgen3; go_enter Tryd.func45, Tryd.ntmps45
  go_wp2_with (go_at_call 48; (refine (HF.out _ (HP.out.below (by exact belz))).mono ?_); rintro e w1 ⟨rfl, hb⟩; have hz := hb.size; (try simp only [szA, szS, szD, szN] at hz); (try (refine bcB (n := w.heap.size) hb ?_; intro h_w_0 e_w_0 d_w_0 _ _)); (try (refine bcB (n := w.heap.size + 1) hb ?_; intro h_w_1 e_w_1 d_w_1 _ _)))
  refine bodyPost_ret (v := .tuple #[.agg #[.int .i64 0, .int .i64 0], .int .i64 5]) (by simp only [results, Tryd.results45]; go_simp) rfl ⟨rfl, ?_⟩
  exact belz
theorem c_rHelio5 (s : ByteArray) (t : Int) (w : World) (q0 : isPl 0 s = false) (q1 : isPl 1 s = false) (q2 : isPl 2 s = false) (q3 : isPl 3 s = false) (q4 : isPl 4 s = false)  :
    Calls Tryd.prog 54 #[.string s, .int .i64 t] w fun e w' => e = .returned (.tuple #[.int .i64 0, .int .i64 0, .bool false]) ∧ Below w.heap.size w w' := by
  unfold isPl plNm at q0
  unfold isPl plNm at q1
  unfold isPl plNm at q2
  unfold isPl plNm at q3
  unfold isPl plNm at q4
  have hgen := sgen; have hgen2 := sgen2; have hgen3 := sgen3; go_enter Tryd.func54, Tryd.ntmps54
  go_wp2_with fail
  go_loopg [11, 12, 19] 5 (fun gk x11 x12 i wr => ∃ k : Nat, k ≤ 5 ∧ gk + k = 5 ∧ i = .int .i64 k ∧ Below w.heap.size w wr ∧ PhMem wr w.heap.size)
  case atStart => exact ⟨0, by omega, by omega, rfl, by exact belz, by constructor <;> go_simp⟩
  case round =>
    obtain ⟨k, hkK, hk, rfl, hbel, hR⟩ := hrel
    have hsz := hbel.size
    obtain ⟨n0, n1, n2, n3, n4, a0, a1, a2, a3, a4, b0, b1, b2, b3, b4, c0, c1, c2, c3, c4⟩ := hR
    rcases (show k = 0 ∨ k = 1 ∨ k = 2 ∨ k = 3 ∨ k = 4 ∨ k = 5 by omega) with rfl | rfl | rfl | rfl | rfl | rfl
    · have hq : ([109, 101, 114, 99, 117, 114, 121] == s.toList) = false := q0
      go_wp2
      go_roundg (5 - 1)
      case measure => omega
      case rel => exact ⟨1, by omega, by omega, by go_num, by exact belz, by constructor <;> go_simp⟩
    · have hq : ([118, 101, 110, 117, 115] == s.toList) = false := q1
      go_wp2
      go_roundg (5 - 2)
      case measure => omega
      case rel => exact ⟨2, by omega, by omega, by go_num, by exact belz, by constructor <;> go_simp⟩
    · have hq : ([109, 97, 114, 115] == s.toList) = false := q2
      go_wp2
      go_roundg (5 - 3)
      case measure => omega
      case rel => exact ⟨3, by omega, by omega, by go_num, by exact belz, by constructor <;> go_simp⟩
    · have hq : ([106, 117, 112, 105, 116, 101, 114] == s.toList) = false := q3
      go_wp2
      go_roundg (5 - 4)
      case measure => omega
      case rel => exact ⟨4, by omega, by omega, by go_num, by exact belz, by constructor <;> go_simp⟩
    · have hq : ([115, 97, 116, 117, 114, 110] == s.toList) = false := q4
      go_wp2
      go_roundg (5 - 5)
      case measure => omega
      case rel => exact ⟨5, by omega, by omega, by go_num, by exact belz, by constructor <;> go_simp⟩
    · go_wp2
      refine bodyPost_ret (v := .tuple #[.int .i64 0, .int .i64 0, .bool false]) (by simp only [results, Tryd.results54]; go_simp) rfl ⟨rfl, ?_⟩
      exact belz
end Go.Proofs.YtjkhoepohiafeaaDoor
