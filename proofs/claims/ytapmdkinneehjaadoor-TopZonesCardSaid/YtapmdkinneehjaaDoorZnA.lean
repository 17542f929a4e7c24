/- Contracts of rule.IsName, zone.IsOffset, zone.IsLabel, line.Is, line.IsInstant, line.Split. Contracts of zonetext.two and zonetext.offset. The contract of rule.IsName. The Lean type of api.ZoneChange; what zone.Check answers. What the walks know of a slice of api.ZoneChange. -/
import Derived.Test.YtapmdkinneehjaaDoorWalkNo
import Derived.Test.YtapmdkinneehjaaDoorWalkInt
import Derived.Deep.LoopGhost
import Derived.Test.YtapmdkinneehjaaDoorWalkNo7
import Derived.Below
import Derived.WalkKit
set_option linter.unusedVariables false
set_option linter.unusedSimpArgs false
namespace Go.Proofs.YtapmdkinneehjaaDoor
section
open Go.RowKit
def lowB (c : UInt8) : Bool := !(decide (c.toNat < 97)) && !(decide (122 < c.toNat))
def upB (c : UInt8) : Bool := !(decide (c.toNat < 65)) && !(decide (90 < c.toNat))
/-- Whether a text is a name. -/
def nameB (T : ByteArray) : Bool := if T.size < 1 ∨ 12 < T.size ∨ (T.toList == [121]) = true ∨ (T.toList == [97, 110, 100]) = true ∨ (T.toList == [111, 114]) = true ∨ (T.toList == [110, 111, 116]) = true then false else T.data.toList.all lowB
def labB (T : ByteArray) : Bool := T.data.toList.all upB && (decide (1 ≤ T.size) && decide (T.size ≤ 6))
def offB (n : Int) : Bool := decide (n.tmod 1000 = 0) && (decide (-64800000 ≤ n) && decide (n ≤ 64800000))
def instZ (t : Int) : Bool := decide (-345600000000000 ≤ t ∧ t < 345600086400000)
def dayZ (d : Int) : Bool := decide (-4000000 ≤ d ∧ d ≤ 4000000)
theorem all_take {f : UInt8 → Bool} {l : List UInt8} {k : Nat} {c : UInt8} (hc : l[k]? = some c) (h : (l.take k).all f = true) : (l.take (k + 1)).all f = f c := by
  obtain ⟨hk, he⟩ := List.getElem?_eq_some_iff.1 hc
  rw [List.take_succ_eq_append_getElem hk, List.all_append, h, he]
  simp
theorem all_bad {f : UInt8 → Bool} {l : List UInt8} {k : Nat} {c : UInt8} (hc : l[k]? = some c) (h : f c = false) : l.all f = false := by
  obtain ⟨hk, he⟩ := List.getElem?_eq_some_iff.1 hc
  cases hq : l.all f with
  | false => rfl
  | true =>
    have := List.all_eq_true.1 hq c (he ▸ List.getElem_mem hk)
    rw [h] at this
    cases this
set_option maxHeartbeats 1000000 in
theorem c_isLabel (T : ByteArray) (w : World) (hsz : T.size ≤ 9223372036854775807) : Calls Tryd.prog 26 #[.string T] w fun e w' => e = .returned (.bool (labB T)) ∧ Below w.heap.size w w' := by
  have el := str_len T
  have hgen := sgen; have hgen2 := sgen2; have hgen3 := sgen3; go_enter Tryd.func26, Tryd.ntmps26
  go_wp2_with fail
  go_loopg [6] T.size (fun gk i wr => ∃ k : Nat, gk + k = T.size ∧ i = .int .i64 k ∧ (T.data.toList.take k).all upB = true ∧ Below w.heap.size w wr)
  case atStart => exact ⟨0, by omega, rfl, rfl, Below.refl _ _⟩
  case round =>
    obtain ⟨k, hk, rfl, hall, hbel⟩ := hrel
    have HAll := Lib.hid hall
    clear hall
    by_cases hlt : k < T.size
    · obtain ⟨c, hc⟩ : ∃ c, T.data.toList[k]? = some c := ⟨_, List.getElem?_eq_getElem (by omega)⟩
      have ix := str_ix T k c hc
      have HC := Lib.hid hc
      clear hc
      by_cases q1 : c.toNat < 65
      · have g1 : decide ((c.toNat : Int) < 65) = true := decide_eq_true (by omega)
        have HL := Lib.hid (show labB T = false by unfold labB; rw [all_bad HC.out (by unfold upB; rw [decide_eq_true q1]; rfl)]; rfl)
        go_wp2_with fail
        go_ret
        exact ⟨by rw [HL.out]; rfl, by exact belz⟩
      · have g1 : decide ((c.toNat : Int) < 65) = false := decide_eq_false (by omega)
        by_cases q2 : 90 < c.toNat
        · have g2 : decide (90 < (c.toNat : Int)) = true := decide_eq_true (by omega)
          have HL := Lib.hid (show labB T = false by unfold labB; rw [all_bad HC.out (by unfold upB; rw [decide_eq_true q2]; simp)]; rfl)
          go_wp2_with fail
          go_ret
          exact ⟨by rw [HL.out]; rfl, by exact belz⟩
        · have g2 : decide (90 < (c.toNat : Int)) = false := decide_eq_false (by omega)
          have HN := Lib.hid (show (T.data.toList.take (k + 1)).all upB = true by rw [all_take HC.out HAll.out]; unfold upB; rw [decide_eq_false q1, decide_eq_false q2]; rfl)
          go_wp2_with fail
          go_roundg (T.size - (k + 1))
          case measure => omega
          case rel => exact ⟨k + 1, by omega, by go_num, HN.out, by exact belz⟩
    · obtain rfl : k = T.size := by omega
      have ha := HAll.out
      rw [List.take_of_length_le (by omega)] at ha
      have HA := Lib.hid ha
      clear ha
      have HL := Lib.hid (show labB T = (decide (1 ≤ T.size) && decide (T.size ≤ 6)) by unfold labB; rw [HA.out, Bool.true_and])
      by_cases q1 : 1 ≤ T.size
      · have g1 : decide ((1 : Int) ≤ (T.size : Int)) = true := decide_eq_true (by omega)
        by_cases q2 : T.size ≤ 6
        · have g2 : decide ((T.size : Int) ≤ 6) = true := decide_eq_true (by omega)
          go_wp2_with fail
          go_ret
          exact ⟨by rw [HL.out, decide_eq_true q1, decide_eq_true q2]; rfl, by exact belz⟩
        · have g2 : decide ((T.size : Int) ≤ 6) = false := decide_eq_false (by omega)
          go_wp2_with fail
          go_ret
          exact ⟨by rw [HL.out, decide_eq_false q2, Bool.and_false]; rfl, by exact belz⟩
      · have g1 : decide ((1 : Int) ≤ (T.size : Int)) = false := decide_eq_false (by omega)
        go_wp2_with fail
        go_ret
        exact ⟨by rw [HL.out, decide_eq_false q1, Bool.false_and]; rfl, by exact belz⟩
theorem c_isOff (n : Int) (w : World) : Calls Tryd.prog 25 #[.int .i64 n] w fun e w' => e = .returned (.bool (offB n)) ∧ w = w' := by
  unfold offB
  by_cases h1 : n.tmod 1000 = 0
  · have g1 : (n.tmod 1000 == 0) = true := by simpa using h1
    by_cases h2 : -64800000 ≤ n
    · have g2 := decide_eq_true h2
      by_cases h3 : n ≤ 64800000
      · have g3 := decide_eq_true h3
        rw [decide_eq_true h1, g2, g3]
        have hgen := sgen; have hgen2 := sgen2; have hgen3 := sgen3; go_enter Tryd.func25, Tryd.ntmps25
        go_wp2
        go_ret
        exact ⟨rfl, rfl⟩
      · have g3 := decide_eq_false h3
        rw [decide_eq_true h1, g2, g3]
        have hgen := sgen; have hgen2 := sgen2; have hgen3 := sgen3; go_enter Tryd.func25, Tryd.ntmps25
        go_wp2
        go_ret
        exact ⟨rfl, rfl⟩
    · have g2 := decide_eq_false h2
      rw [decide_eq_true h1, g2, Bool.false_and, Bool.and_false]
      have hgen := sgen; have hgen2 := sgen2; have hgen3 := sgen3; go_enter Tryd.func25, Tryd.ntmps25
      go_wp2
      go_ret
      exact ⟨rfl, rfl⟩
  · have g1 : (n.tmod 1000 == 0) = false := by simpa using h1
    rw [decide_eq_false h1, Bool.false_and]
    have hgen := sgen; have hgen2 := sgen2; have hgen3 := sgen3; go_enter Tryd.func25, Tryd.ntmps25
    go_wp2
    go_ret
    exact ⟨rfl, rfl⟩
theorem c_lineIsZ (d : Int) (w : World) : Calls Tryd.prog 21 #[.int .i64 d] w fun e w' => e = .returned (.bool (dayZ d)) ∧ w = w' := by
  unfold dayZ
  by_cases h1 : -4000000 ≤ d
  · have g1 := decide_eq_true h1
    by_cases h2 : d ≤ 4000000
    · have g2 := decide_eq_true h2
      rw [decide_eq_true (show -4000000 ≤ d ∧ d ≤ 4000000 from ⟨h1, h2⟩)]
      have hgen := sgen; have hgen2 := sgen2; have hgen3 := sgen3; go_enter Tryd.func21, Tryd.ntmps21
      go_wp2
      go_ret
      exact ⟨rfl, rfl⟩
    · have g2 := decide_eq_false h2
      rw [decide_eq_false (show ¬ (-4000000 ≤ d ∧ d ≤ 4000000) from fun h => h2 h.2)]
      have hgen := sgen; have hgen2 := sgen2; have hgen3 := sgen3; go_enter Tryd.func21, Tryd.ntmps21
      go_wp2
      go_ret
      exact ⟨rfl, rfl⟩
  · have g1 := decide_eq_false h1
    rw [decide_eq_false (show ¬ (-4000000 ≤ d ∧ d ≤ 4000000) from fun h => h1 h.1)]
    have hgen := sgen; have hgen2 := sgen2; have hgen3 := sgen3; go_enter Tryd.func21, Tryd.ntmps21
    go_wp2
    go_ret
    exact ⟨rfl, rfl⟩
theorem c_isInstZ (t : Int) (w : World) (t1 : -9223372036854775808 ≤ t) (t2 : t ≤ 9223372036854775807) : Calls Tryd.prog 22 #[.int .i64 t] w fun e w' => e = .returned (.bool (instZ t)) ∧ ∃ n, w' = w.drewN n := by
  have HE := Lib.hid (show dayZ (t / 86400000) = instZ t by unfold instZ dayZ; rw [decide_eq_decide]; omega)
  have hgen := sgen; have hgen2 := sgen2; have hgen3 := sgen3; go_enter Tryd.func22, Tryd.ntmps22
  go_wp2_with (first | (go_at_call 34; refine (c_down t 86400000 _ (by omega) t1 t2 (by omega)).mono ?_; rintro e w' ⟨rfl, n, rfl⟩) | (go_at_call 21; refine (c_lineIsZ _ _).mono ?_; rintro e w' ⟨rfl, rfl⟩))
  go_ret
  exact ⟨by rw [← HE.out]; rfl, _, rfl⟩
end
section
open Go.RowKit
def two (n : Nat) : List UInt8 := [UInt8.ofNat (48 + n / 10), UInt8.ofNat (48 + n % 10)]
/-- The text of an offset. -/
def offT (n : Int) : List UInt8 := (if n < 0 then [45] else [43]) ++ two (n.natAbs / 1000 / 3600) ++ [58] ++ two (n.natAbs / 1000 / 60 % 60) ++ [58] ++ two (n.natAbs / 1000 % 60)
theorem offT_len (n : Int) : (offT n).length = 9 := by
  unfold offT two
  split <;> rfl
theorem two_str (w0 : World) (b : Nat) (c d : UInt8) (h : w0.cell? ⟨b, 0, none⟩ = some (.int .u8 (c.toNat : Int))) (h1 : w0.cell? ⟨b, 1, none⟩ = some (.int .u8 (d.toNat : Int))) : (convert 41 9 (.slice (some ⟨b, 0, none⟩) 2 2)).run Tryd.prog w0 = .ok (.string (strB [c, d])) w0 := by
  have := run_convert_bytes_back (P := Tryd.prog) w0 41 9 5 ⟨b, 0, none⟩ 2 [c, d] Tryd.underlying41 Tryd.underlying5 Tryd.underlying9 (by
    intro j hj
    rcases (show j = 0 ∨ j = 1 by simp at hj; omega) with rfl | rfl
    · simpa [Addr.add] using h
    · simpa [Addr.add] using h1)
  rw [show strB [c, d] = ⟨#[c, d]⟩ from rfl]
  simpa using this
set_option maxHeartbeats 1000000 in
set_option maxRecDepth 100000 in
theorem c_two (n : Nat) (w : World) (h : n < 100) : Calls Tryd.prog 28 #[.int .i64 (n : Int)] w fun e w' => e = .returned (.string (strB (two n))) ∧ Below w.heap.size w w' := by
  have e1 : (n : Int).tdiv 10 = ((n / 10 : Nat) : Int) := by rw [Int.tdiv_eq_ediv_of_nonneg (by omega)]; omega
  have e2 : (n : Int).tmod 10 = ((n % 10 : Nat) : Int) := by rw [Int.tmod_eq_emod_of_nonneg (by omega)]; omega
  have h1 := digit_c (k := n / 10) (by omega)
  have h2 := digit_c (k := n % 10) (by omega)
  have p1 : n / 10 < 10 := by omega
  have p2 : n % 10 < 10 := by omega
  unfold two
  generalize n / 10 = p at *
  generalize n % 10 = q at *
  generalize UInt8.ofNat (48 + p) = c at *
  generalize UInt8.ofNat (48 + q) = d at *
  have V1 : IntKind.u8.wrap (p : Int) = (p : Int) := u8_in (by omega) (by omega)
  have V2 : IntKind.u8.wrap (q : Int) = (q : Int) := u8_in (by omega) (by omega)
  have V3 : IntKind.u8.wrap (48 + (p : Int)) = (c.toNat : Int) := by rw [h1]; exact u8_in (by omega) (by omega)
  have V4 : IntKind.u8.wrap (48 + (q : Int)) = (d.toNat : Int) := by rw [h2]; exact u8_in (by omega) (by omega)
  have hs := two_str (w.alloc (.cells #[.int .u8 (c.toNat : Int), .int .u8 (d.toNat : Int)] 5)) w.heap.size c d (by go_simp) (by go_simp)
  clear h1 h2
  have hgen := sgen; have hgen2 := sgen2; have hgen3 := sgen3; go_enter Tryd.func28, Tryd.ntmps28
  go_wp2
  go_ret
  refine ⟨rfl, ?_⟩
  exact belz
set_option maxHeartbeats 1000000 in
set_option maxRecDepth 100000 in
theorem c_off (n : Int) (w : World) (h0 : -64800000 ≤ n) (h1 : n ≤ 64800000) : Calls Tryd.prog 12 #[.int .i64 n] w fun e w' => e = .returned (.string (strB (offT n))) ∧ Below w.heap.size w w' := by
  obtain ⟨m, hm⟩ : ∃ m : Nat, m = n.natAbs / 1000 := ⟨_, rfl⟩
  have hm2 : m ≤ 64800 := by omega
  have a1 : (m : Int).tdiv 3600 = ((m / 3600 : Nat) : Int) := by rw [Int.tdiv_eq_ediv_of_nonneg (by omega)]; omega
  have a2 : (m : Int).tdiv 60 = ((m / 60 : Nat) : Int) := by rw [Int.tdiv_eq_ediv_of_nonneg (by omega)]; omega
  have a3 : ((m / 60 : Nat) : Int).tmod 60 = ((m / 60 % 60 : Nat) : Int) := by rw [Int.tmod_eq_emod_of_nonneg (by omega)]; omega
  have a4 : (m : Int).tmod 60 = ((m % 60 : Nat) : Int) := by rw [Int.tmod_eq_emod_of_nonneg (by omega)]; omega
  have k1 : m / 3600 < 100 := by omega
  have k3 : m / 60 % 60 < 100 := by omega
  have k2 : m / 60 ≤ 1080 := by omega
  have k4 : m % 60 < 100 := by omega
  unfold offT
  rw [← hm]
  generalize m / 3600 = p1 at *
  generalize m / 60 % 60 = p3 at *
  generalize m / 60 = p2 at *
  generalize m % 60 = p4 at *
  have HA := Lib.hid (fun w1 => c_two p1 w1 k1)
  have HB := Lib.hid (fun w1 => c_two p3 w1 k3)
  have HC := Lib.hid (fun w1 => c_two p4 w1 k4)
  have v2 : IntKind.i64.wrap (p2 : Int) = (p2 : Int) := IntWalk.i64_in _ (by omega)
  have HM := Lib.hid hm
  by_cases hn : n < 0
  · have d := decide_eq_true hn
    have b1 : IntKind.i64.wrap (-n) = -n := IntWalk.i64_in _ (by omega)
    have b2 : (-n).tdiv 1000 = (m : Int) := by rw [Int.tdiv_eq_ediv_of_nonneg (by omega)]; omega
    rw [if_pos hn]
    clear hm
    have l1 : (two p1).length = 2 := rfl
    have l2 : (two p3).length = 2 := rfl
    have l3 : (two p4).length = 2 := rfl
    generalize two p1 = X at *
    generalize two p3 = Y at *
    generalize two p4 = Z at *
    have x1 : ∀ w0, (Op.stringOp .add ⟨#[45]⟩ (strB X)).run Tryd.prog w0 = .ok (.string (strB ([45] ++ X))) w0 := fun w0 => add_str [45] X (by simp; omega) w0
    have x2 : ∀ w0, (Op.stringOp .add (strB ([45] ++ X)) ⟨#[58]⟩).run Tryd.prog w0 = .ok (.string (strB ([45] ++ X ++ [58]))) w0 := fun w0 => add_str ([45] ++ X) [58] (by simp; omega) w0
    have x3 := fun w0 => add_str ([45] ++ X ++ [58]) Y (by simp; omega) w0
    have x4 : ∀ w0, (Op.stringOp .add (strB ([45] ++ X ++ [58] ++ Y)) ⟨#[58]⟩).run Tryd.prog w0 = .ok (.string (strB ([45] ++ X ++ [58] ++ Y ++ [58]))) w0 := fun w0 => add_str ([45] ++ X ++ [58] ++ Y) [58] (by simp; omega) w0
    have x5 := fun w0 => add_str ([45] ++ X ++ [58] ++ Y ++ [58]) Z (by simp; omega) w0
    generalize strB ([45] ++ X) = S1 at *
    generalize strB ([45] ++ X ++ [58]) = S2 at *
    generalize strB ([45] ++ X ++ [58] ++ Y) = S3 at *
    generalize strB ([45] ++ X ++ [58] ++ Y ++ [58]) = S4 at *
    generalize strB ([45] ++ X ++ [58] ++ Y ++ [58] ++ Z) = S5 at *
    have hgen := sgen; have hgen2 := sgen2; have hgen3 := sgen3; go_enter Tryd.func12, Tryd.ntmps12
    go_wp2_with (first | (go_at_call 28; (with_reducible refine (HA.out _).mono ?_); rintro e w1 ⟨rfl, hb⟩; have hz := hb.size; (try simp only [szA, szS, szD, szN] at hz); (try (refine bcB (n := w.heap.size) hb ?_; intro h_w_0 e_w_0 d_w_0 _ _))) | (go_at_call 28; (with_reducible refine (HB.out _).mono ?_); rintro e w2 ⟨rfl, hb⟩; have hz := hb.size; (try simp only [szA, szS, szD, szN] at hz); (try (refine bcB (n := w.heap.size) hb ?_; intro h_w_0 e_w_0 d_w_0 _ _)); (try (refine bcB (n := w1.heap.size) hb ?_; intro h_w1_0 e_w1_0 d_w1_0 _ _))) | (go_at_call 28; (with_reducible refine (HC.out _).mono ?_); rintro e w3 ⟨rfl, hb⟩; have hz := hb.size; (try simp only [szA, szS, szD, szN] at hz); (try (refine bcB (n := w.heap.size) hb ?_; intro h_w_0 e_w_0 d_w_0 _ _)); (try (refine bcB (n := w1.heap.size) hb ?_; intro h_w1_0 e_w1_0 d_w1_0 _ _)); (try (refine bcB (n := w2.heap.size) hb ?_; intro h_w2_0 e_w2_0 d_w2_0 _ _))))
    go_ret
    refine ⟨rfl, ?_⟩
    exact belz
  · have d := decide_eq_false hn
    have b2 : n.tdiv 1000 = (m : Int) := by rw [Int.tdiv_eq_ediv_of_nonneg (by omega)]; omega
    rw [if_neg hn]
    clear hm
    have l1 : (two p1).length = 2 := rfl
    have l2 : (two p3).length = 2 := rfl
    have l3 : (two p4).length = 2 := rfl
    generalize two p1 = X at *
    generalize two p3 = Y at *
    generalize two p4 = Z at *
    have x1 : ∀ w0, (Op.stringOp .add ⟨#[43]⟩ (strB X)).run Tryd.prog w0 = .ok (.string (strB ([43] ++ X))) w0 := fun w0 => add_str [43] X (by simp; omega) w0
    have x2 : ∀ w0, (Op.stringOp .add (strB ([43] ++ X)) ⟨#[58]⟩).run Tryd.prog w0 = .ok (.string (strB ([43] ++ X ++ [58]))) w0 := fun w0 => add_str ([43] ++ X) [58] (by simp; omega) w0
    have x3 := fun w0 => add_str ([43] ++ X ++ [58]) Y (by simp; omega) w0
    have x4 : ∀ w0, (Op.stringOp .add (strB ([43] ++ X ++ [58] ++ Y)) ⟨#[58]⟩).run Tryd.prog w0 = .ok (.string (strB ([43] ++ X ++ [58] ++ Y ++ [58]))) w0 := fun w0 => add_str ([43] ++ X ++ [58] ++ Y) [58] (by simp; omega) w0
    have x5 := fun w0 => add_str ([43] ++ X ++ [58] ++ Y ++ [58]) Z (by simp; omega) w0
    generalize strB ([43] ++ X) = S1 at *
    generalize strB ([43] ++ X ++ [58]) = S2 at *
    generalize strB ([43] ++ X ++ [58] ++ Y) = S3 at *
    generalize strB ([43] ++ X ++ [58] ++ Y ++ [58]) = S4 at *
    generalize strB ([43] ++ X ++ [58] ++ Y ++ [58] ++ Z) = S5 at *
    have hgen := sgen; have hgen2 := sgen2; have hgen3 := sgen3; go_enter Tryd.func12, Tryd.ntmps12
    go_wp2_with (first | (go_at_call 28; (with_reducible refine (HA.out _).mono ?_); rintro e w1 ⟨rfl, hb⟩; have hz := hb.size; (try simp only [szA, szS, szD, szN] at hz); (try (refine bcB (n := w.heap.size) hb ?_; intro h_w_0 e_w_0 d_w_0 _ _))) | (go_at_call 28; (with_reducible refine (HB.out _).mono ?_); rintro e w2 ⟨rfl, hb⟩; have hz := hb.size; (try simp only [szA, szS, szD, szN] at hz); (try (refine bcB (n := w.heap.size) hb ?_; intro h_w_0 e_w_0 d_w_0 _ _)); (try (refine bcB (n := w1.heap.size) hb ?_; intro h_w1_0 e_w1_0 d_w1_0 _ _))) | (go_at_call 28; (with_reducible refine (HC.out _).mono ?_); rintro e w3 ⟨rfl, hb⟩; have hz := hb.size; (try simp only [szA, szS, szD, szN] at hz); (try (refine bcB (n := w.heap.size) hb ?_; intro h_w_0 e_w_0 d_w_0 _ _)); (try (refine bcB (n := w1.heap.size) hb ?_; intro h_w1_0 e_w1_0 d_w1_0 _ _)); (try (refine bcB (n := w2.heap.size) hb ?_; intro h_w2_0 e_w2_0 d_w2_0 _ _))))
    go_ret
    refine ⟨rfl, ?_⟩
    exact belz
end
section
open Go.RowKit
set_option maxRecDepth 100000 in
set_option maxHeartbeats 2000000 in
theorem c_isName (T : ByteArray) (w : World) (hsz : T.size ≤ 9223372036854775807) : Calls Tryd.prog 24 #[.string T] w fun e w' => e = .returned (.bool (nameB T)) ∧ Below w.heap.size w w' := by
  have el := str_len T
  by_cases h1 : T.size < 1
  · have g1 : decide ((T.size : Int) < 1) = true := decide_eq_true (by omega)
    have HV := Lib.hid (show nameB T = false by unfold nameB; rw [if_pos (.inl h1)])
    have hgen := sgen; have hgen2 := sgen2; have hgen3 := sgen3; go_enter Tryd.func24, Tryd.ntmps24
    go_wp2
    go_ret
    exact ⟨by rw [HV.out]; rfl, by exact belz⟩
  have g1 : decide ((T.size : Int) < 1) = false := decide_eq_false (by omega)
  by_cases h2 : 12 < T.size
  · have g2 : decide ((12 : Int) < (T.size : Int)) = true := decide_eq_true (by omega)
    have HV := Lib.hid (show nameB T = false by unfold nameB; rw [if_pos (.inr (.inl h2))])
    have hgen := sgen; have hgen2 := sgen2; have hgen3 := sgen3; go_enter Tryd.func24, Tryd.ntmps24
    go_wp2
    go_ret
    exact ⟨by rw [HV.out]; rfl, by exact belz⟩
  have g2 : decide ((12 : Int) < (T.size : Int)) = false := decide_eq_false (by omega)
  cases hq1 : (T.toList == [121])
  case true =>
    have HV := Lib.hid (show nameB T = false from (fun h => by unfold nameB; rw [if_pos (.inr (.inr (.inl h)))]) hq1)
    have hgen := sgen; have hgen2 := sgen2; have hgen3 := sgen3; go_enter Tryd.func24, Tryd.ntmps24
    go_wp2
    go_ret
    exact ⟨by rw [HV.out]; rfl, by exact belz⟩
  cases hq2 : (T.toList == [97, 110, 100])
  case true =>
    have HV := Lib.hid (show nameB T = false from (fun h => by unfold nameB; rw [if_pos (.inr (.inr (.inr (.inl h))))]) hq2)
    have hgen := sgen; have hgen2 := sgen2; have hgen3 := sgen3; go_enter Tryd.func24, Tryd.ntmps24
    go_wp2
    go_ret
    exact ⟨by rw [HV.out]; rfl, by exact belz⟩
  cases hq3 : (T.toList == [111, 114])
  case true =>
    have HV := Lib.hid (show nameB T = false from (fun h => by unfold nameB; rw [if_pos (.inr (.inr (.inr (.inr (.inl h)))))]) hq3)
    have hgen := sgen; have hgen2 := sgen2; have hgen3 := sgen3; go_enter Tryd.func24, Tryd.ntmps24
    go_wp2
    go_ret
    exact ⟨by rw [HV.out]; rfl, by exact belz⟩
  cases hq4 : (T.toList == [110, 111, 116])
  case true =>
    have HV := Lib.hid (show nameB T = false from (fun h => by unfold nameB; rw [if_pos (.inr (.inr (.inr (.inr (.inr h)))))]) hq4)
    have hgen := sgen; have hgen2 := sgen2; have hgen3 := sgen3; go_enter Tryd.func24, Tryd.ntmps24
    go_wp2
    go_ret
    exact ⟨by rw [HV.out]; rfl, by exact belz⟩
  have HV := Lib.hid (show nameB T = T.data.toList.all lowB by unfold nameB; rw [if_neg]; rintro (h | h | h | h | h | h); exact h1 h; exact h2 h; (rw [hq1] at h; cases h); (rw [hq2] at h; cases h); (rw [hq3] at h; cases h); (rw [hq4] at h; cases h))
  have hgen := sgen; have hgen2 := sgen2; have hgen3 := sgen3; go_enter Tryd.func24, Tryd.ntmps24
  go_wp2_with fail
  go_loopg [30] T.size (fun gk i wr => ∃ k : Nat, gk + k = T.size ∧ i = .int .i64 k ∧ (T.data.toList.take k).all lowB = true ∧ Below w.heap.size w wr)
  case atStart => exact ⟨0, by omega, rfl, rfl, Below.refl _ _⟩
  case round =>
    obtain ⟨k, hk, rfl, hall, hbel⟩ := hrel
    have HAll := Lib.hid hall
    clear hall
    by_cases hlt : k < T.size
    · obtain ⟨c, hc⟩ : ∃ c, T.data.toList[k]? = some c := ⟨_, List.getElem?_eq_getElem (by omega)⟩
      have ix := str_ix T k c hc
      have HC := Lib.hid hc
      clear hc
      by_cases q1 : c.toNat < 97
      · have g1 : decide ((c.toNat : Int) < 97) = true := decide_eq_true (by omega)
        have HL := Lib.hid (show nameB T = false by rw [HV.out, all_bad HC.out (by unfold lowB; rw [decide_eq_true q1]; rfl)])
        go_wp2_with fail
        go_ret
        exact ⟨by rw [HL.out]; rfl, by exact belz⟩
      · have g1 : decide ((c.toNat : Int) < 97) = false := decide_eq_false (by omega)
        by_cases q2 : 122 < c.toNat
        · have g2 : decide (122 < (c.toNat : Int)) = true := decide_eq_true (by omega)
          have HL := Lib.hid (show nameB T = false by rw [HV.out, all_bad HC.out (by unfold lowB; rw [decide_eq_true q2]; simp)])
          go_wp2_with fail
          go_ret
          exact ⟨by rw [HL.out]; rfl, by exact belz⟩
        · have g2 : decide (122 < (c.toNat : Int)) = false := decide_eq_false (by omega)
          have HN := Lib.hid (show (T.data.toList.take (k + 1)).all lowB = true by rw [all_take HC.out HAll.out]; unfold lowB; rw [decide_eq_false q1, decide_eq_false q2]; rfl)
          go_wp2_with fail
          go_roundg (T.size - (k + 1))
          case measure => omega
          case rel => exact ⟨k + 1, by omega, by go_num, HN.out, by exact belz⟩
    · obtain rfl : k = T.size := by omega
      have ha := HAll.out
      rw [List.take_of_length_le (by omega)] at ha
      have HL := Lib.hid (show nameB T = true by rw [HV.out, ha])
      clear ha
      go_wp2_with fail
      go_ret
      exact ⟨by rw [HL.out]; rfl, by exact belz⟩
end
section
structure Zc where
  t : Int
  o : Int
  lb : ByteArray
instance : Inhabited Zc := ⟨⟨0, 0, ⟨#[]⟩⟩⟩
/-- The error of one change behind another. -/
def zc1 (p : Option Int) (c : Zc) : Int :=
  if instZ c.t = false ∨ offB c.o = false then 3 else if labB c.lb = false then 8 else match p with
    | none => 0
    | some q => if c.t ≤ q then 9 else 0
def zlE : Option Int → List Zc → Int
  | _, [] => 0
  | p, c :: l => if zc1 p c ≠ 0 then zc1 p c else zlE (some c.t) l
/-- What zone.Check answers. -/
def zE (nm : ByteArray) (f : Int) (l : List Zc) : Int := if nameB nm = false then 5 else if offB f = false then 3 else if 200 < l.length then 2 else zlE none l
def prevZ (l : List Zc) (k : Nat) : Option Int := if k = 0 then none else (l[k - 1]?).map Zc.t
theorem zl_step (l : List Zc) (k : Nat) (h : k < l.length) : zlE (prevZ l k) (l.drop k) = if zc1 (prevZ l k) l[k] ≠ 0 then zc1 (prevZ l k) l[k] else zlE (prevZ l (k + 1)) (l.drop (k + 1)) := by
  rw [List.drop_eq_getElem_cons h, zlE]
  have e : prevZ l (k + 1) = some l[k].t := by unfold prevZ; rw [if_neg (by omega)]; simp [h]
  rw [e]
theorem zl_end (l : List Zc) (p : Option Int) : zlE p (l.drop l.length) = 0 := by rw [List.drop_length]; rfl
theorem zl_bad {p : Option Int} {c : Zc} {r x v : Int} (hz : (if zc1 p c ≠ 0 then zc1 p c else r) = x) (h : zc1 p c = v) (hv : v ≠ 0) : x = v := by rw [h, if_pos hv] at hz; exact hz.symm
theorem zl_go {p : Option Int} {c : Zc} {r x : Int} (hz : (if zc1 p c ≠ 0 then zc1 p c else r) = x) (h : zc1 p c = 0) : r = x := by rw [h, if_neg (fun h => h rfl)] at hz; exact hz
theorem zc1_a {p : Option Int} {c : Zc} (h : instZ c.t = false) : zc1 p c = 3 := by unfold zc1; rw [if_pos (.inl h)]
theorem zc1_b {p : Option Int} {c : Zc} (h : offB c.o = false) : zc1 p c = 3 := by unfold zc1; rw [if_pos (.inr h)]
theorem zc1_c {p : Option Int} {c : Zc} (h1 : instZ c.t = true) (h2 : offB c.o = true) (h3 : labB c.lb = false) : zc1 p c = 8 := by unfold zc1; rw [if_neg (by rw [h1, h2]; decide), if_pos h3]
theorem zc1_d {p : Option Int} {c : Zc} (h1 : instZ c.t = true) (h2 : offB c.o = true) (h3 : labB c.lb = true) : zc1 p c = match p with | none => 0 | some q => if c.t ≤ q then 9 else 0 := by unfold zc1; rw [if_neg (by rw [h1, h2]; decide), if_neg (by rw [h3]; decide)]
theorem prevZ_zero (l : List Zc) : prevZ l 0 = none := if_pos rfl
theorem prevZ_succ (l : List Zc) (m : Nat) (h : m < l.length) : prevZ l (m + 1) = some l[m].t := by unfold prevZ; rw [if_neg (by omega)]; simp [h]
end
section
open Go.RowKit
def ZcSlice (w : World) (a : Option Addr) (l : List Zc) : Prop := ∀ k (h : k < l.length), ∃ b off, a = some ⟨b, off, none⟩ ∧ b < w.heap.size ∧ w.cell? ⟨b, off + k * 3, none⟩ = some (.int .i64 l[k].t) ∧ w.cell? ⟨b, off + k * 3 + 1, none⟩ = some (.int .i64 l[k].o) ∧ w.cell? ⟨b, off + k * 3 + 2, none⟩ = some (.string l[k].lb)
theorem ZcSlice.below {B : Nat} {w w' : World} {a : Option Addr} {l : List Zc} (h : ZcSlice w a l) (hs : w.heap.size ≤ B) (hb : Below B w w') : ZcSlice w' a l := by
  intro k hk
  obtain ⟨b, off, h1, h2, c0, c1, c2⟩ := h k hk
  exact ⟨b, off, h1, Nat.lt_of_lt_of_le h2 hb.size, (hb.cell (p := ⟨b, _, none⟩) (Nat.lt_of_lt_of_le h2 hs)).trans c0, (hb.cell (p := ⟨b, _, none⟩) (Nat.lt_of_lt_of_le h2 hs)).trans c1, (hb.cell (p := ⟨b, _, none⟩) (Nat.lt_of_lt_of_le h2 hs)).trans c2⟩
theorem ix_Zc {a : Option Addr} {b off len cap k : Nat} (ha : a = some ⟨b, off, none⟩) (hk : k < len) : ∀ w, (Instr.indexAt 22 (.slice a len cap) (.int .i64 k)).run Tryd.prog w = .ok (.pointer (some ⟨b, off + k * 3, none⟩)) w := by
  intro w
  subst ha
  have h1 : (k : Int) < (len : Int) := by omega
  go_simp
end
end Go.Proofs.YtapmdkinneehjaaDoor
