/- The contracts of the reference's ToWide. -/
import Derived.Test.YtjkhoepohiafeaaDoorWkA
import Derived.Test.YtjkhoepohiafeaaDoorIvA
import Derived.Deep.LoopGhost
import Derived.Deep.Light
import Derived.IntWalk
set_option linter.unusedVariables false
set_option linter.unusedSimpArgs false
namespace Go.Proofs.YtjkhoepohiafeaaDoor
open Go.RowKit
def WideV (neg : Bool) (d : Nat → Int) : Value := .agg #[.bool neg, .int .i64 (d 0), .int .i64 (d 1), .int .i64 (d 2), .int .i64 (d 3), .int .i64 (d 4), .int .i64 (d 5)]
theorem ret_wide {neg neg' : Bool} {a0 a1 a2 a3 a4 a5 : Int} {d : Nat → Int} (h : neg = neg') (h0 : a0 = d 0) (h1 : a1 = d 1) (h2 : a2 = d 2) (h3 : a3 = d 3) (h4 : a4 = d 4) (h5 : a5 = d 5) :
    Ending.returned (.agg #[.bool neg, .int .i64 a0, .int .i64 a1, .int .i64 a2, .int .i64 a3, .int .i64 a4, .int .i64 a5]) = .returned (WideV neg' d) := by
  subst h h0 h1 h2 h3 h4 h5; rfl
structure WideAt (w : World) (b : Nat) (neg : Bool) (d : Nat → Int) : Prop where
  lt : b < w.heap.size
  n0 : w.cell? ⟨b, 0, none⟩ = some (.bool neg)
  c1 : w.cell? ⟨b, 1, none⟩ = some (.int .i64 (d 0))
  c2 : w.cell? ⟨b, 2, none⟩ = some (.int .i64 (d 1))
  c3 : w.cell? ⟨b, 3, none⟩ = some (.int .i64 (d 2))
  c4 : w.cell? ⟨b, 4, none⟩ = some (.int .i64 (d 3))
  c5 : w.cell? ⟨b, 5, none⟩ = some (.int .i64 (d 4))
  c6 : w.cell? ⟨b, 6, none⟩ = some (.int .i64 (d 5))
  fr : ∀ o, w.frozen? ⟨b, o, none⟩ = false
theorem WideAt.below {w w' : World} {b : Nat} {neg : Bool} {d : Nat → Int} (h : WideAt w b neg d) (hb : Below w.heap.size w w') : WideAt w' b neg d := by
  obtain ⟨h0, h1, h2, h3, h4, h5, h6, h7, h8⟩ := h
  exact ⟨Nat.lt_of_lt_of_le h0 hb.size, (hb.cell h0).trans h1, (hb.cell h0).trans h2, (hb.cell h0).trans h3, (hb.cell h0).trans h4, (hb.cell h0).trans h5, (hb.cell h0).trans h6, (hb.cell h0).trans h7, fun o => (hb.frozen (p := ⟨b, o, none⟩) h0).trans (h8 o)⟩
theorem WideAt.cell {w : World} {b : Nat} {neg : Bool} {d : Nat → Int} (h : WideAt w b neg d) {i : Nat} (hi : i < 6) : w.cell? ⟨b, 1 + i, none⟩ = some (.int .i64 (d i)) := by
  rcases lt6 hi with rfl | rfl | rfl | rfl | rfl | rfl
  · exact h.c1
  · exact h.c2
  · exact h.c3
  · exact h.c4
  · exact h.c5
  · exact h.c6
theorem WideAt.set {w : World} {b : Nat} {neg : Bool} {d : Nat → Int} (h : WideAt w b neg d) (j : Nat) (v : Int) (hj : j < 6) : WideAt (w.setCell ⟨b, 1 + j, none⟩ (.int .i64 v)) b neg (stD d j v) := by
  have hc := h.cell hj
  obtain ⟨h0, h1, h2, h3, h4, h5, h6, h7, h8⟩ := h
  have fr : ∀ o, (w.setCell ⟨b, 1 + j, none⟩ (.int .i64 v)).frozen? ⟨b, o, none⟩ = false := fun o => by
    have := h8 o
    go_simp
  rcases lt6 hj with rfl | rfl | rfl | rfl | rfl | rfl <;> (refine ⟨?_, ?_, ?_, ?_, ?_, ?_, ?_, ?_, fr⟩ <;> ((try simp only [stD]); go_simp))
theorem WideAt.setEq {w : World} {b : Nat} {neg : Bool} {d : Nat → Int} (h : WideAt w b neg d) (j : Nat) (v v' : Int) (hj : j < 6) (e : v' = v) : WideAt (w.setCell ⟨b, 1 + j, none⟩ (.int .i64 v')) b neg (stD d j v) := by subst e; exact h.set j _ hj
theorem WideAt.setOther {w : World} {b c : Nat} {neg : Bool} {d : Nat → Int} (h : WideAt w b neg d) (hbc : b ≠ c) (o : Nat) (v : Value) : WideAt (w.setCell ⟨c, o, none⟩ v) b neg d := by
  obtain ⟨h0, h1, h2, h3, h4, h5, h6, h7, h8⟩ := h
  refine ⟨?_, ?_, ?_, ?_, ?_, ?_, ?_, ?_, fun o' => ?_⟩
  all_goals (try have h8' := h8 o'); go_simp
theorem tmod_neg9 (m : Int) (h : 0 ≤ m) : (-m).tmod 1000000000 = -(m % 1000000000) := by rw [Int.neg_tmod, Int.tmod_eq_emod_of_nonneg h]
theorem tdiv_neg9 (m : Int) (h : 0 ≤ m) : (-m).tdiv 1000000000 = -(m / 1000000000) := by rw [Int.neg_tdiv, Int.tdiv_eq_ediv_of_nonneg h]
theorem wide_step {d : Nat → Int} {k : Nat} {m M : Int} (hk : k < 6) (h : m * pw k + val6 d = M) (hz : d k = 0) : m / 1000000000 * pw (k + 1) + val6 (stD d k (m % 1000000000)) = M := by
  rw [val6_set d k _ hk, hz]
  have hdm : m % 1000000000 = m - 1000000000 * (m / 1000000000) := by omega
  rw [hdm]
  generalize m / 1000000000 = q
  rcases lt6 hk with rfl | rfl | rfl | rfl | rfl | rfl <;> (simp only [pw] at h ⊢; omega)
theorem wide_end {d : Nat → Int} {m M : Int} (hd : Dig d) (h : m * pw 6 + val6 d = M) (h0 : 0 ≤ m) (hM : M < 1000000000000000000000000000) : val6 d = M ∧ d 3 = 0 ∧ d 4 = 0 ∧ d 5 = 0 := by
  have l0 := hd.lo 0 (by omega); have l1 := hd.lo 1 (by omega); have l2 := hd.lo 2 (by omega); have l3 := hd.lo 3 (by omega); have l4 := hd.lo 4 (by omega); have l5 := hd.lo 5 (by omega)
  simp only [pw] at h
  unfold val6 at *
  omega
def Wide27 (neg : Bool) (x : Int) (e : Ending) : Prop := ∃ d, e = .returned (WideV neg d) ∧ Dig d ∧ val6 d = x ∧ d 3 = 0 ∧ d 4 = 0 ∧ d 5 = 0
set_option maxHeartbeats 1000000 in
theorem c_toWide_pos (n : Int) (w : World) (h0 : 0 ≤ n) (h1 : n ≤ 9223372036854775807) :
    Calls Tryd.prog 62 #[.int .i64 n] w fun e w' => Wide27 false n e ∧ Below w.heap.size w w' := by
  have hneg : decide (n < 0) = false := decide_eq_false (by omega)
  have hgen := sgen; have hgen2 := sgen2; have hgen3 := sgen3; go_enter Tryd.func62, Tryd.ntmps62
  go_wp2
  go_loopg [0, 9] 6 (fun gk x i wr => ∃ (k : Nat) (m : Int) (d : Nat → Int), gk + k = 6 ∧ x = .int .i64 m ∧ i = .int .i64 k ∧ 0 ≤ m ∧ m ≤ 9223372036854775807 ∧ m * pw k + val6 d = n ∧ Dig d ∧ (∀ j, k ≤ j → d j = 0) ∧ WideAt wr (w.heap.size + 1) false d ∧ WideAt wr w.heap.size false (fun _ => 0) ∧ Below w.heap.size w wr)
  case atStart =>
    refine ⟨0, n, fun _ => 0, rfl, rfl, rfl, h0, h1, by rw [val6_zero]; simp [pw], dig_zero, fun _ _ => rfl, ?_, ?_, ?_⟩
    · constructor <;> (try intro o) <;> go_simp
    · constructor <;> (try intro o) <;> go_simp
    · exact belz
  case round =>
    obtain ⟨k, m, d, hk, rfl, rfl, m0, m1, hval, hd, hz, hW, hR, hbel⟩ := hrel
    have hsz := hbel.size
    by_cases hlt : k < 6
    · have HV := Lib.hid hval
      have HD := Lib.hid hd
      have HZ := Lib.hid hz
      have HW := Lib.hid hW
      have HR := Lib.hid hR
      have g1 := hW.cell hlt
      have g2 := hW.fr (1 + k)
      have hkz : (k : Int) < 6 := by omega
      clear hval hd hz hW hR
      go_wp2
      go_roundg (5 - k)
      case measure => omega
      case rel =>
        refine ⟨k + 1, m / 1000000000, stD d k (m % 1000000000), by omega, rfl, by go_num, by omega, by omega, wide_step hlt HV.out (HZ.out k (Nat.le_refl _)), HD.out.set k _ (by omega) (by omega), fun j hj => ?_, HW.out.set k _ hlt, ?_, ?_⟩
        · unfold stD; rw [if_neg (by omega)]; exact HZ.out j (by omega)
        · exact HR.out.setOther (by omega) _ _
        · exact belz
    · obtain rfl : k = 6 := by omega
      have HE := Lib.hid (wide_end hd hval m0 (by omega))
      have HD := Lib.hid hd
      obtain ⟨a0, a1, a2, a3, a4, a5, a6, a7, a8⟩ := hW
      obtain ⟨b0, b1, b2, b3, b4, b5, b6, b7, b8⟩ := hR
      clear hval hz hd
      go_wp2
      refine bodyPost_ret (v := WideV false d) (by simp only [results, Tryd.results62]; go_simp; rfl) rfl ⟨⟨d, rfl, HD.out, HE.out.1, HE.out.2.1, HE.out.2.2.1, HE.out.2.2.2⟩, ?_⟩
      exact belz
set_option maxHeartbeats 1000000 in
theorem c_toWide_neg (n : Int) (w : World) (h0 : n < 0) (h1 : -9223372036854775807 ≤ n) :
    Calls Tryd.prog 62 #[.int .i64 n] w fun e w' => Wide27 true (-n) e ∧ Below w.heap.size w w' := by
  have hneg : decide (n < 0) = true := decide_eq_true h0
  have hgen := sgen; have hgen2 := sgen2; have hgen3 := sgen3; go_enter Tryd.func62, Tryd.ntmps62
  go_wp2
  go_loopg [0, 9] 6 (fun gk x i wr => ∃ (k : Nat) (m : Int) (d : Nat → Int), gk + k = 6 ∧ x = .int .i64 (-m) ∧ i = .int .i64 k ∧ 0 ≤ m ∧ m ≤ 9223372036854775807 ∧ m * pw k + val6 d = -n ∧ Dig d ∧ (∀ j, k ≤ j → d j = 0) ∧ WideAt wr (w.heap.size + 1) true d ∧ WideAt wr w.heap.size false (fun _ => 0) ∧ Below w.heap.size w wr)
  case atStart =>
    refine ⟨0, -n, fun _ => 0, rfl, by rw [Int.neg_neg], rfl, by omega, by omega, by rw [val6_zero]; simp [pw], dig_zero, fun _ _ => rfl, ?_, ?_, ?_⟩
    · constructor <;> (try intro o) <;> go_simp
    · constructor <;> (try intro o) <;> go_simp
    · exact belz
  case round =>
    obtain ⟨k, m, d, hk, rfl, rfl, m0, m1, hval, hd, hz, hW, hR, hbel⟩ := hrel
    have hsz := hbel.size
    by_cases hlt : k < 6
    · have HV := Lib.hid hval
      have HD := Lib.hid hd
      have HZ := Lib.hid hz
      have HW := Lib.hid hW
      have HR := Lib.hid hR
      have g1 := hW.cell hlt
      have g2 := hW.fr (1 + k)
      have hkz : (k : Int) < 6 := by omega
      have r1 := tmod_neg9 m m0
      have r2 := tdiv_neg9 m m0
      have r3 : 0 ≤ m % 1000000000 := by omega
      have r4 : m % 1000000000 ≤ 999999999 := by omega
      clear hval hd hz hW hR
      go_wp2
      all_goals go_roundg (5 - k)
      all_goals first
        | omega
        | skip
      all_goals
        refine ⟨k + 1, m / 1000000000, stD d k (m % 1000000000), by omega, rfl, by go_num, by omega, by omega, wide_step hlt HV.out (HZ.out k (Nat.le_refl _)), HD.out.set k _ (by omega) (by omega), fun j hj => ?_, HW.out.setEq k _ _ hlt (by omega), ?_, ?_⟩
        · unfold stD; rw [if_neg (by omega)]; exact HZ.out j (by omega)
        · exact HR.out.setOther (by omega) _ _
        · exact belz
    · obtain rfl : k = 6 := by omega
      have HE := Lib.hid (wide_end hd hval m0 (by omega))
      have HD := Lib.hid hd
      obtain ⟨a0, a1, a2, a3, a4, a5, a6, a7, a8⟩ := hW
      obtain ⟨b0, b1, b2, b3, b4, b5, b6, b7, b8⟩ := hR
      clear hval hz hd
      go_wp2
      refine bodyPost_ret (v := WideV true d) (by simp only [results, Tryd.results62]; go_simp; rfl) rfl ⟨⟨d, rfl, HD.out, HE.out.1, HE.out.2.1, HE.out.2.2.1, HE.out.2.2.2⟩, ?_⟩
      exact belz
theorem c_toWide (n : Int) (w : World) (h0 : -9223372036854775807 ≤ n) (h1 : n ≤ 9223372036854775807) :
    Calls Tryd.prog 62 #[.int .i64 n] w fun e w' => (∃ neg, Wide27 neg (if neg = true then -n else n) e) ∧ Below w.heap.size w w' := by
  by_cases h : n < 0
  · exact (c_toWide_neg n w h h0).mono fun _ _ ⟨h1, h2⟩ => ⟨⟨true, h1⟩, h2⟩
  · exact (c_toWide_pos n w (by omega) h1).mono fun _ _ ⟨h1, h2⟩ => ⟨⟨false, h1⟩, h2⟩
end Go.Proofs.YtjkhoepohiafeaaDoor
