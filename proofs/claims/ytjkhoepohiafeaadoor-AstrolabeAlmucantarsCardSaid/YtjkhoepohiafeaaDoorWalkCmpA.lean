/- The contracts of the reference's Product, Compare and Fine. -/
import Derived.Test.YtjkhoepohiafeaaDoorWalkTimesA
import Derived.Deep.RegionHeld3
import Derived.Deep.DeepCutAuto
set_option linter.unusedVariables false
set_option linter.unusedSimpArgs false
namespace Go.Proofs.YtjkhoepohiafeaaDoor
open Go.RowKit
def WideIs (x : Int) (e : Ending) : Prop := ∃ neg d, e = .returned (.agg #[.bool neg, .int .i64 (d 0), .int .i64 (d 1), .int .i64 (d 2), .int .i64 (d 3), .int .i64 (d 4), .int .i64 (d 5)]) ∧ Dig d ∧ wsgn neg (val6 d) = x
theorem c_toWideIs (n : Int) (w : World) (h0 : -9223372036854775807 ≤ n) (h1 : n ≤ 9223372036854775807) :
    Calls Tryd.prog 62 #[.int .i64 n] w fun e w' => WideIs n e ∧ Below w.heap.size w w' := by
  refine (c_toWide n w h0 h1).mono ?_
  rintro e w' ⟨⟨neg, d, he, hd, hv, _⟩, hb⟩
  refine ⟨⟨neg, d, he, hd, ?_⟩, hb⟩
  rw [hv]
  cases neg
  · rfl
  · show -(-n) = n; omega
theorem wsgn_mul (na nb : Bool) (x y : Int) : wsgn (na != nb) (x * y) = wsgn na x * wsgn nb y := by
  cases na <;> cases nb <;> simp [wsgn, Int.mul_neg, Int.neg_mul]
def Prod2 (p q : Int) (e : Ending) : Prop := WideIs (p * q) e
theorem sgW_zero {neg : Bool} {d : Nat → Int} (h : ∀ j, j < 6 → d j = 0) : sgW neg d = 0 := by unfold sgW; rw [if_pos (val6_all0 h)]
theorem sgW_neg {d : Nat → Int} (hd : Dig d) (i : Nat) (hi : i < 6) (h : d i ≠ 0) : sgW true d = -1 := by
  have := val6_pos hd i hi h
  unfold sgW; rw [if_neg (by omega)]; rfl
theorem sgW_pos {d : Nat → Int} (hd : Dig d) (i : Nat) (hi : i < 6) (h : d i ≠ 0) : sgW false d = 1 := by
  have := val6_pos hd i hi h
  unfold sgW; rw [if_neg (by omega)]; rfl
set_option maxRecDepth 100000 in
set_option maxHeartbeats 2000000 in
theorem c_signOf (neg : Bool) (d : Nat → Int) (w : World) (hd : Dig d) : Calls Tryd.prog 87 #[WideV neg d] w fun e w' => e = .returned (.int .i64 (sgW neg d)) ∧ Below w.heap.size w w' := by
  have i0 : ∀ w, (Instr.index 71 (.agg #[.int .i64 (d 0), .int .i64 (d 1), .int .i64 (d 2), .int .i64 (d 3), .int .i64 (d 4), .int .i64 (d 5)]) (.int .i64 0)).run Tryd.prog w = .ok (.int .i64 (d 0)) w := fun _ => by kernel_rfl
  have i1 : ∀ w, (Instr.index 71 (.agg #[.int .i64 (d 0), .int .i64 (d 1), .int .i64 (d 2), .int .i64 (d 3), .int .i64 (d 4), .int .i64 (d 5)]) (.int .i64 1)).run Tryd.prog w = .ok (.int .i64 (d 1)) w := fun _ => by kernel_rfl
  have i2 : ∀ w, (Instr.index 71 (.agg #[.int .i64 (d 0), .int .i64 (d 1), .int .i64 (d 2), .int .i64 (d 3), .int .i64 (d 4), .int .i64 (d 5)]) (.int .i64 2)).run Tryd.prog w = .ok (.int .i64 (d 2)) w := fun _ => by kernel_rfl
  have i3 : ∀ w, (Instr.index 71 (.agg #[.int .i64 (d 0), .int .i64 (d 1), .int .i64 (d 2), .int .i64 (d 3), .int .i64 (d 4), .int .i64 (d 5)]) (.int .i64 3)).run Tryd.prog w = .ok (.int .i64 (d 3)) w := fun _ => by kernel_rfl
  have i4 : ∀ w, (Instr.index 71 (.agg #[.int .i64 (d 0), .int .i64 (d 1), .int .i64 (d 2), .int .i64 (d 3), .int .i64 (d 4), .int .i64 (d 5)]) (.int .i64 4)).run Tryd.prog w = .ok (.int .i64 (d 4)) w := fun _ => by kernel_rfl
  have i5 : ∀ w, (Instr.index 71 (.agg #[.int .i64 (d 0), .int .i64 (d 1), .int .i64 (d 2), .int .i64 (d 3), .int .i64 (d 4), .int .i64 (d 5)]) (.int .i64 5)).run Tryd.prog w = .ok (.int .i64 (d 5)) w := fun _ => by kernel_rfl
  have HN := Lib.hid (fun i (hi : i < 6) (h : d i ≠ 0) => sgW_neg hd i hi h)
  have HP := Lib.hid (fun i (hi : i < 6) (h : d i ≠ 0) => sgW_pos hd i hi h)
  have HZ := Lib.hid (@sgW_zero neg d)
  clear hd
  unfold WideV
  have ix : ∀ k : Nat, k < 6 → ∀ w, (Instr.index 71 (.agg #[.int .i64 (d 0), .int .i64 (d 1), .int .i64 (d 2), .int .i64 (d 3), .int .i64 (d 4), .int .i64 (d 5)]) (.int .i64 (k : Int))).run Tryd.prog w = .ok (.int .i64 (d k)) w := by
    intro k hk
    rcases lt6 hk with rfl | rfl | rfl | rfl | rfl | rfl
    · exact i0
    · exact i1
    · exact i2
    · exact i3
    · exact i4
    · exact i5
  have IX := Lib.hid ix
  clear ix i0 i1 i2 i3 i4 i5
  have hgen := sgen; have hgen2 := sgen2; have hgen3 := sgen3; go_enter Tryd.func87, Tryd.ntmps87
  go_wp2
  go_loopg [7] 6 (fun gk i wr => ∃ k : Nat, gk + k = 6 ∧ i = .int .i64 k ∧ wr = w.alloc (.cells #[.bool neg, .int .i64 (d 0), .int .i64 (d 1), .int .i64 (d 2), .int .i64 (d 3), .int .i64 (d 4), .int .i64 (d 5)] 73 (0, 0)) ∧ ∀ j, j < k → d j = 0)
  case atStart => exact ⟨0, rfl, rfl, rfl, fun j hj => by omega⟩
  case round =>
    obtain ⟨k, hk, rfl, rfl, hz⟩ := hrel
    have HH := Lib.hid hz
    clear hz
    by_cases hlt : k < 6
    · have hkz : (k : Int) < 6 := by omega
      have ixk := IX.out k hlt
      by_cases h0 : d k = 0
      · have t0 : (d k != 0) = false := by simp [h0]
        have H0 := Lib.hid h0
        clear h0
        go_wp2
        go_roundg (5 - k)
        case measure => omega
        case rel =>
          refine ⟨k + 1, by omega, by go_num, rfl, fun j hj => ?_⟩
          by_cases e : j = k
          · subst e; exact H0.out
          · exact HH.out j (by omega)
      · have t0 : (d k != 0) = true := by simp [h0]
        have H0 := Lib.hid h0
        clear h0
        cases neg
        · have HE := Lib.hid (HP.out k hlt H0.out)
          go_wp2
          go_ret
          refine ⟨ret_int HE.out.symm, ?_⟩
          exact belz
        · have HE := Lib.hid (HN.out k hlt H0.out)
          go_wp2
          go_ret
          refine ⟨ret_int HE.out.symm, ?_⟩
          exact belz
    · have HE := Lib.hid (HZ.out (fun j hj => HH.out j (by omega)))
      have hkz : ¬ (k : Int) < 6 := by omega
      go_wp2
      go_ret
      refine ⟨ret_int HE.out.symm, ?_⟩
      exact belz
def sg01 (x : Int) : Prop := x = 0 ∨ x = -1 ∨ x = 1
set_option maxRecDepth 100000 in
set_option maxHeartbeats 4000000 in
theorem c_compare (na nb : Bool) (d d' : Nat → Int) (w : World) (hd : Dig d) (hd' : Dig d') : Calls Tryd.prog 63 #[WideV na d, WideV nb d'] w fun e w' => e = .returned (.int .i64 (cmpW na d nb d')) ∧ Below w.heap.size w w' := by
  have hA := fun w1 => c_signOf na d w1 hd
  have hB := fun w1 => c_signOf nb d' w1 hd'
  unfold WideV at hA hB ⊢
  have HA := Lib.hid hA
  have HB := Lib.hid hB
  clear hA hB
  have hgen := sgen; have hgen2 := sgen2; have hgen3 := sgen3; go_enter Tryd.func63, Tryd.ntmps63
  go_upto_region 1 with fail
  have WA : WideAt ((w.alloc (.cells #[.bool na, .int .i64 (d 0), .int .i64 (d 1), .int .i64 (d 2), .int .i64 (d 3), .int .i64 (d 4), .int .i64 (d 5)] 73 (0, 0))).alloc (.cells #[.bool nb, .int .i64 (d' 0), .int .i64 (d' 1), .int .i64 (d' 2), .int .i64 (d' 3), .int .i64 (d' 4), .int .i64 (d' 5)] 73 (0, 0))) w.heap.size na d := by constructor <;> (try intro o) <;> go_simp
  have WB : WideAt ((w.alloc (.cells #[.bool na, .int .i64 (d 0), .int .i64 (d 1), .int .i64 (d 2), .int .i64 (d 3), .int .i64 (d 4), .int .i64 (d 5)] 73 (0, 0))).alloc (.cells #[.bool nb, .int .i64 (d' 0), .int .i64 (d' 1), .int .i64 (d' 2), .int .i64 (d' 3), .int .i64 (d' 4), .int .i64 (d' 5)] 73 (0, 0))) (w.heap.size + 1) nb d' := by constructor <;> (try intro o) <;> go_simp
  have HWA := Lib.hid WA
  have HWB := Lib.hid WB
  clear WA WB
  go_cut [5, 6] (fun x5 x6 wc => x5 = .int .i64 (sgW na d) ∧ x6 = .int .i64 (sgW nb d') ∧ WideAt wc w.heap.size na d ∧ WideAt wc (w.heap.size + 1) nb d' ∧ Below w.heap.size w wc)
  case first =>
    go_wp2_with fail
    go_region_held3 (fun w' => w'.cell? ⟨w.heap.size, 0, none⟩ = some (.bool na) ∧ w'.cell? ⟨w.heap.size, 1, none⟩ = some (.int .i64 (d 0)) ∧ w'.cell? ⟨w.heap.size, 2, none⟩ = some (.int .i64 (d 1)) ∧ w'.cell? ⟨w.heap.size, 3, none⟩ = some (.int .i64 (d 2)) ∧ w'.cell? ⟨w.heap.size, 4, none⟩ = some (.int .i64 (d 3)) ∧ w'.cell? ⟨w.heap.size, 5, none⟩ = some (.int .i64 (d 4)) ∧ w'.cell? ⟨w.heap.size, 6, none⟩ = some (.int .i64 (d 5)) ∧ w'.cell? ⟨w.heap.size + 1, 0, none⟩ = some (.bool nb) ∧ w'.cell? ⟨w.heap.size + 1, 1, none⟩ = some (.int .i64 (d' 0)) ∧ w'.cell? ⟨w.heap.size + 1, 2, none⟩ = some (.int .i64 (d' 1)) ∧ w'.cell? ⟨w.heap.size + 1, 3, none⟩ = some (.int .i64 (d' 2)) ∧ w'.cell? ⟨w.heap.size + 1, 4, none⟩ = some (.int .i64 (d' 3)) ∧ w'.cell? ⟨w.heap.size + 1, 5, none⟩ = some (.int .i64 (d' 4)) ∧ w'.cell? ⟨w.heap.size + 1, 6, none⟩ = some (.int .i64 (d' 5))) (refine ⟨?_, ?_, ?_, ?_, ?_, ?_, ?_, ?_, ?_, ?_, ?_, ?_, ?_, ?_⟩ <;> (first | (go_simp; done) | go_keep)) (first | (go_at_call 87; (with_reducible refine (HA.out _).mono ?_); rintro e w1 ⟨rfl, hb⟩; have hz := hb.size; (try simp only [szA, szS, szD, szN] at hz); (try (refine bcB (n := w.heap.size) hb ?_; intro h_w_0 e_w_0 d_w_0 _ _)); (try (refine bcB (n := w.heap.size + 1) hb ?_; intro h_w_1 e_w_1 d_w_1 _ _))) | (go_at_call 87; (with_reducible refine (HB.out _).mono ?_); rintro e w2 ⟨rfl, hb⟩; have hz := hb.size; (try simp only [szA, szS, szD, szN] at hz); (try (refine bcB (n := w.heap.size) hb ?_; intro h_w_0 e_w_0 d_w_0 _ _)); (try (refine bcB (n := w.heap.size + 1) hb ?_; intro h_w_1 e_w_1 d_w_1 _ _)); (try (refine bcB (n := w1.heap.size) hb ?_; intro h_w1_0 e_w1_0 d_w1_0 _ _))))
    all_goals go_wp2_with fail
    all_goals go_meet
    all_goals refine ⟨rfl, rfl, HWA.out.below (by exact belz), HWB.out.below (by exact belz), by exact belz⟩
  case rest =>
    clear HWA HWB
    obtain ⟨rfl, rfl, WA, WB, hbel⟩ := hcut
    have HL := Lib.hid (@cmpW_lt na nb d d' hd hd')
    have HG := Lib.hid (@cmpW_gt na nb d d' hd hd')
    have HDG := Lib.hid (@cmpW_dig na nb d d' hd hd')
    have HSM := Lib.hid (@cmpW_same na nb d d' hd hd')
    generalize sgW na d = sa at *
    generalize sgW nb d' = sb at *
    by_cases hs : sa = sb
    · subst hs
      have t0 : (sa != sa) = false := by simp
      go_wp2_with fail
      go_loopg [7] 6 (fun gk i wr => ∃ k : Nat, gk = k ∧ k ≤ 6 ∧ i = .int .i64 ((k : Int) - 1) ∧ (∀ j, k ≤ j → j < 6 → d j = d' j) ∧ WideAt wr w.heap.size na d ∧ WideAt wr (w.heap.size + 1) nb d' ∧ Below w.heap.size w wr)
      case atStart => exact ⟨6, rfl, by omega, rfl, fun j h1 h2 => by omega, WA, WB, hbel⟩
      case round =>
        clear WA WB hbel
        obtain ⟨k, rfl, hk, rfl, he, WA, WB, hbel⟩ := hrel
        have HEQ := Lib.hid he
        clear he
        cases gk with
        | zero =>
          have HE := Lib.hid (HSM.out (by first | trivial | rfl) (fun j hj => HEQ.out j (by omega) hj))
          clear WA WB
          go_wp2_with fail
          go_ret
          exact ⟨ret_int HE.out.symm, hbel⟩
        | succ q =>
          have r1 : ((q + 1 : Nat) : Int) - 1 = (q : Int) := by omega
          have r2 : 0 ≤ (q : Int) := by omega
          have r3 : (q : Int) < 6 := by omega
          have r4 : IntKind.i64.wrap ((q : Int) - 1) = (q : Int) - 1 := IntWalk.i64_in _ (by omega)
          have e1 := WA.cell (show q < 6 by omega)
          have e2 := WB.cell (show q < 6 by omega)
          have HWA := Lib.hid WA
          have HWB := Lib.hid WB
          clear WA WB
          rw [r1]
          clear r1
          by_cases hq : d q = d' q
          · have t1 : (d q != d' q) = false := by simp [hq]
            have HQ := Lib.hid hq
            clear hq
            go_wp2_with fail
            go_quiet (fail)
            go_wp2_with fail
            go_roundg q
            case measure => omega
            case rel =>
              refine ⟨q, rfl, by omega, rfl, fun j h1 h2 => ?_, HWA.out.below (by exact belz), HWB.out.below (by exact belz), by exact belz⟩
              by_cases e : j = q
              · subst e; exact HQ.out
              · exact HEQ.out j (by omega) h2
          · have t1 : (d q != d' q) = true := by simp [hq]
            have hE := HDG.out (by first | trivial | rfl) q (by omega) (fun j h1 h2 => HEQ.out j (by omega) h2) hq
            by_cases hl : d q < d' q <;> by_cases hp : 0 < sa
            all_goals
              first | have t2 : decide (d q < d' q) = true := decide_eq_true hl | have t2 : decide (d q < d' q) = false := decide_eq_false hl
              first | have t3 : decide (0 < sa) = true := decide_eq_true hp | have t3 : decide (0 < sa) = false := decide_eq_false hp
              rw [t2, t3] at hE
              have HE := Lib.hid hE
              clear hE hq
              go_wp2_with fail
              go_quiet (fail)
              go_wp2_with fail
              go_quiet (fail)
              go_wp2_with fail
              go_ret
              exact ⟨ret_int HE.out.symm, by exact belz⟩
    · have t0 : (sa != sb) = true := by simp [hs]
      by_cases hl : sa < sb
      · have HE := Lib.hid (HL.out hl)
        go_wp2_with fail
        go_ret
        exact ⟨ret_int HE.out.symm, hbel⟩
      · have HE := Lib.hid (HG.out (by omega))
        go_wp2_with fail
        go_ret
        exact ⟨ret_int HE.out.symm, hbel⟩
def dP : Nat → Int := fun i => if i = 2 then 1 else 0
theorem dig_dP : Dig dP := ⟨fun i _ => by unfold dP; split <;> omega, fun i _ => by unfold dP; split <;> omega⟩
theorem val_dP : val6 dP = 1000000000000000000 := by simp [val6, dP]
theorem c_cmpP (neg : Bool) (d : Nat → Int) (w : World) (hd : Dig d) (x : Int) (hx : wsgn neg (val6 d) = x) : Calls Tryd.prog 63 #[.agg #[.bool neg, .int .i64 (d 0), .int .i64 (d 1), .int .i64 (d 2), .int .i64 (d 3), .int .i64 (d 4), .int .i64 (d 5)], .agg #[.bool false, .int .i64 0, .int .i64 0, .int .i64 1, .int .i64 0, .int .i64 0, .int .i64 0]] w fun e w' => e = .returned (.int .i64 (cmpI x 1000000000000000000)) ∧ Below w.heap.size w w' := by
  have h := c_compare neg false d dP w hd dig_dP
  unfold cmpW at h
  rw [hx, val_dP] at h
  exact h
theorem c_cmpM (neg : Bool) (d : Nat → Int) (w : World) (hd : Dig d) (x : Int) (hx : wsgn neg (val6 d) = x) : Calls Tryd.prog 63 #[.agg #[.bool neg, .int .i64 (d 0), .int .i64 (d 1), .int .i64 (d 2), .int .i64 (d 3), .int .i64 (d 4), .int .i64 (d 5)], .agg #[.bool true, .int .i64 0, .int .i64 0, .int .i64 1, .int .i64 0, .int .i64 0, .int .i64 0]] w fun e w' => e = .returned (.int .i64 (cmpI x (-1000000000000000000))) ∧ Below w.heap.size w w' := by
  have h := c_compare neg true d dP w hd dig_dP
  unfold cmpW at h
  rw [hx, val_dP] at h
  exact h
end Go.Proofs.YtjkhoepohiafeaaDoor
