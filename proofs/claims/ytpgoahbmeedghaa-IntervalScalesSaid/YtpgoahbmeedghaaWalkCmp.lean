/- The contracts of the reference's Product, Compare and Fine. -/
import Derived.Test.YtpgoahbmeedghaaWalkTimes
import Derived.Deep.RegionHeld3
import Derived.Deep.DeepCutAuto
set_option linter.unusedVariables false
set_option linter.unusedSimpArgs false
namespace Go.Proofs.Ytpgoahbmeedghaa
open Go.RowKit
def WideIs (x : Int) (e : Ending) : Prop := ∃ neg d, e = .returned (.agg #[.bool neg, .int .i64 (d 0), .int .i64 (d 1), .int .i64 (d 2), .int .i64 (d 3), .int .i64 (d 4), .int .i64 (d 5)]) ∧ Dig d ∧ wsgn neg (val6 d) = x
theorem c_toWideIs (n : Int) (w : World) (h0 : -9223372036854775807 ≤ n) (h1 : n ≤ 9223372036854775807) :
    Calls Try.prog 20 #[.int .i64 n] w fun e w' => WideIs n e ∧ Below w.heap.size w w' := by
  refine (c_toWide n w h0 h1).mono ?_
  rintro e w' ⟨⟨neg, d, he, hd, hv, _⟩, hb⟩
  refine ⟨⟨neg, d, he, hd, ?_⟩, hb⟩
  rw [hv]
  cases neg
  · rfl
  · show -(-n) = n; omega
theorem wsgn_mul (na nb : Bool) (x y : Int) : wsgn (na != nb) (x * y) = wsgn na x * wsgn nb y := by
  cases na <;> cases nb <;> simp [wsgn, Int.mul_neg, Int.neg_mul]
def Prod2 (p q : Int) (e : Ending) : Prop := WideIs (p * q) e
set_option maxHeartbeats 1000000 in
theorem c_wproduct (p q : Int) (w : World) (p0 : -9223372036854775807 ≤ p) (p1 : p ≤ 9223372036854775807) (q0 : -9223372036854775807 ≤ q) (q1 : q ≤ 9223372036854775807) :
    Calls Try.prog 17 #[.int .i64 p, .int .i64 q] w fun e w' => WideIs (p * q) e ∧ Below w.heap.size w w' := by
  have HP := Lib.hid (fun w1 => c_toWide p w1 p0 p1)
  have HQ := Lib.hid (fun w1 => c_toWide q w1 q0 q1)
  clear p0 p1 q0 q1
  have hgen := sgen; have hgen2 := sgen2; have hgen3 := sgen3; go_enter Try.func17, Try.ntmps17
  go_wp2_with fail
  refine (HP.out _).mono ?_
  rintro e w1 ⟨⟨np, a, rfl, ha, va, a3, a4, a5⟩, hb1⟩
  have hz1 := hb1.size
  simp only [World.size_alloc] at hz1
  have VA := Lib.hid va; have HA := Lib.hid ha; have A3 := Lib.hid a3; have A4 := Lib.hid a4; have A5 := Lib.hid a5
  clear va ha a3 a4 a5
  refine bcUse (n := w.heap.size) hb1 (by go_simp) ?_
  intro hc1 hf1
  go_wp2_with fail
  refine (HQ.out _).mono ?_
  rintro e w2 ⟨⟨nq, b, rfl, hb, vb, b3, b4, b5⟩, hb2⟩
  have hz2 := hb2.size
  have VB := Lib.hid vb; have HB := Lib.hid hb; have B3 := Lib.hid b3; have B4 := Lib.hid b4; have B5 := Lib.hid b5
  clear vb hb b3 b4 b5
  have h2 : w.heap.size < w1.heap.size := by omega
  refine bcUse (n := w.heap.size) hb2 h2 ?_
  intro hc2 hf2
  go_wp2_with fail
  refine (c_times np nq a b _ HA.out HB.out A3.out A4.out A5.out B3.out B4.out B5.out).mono ?_
  rintro e w3 ⟨⟨d, rfl, hd, vd⟩, hb3⟩
  have hz3 := hb3.size
  have HD := Lib.hid hd; have VD := Lib.hid vd
  clear hd vd
  have h3 : w.heap.size < w2.heap.size := by omega
  have h4 : w.heap.size < w3.heap.size := by omega
  refine bcUse (n := w.heap.size) hb3 h3 ?_
  intro hc3 hf3
  unfold WideV
  go_wp2_with fail
  refine bodyPost_ret (v := WideV (np != nq) d) (by simp only [results, Try.results17]; go_simp; rfl) rfl ⟨⟨np != nq, d, rfl, HD.out, ?_⟩, ?_⟩
  · rw [VD.out, wsgn_mul, VA.out, VB.out]
    congr 1
    · cases np
      · rfl
      · show -(-p) = p; omega
    · cases nq
      · rfl
      · show -(-q) = q; omega
  · (repeat' (first | (with_reducible exact Below.refl _ _) | (with_reducible assumption) | (with_reducible refine Below.call ?_ ?_ (by with_reducible assumption)) | (with_reducible refine Below.alloc ?_ ?_ _) | (with_reducible refine Below.drew ?_) | (with_reducible refine below_drewN ?_ _) | (with_reducible refine Below.setCell ?_ ?_ _) | (with_reducible exact Nat.le_refl _) | omega | (simp only [World.size_alloc, World.size_setCell, World.size_drew, World.heap_drewN] at *; omega)))
theorem sgW_zero {neg : Bool} {d : Nat → Int} (h : ∀ j, j < 6 → d j = 0) : sgW neg d = 0 := by unfold sgW; rw [if_pos (val6_all0 h)]
theorem sgW_neg {d : Nat → Int} (hd : Dig d) (i : Nat) (hi : i < 6) (h : d i ≠ 0) : sgW true d = -1 := by
  have := val6_pos hd i hi h
  unfold sgW; rw [if_neg (by omega)]; rfl
theorem sgW_pos {d : Nat → Int} (hd : Dig d) (i : Nat) (hi : i < 6) (h : d i ≠ 0) : sgW false d = 1 := by
  have := val6_pos hd i hi h
  unfold sgW; rw [if_neg (by omega)]; rfl
set_option maxRecDepth 100000 in
set_option maxHeartbeats 2000000 in
theorem c_signOf (neg : Bool) (d : Nat → Int) (w : World) (hd : Dig d) : Calls Try.prog 40 #[WideV neg d] w fun e w' => e = .returned (.int .i64 (sgW neg d)) ∧ Below w.heap.size w w' := by
  have i0 : ∀ w, (Instr.index 33 (.agg #[.int .i64 (d 0), .int .i64 (d 1), .int .i64 (d 2), .int .i64 (d 3), .int .i64 (d 4), .int .i64 (d 5)]) (.int .i64 0)).run Try.prog w = .ok (.int .i64 (d 0)) w := fun _ => by kernel_rfl
  have i1 : ∀ w, (Instr.index 33 (.agg #[.int .i64 (d 0), .int .i64 (d 1), .int .i64 (d 2), .int .i64 (d 3), .int .i64 (d 4), .int .i64 (d 5)]) (.int .i64 1)).run Try.prog w = .ok (.int .i64 (d 1)) w := fun _ => by kernel_rfl
  have i2 : ∀ w, (Instr.index 33 (.agg #[.int .i64 (d 0), .int .i64 (d 1), .int .i64 (d 2), .int .i64 (d 3), .int .i64 (d 4), .int .i64 (d 5)]) (.int .i64 2)).run Try.prog w = .ok (.int .i64 (d 2)) w := fun _ => by kernel_rfl
  have i3 : ∀ w, (Instr.index 33 (.agg #[.int .i64 (d 0), .int .i64 (d 1), .int .i64 (d 2), .int .i64 (d 3), .int .i64 (d 4), .int .i64 (d 5)]) (.int .i64 3)).run Try.prog w = .ok (.int .i64 (d 3)) w := fun _ => by kernel_rfl
  have i4 : ∀ w, (Instr.index 33 (.agg #[.int .i64 (d 0), .int .i64 (d 1), .int .i64 (d 2), .int .i64 (d 3), .int .i64 (d 4), .int .i64 (d 5)]) (.int .i64 4)).run Try.prog w = .ok (.int .i64 (d 4)) w := fun _ => by kernel_rfl
  have i5 : ∀ w, (Instr.index 33 (.agg #[.int .i64 (d 0), .int .i64 (d 1), .int .i64 (d 2), .int .i64 (d 3), .int .i64 (d 4), .int .i64 (d 5)]) (.int .i64 5)).run Try.prog w = .ok (.int .i64 (d 5)) w := fun _ => by kernel_rfl
  have HN := Lib.hid (fun i (hi : i < 6) (h : d i ≠ 0) => sgW_neg hd i hi h)
  have HP := Lib.hid (fun i (hi : i < 6) (h : d i ≠ 0) => sgW_pos hd i hi h)
  have HZ := Lib.hid (@sgW_zero neg d)
  clear hd
  unfold WideV
  have ix : ∀ k : Nat, k < 6 → ∀ w, (Instr.index 33 (.agg #[.int .i64 (d 0), .int .i64 (d 1), .int .i64 (d 2), .int .i64 (d 3), .int .i64 (d 4), .int .i64 (d 5)]) (.int .i64 (k : Int))).run Try.prog w = .ok (.int .i64 (d k)) w := by
    intro k hk
    rcases lt6 hk with rfl | rfl | rfl | rfl | rfl | rfl
    · exact i0
    · exact i1
    · exact i2
    · exact i3
    · exact i4
    · exact i5
  have IX := Lib.hid ix
  clear ix i0 i1 i2 i3 i4 i5
  have hgen := sgen; have hgen2 := sgen2; have hgen3 := sgen3; go_enter Try.func40, Try.ntmps40
  go_wp2
  go_loopg [7] 6 (fun gk i wr => ∃ k : Nat, gk + k = 6 ∧ i = .int .i64 k ∧ wr = w.alloc (.cells #[.bool neg, .int .i64 (d 0), .int .i64 (d 1), .int .i64 (d 2), .int .i64 (d 3), .int .i64 (d 4), .int .i64 (d 5)] 35 (0, 0)) ∧ ∀ j, j < k → d j = 0)
  case atStart => exact ⟨0, rfl, rfl, rfl, fun j hj => by omega⟩
  case round =>
    obtain ⟨k, hk, rfl, rfl, hz⟩ := hrel
    have HH := Lib.hid hz
    clear hz
    by_cases hlt : k < 6
    · have hkz : (k : Int) < 6 := by omega
      have ixk := IX.out k hlt
      by_cases h0 : d k = 0
      · have t0 : (d k != 0) = false := by simp [h0]
        have H0 := Lib.hid h0
        clear h0
        go_wp2
        go_roundg (5 - k)
        case measure => omega
        case rel =>
          refine ⟨k + 1, by omega, by go_num, rfl, fun j hj => ?_⟩
          by_cases e : j = k
          · subst e; exact H0.out
          · exact HH.out j (by omega)
      · have t0 : (d k != 0) = true := by simp [h0]
        have H0 := Lib.hid h0
        clear h0
        cases neg
        · have HE := Lib.hid (HP.out k hlt H0.out)
          go_wp2
          go_ret
          refine ⟨ret_int HE.out.symm, ?_⟩
          (repeat' (first | (with_reducible exact Below.refl _ _) | (with_reducible assumption) | (with_reducible refine Below.call ?_ ?_ (by with_reducible assumption)) | (with_reducible refine Below.alloc ?_ ?_ _) | (with_reducible refine Below.drew ?_) | (with_reducible refine below_drewN ?_ _) | (with_reducible refine Below.setCell ?_ ?_ _) | (with_reducible exact Nat.le_refl _) | omega | (simp only [World.size_alloc, World.size_setCell, World.size_drew, World.heap_drewN] at *; omega)))
        · have HE := Lib.hid (HN.out k hlt H0.out)
          go_wp2
          go_ret
          refine ⟨ret_int HE.out.symm, ?_⟩
          (repeat' (first | (with_reducible exact Below.refl _ _) | (with_reducible assumption) | (with_reducible refine Below.call ?_ ?_ (by with_reducible assumption)) | (with_reducible refine Below.alloc ?_ ?_ _) | (with_reducible refine Below.drew ?_) | (with_reducible refine below_drewN ?_ _) | (with_reducible refine Below.setCell ?_ ?_ _) | (with_reducible exact Nat.le_refl _) | omega | (simp only [World.size_alloc, World.size_setCell, World.size_drew, World.heap_drewN] at *; omega)))
    · have HE := Lib.hid (HZ.out (fun j hj => HH.out j (by omega)))
      have hkz : ¬ (k : Int) < 6 := by omega
      go_wp2
      go_ret
      refine ⟨ret_int HE.out.symm, ?_⟩
      (repeat' (first | (with_reducible exact Below.refl _ _) | (with_reducible assumption) | (with_reducible refine Below.call ?_ ?_ (by with_reducible assumption)) | (with_reducible refine Below.alloc ?_ ?_ _) | (with_reducible refine Below.drew ?_) | (with_reducible refine below_drewN ?_ _) | (with_reducible refine Below.setCell ?_ ?_ _) | (with_reducible exact Nat.le_refl _) | omega | (simp only [World.size_alloc, World.size_setCell, World.size_drew, World.heap_drewN] at *; omega)))
def sg01 (x : Int) : Prop := x = 0 ∨ x = -1 ∨ x = 1
set_option maxRecDepth 100000 in
set_option maxHeartbeats 4000000 in
theorem c_compare (na nb : Bool) (d d' : Nat → Int) (w : World) (hd : Dig d) (hd' : Dig d') : Calls Try.prog 19 #[WideV na d, WideV nb d'] w fun e w' => e = .returned (.int .i64 (cmpW na d nb d')) ∧ Below w.heap.size w w' := by
  have hA := fun w1 => c_signOf na d w1 hd
  have hB := fun w1 => c_signOf nb d' w1 hd'
  unfold WideV at hA hB ⊢
  have HA := Lib.hid hA
  have HB := Lib.hid hB
  clear hA hB
  have hgen := sgen; have hgen2 := sgen2; have hgen3 := sgen3; go_enter Try.func19, Try.ntmps19
  go_upto_region 1 with fail
  have WA : WideAt ((w.alloc (.cells #[.bool na, .int .i64 (d 0), .int .i64 (d 1), .int .i64 (d 2), .int .i64 (d 3), .int .i64 (d 4), .int .i64 (d 5)] 35 (0, 0))).alloc (.cells #[.bool nb, .int .i64 (d' 0), .int .i64 (d' 1), .int .i64 (d' 2), .int .i64 (d' 3), .int .i64 (d' 4), .int .i64 (d' 5)] 35 (0, 0))) w.heap.size na d := by constructor <;> (try intro o) <;> go_simp
  have WB : WideAt ((w.alloc (.cells #[.bool na, .int .i64 (d 0), .int .i64 (d 1), .int .i64 (d 2), .int .i64 (d 3), .int .i64 (d 4), .int .i64 (d 5)] 35 (0, 0))).alloc (.cells #[.bool nb, .int .i64 (d' 0), .int .i64 (d' 1), .int .i64 (d' 2), .int .i64 (d' 3), .int .i64 (d' 4), .int .i64 (d' 5)] 35 (0, 0))) (w.heap.size + 1) nb d' := by constructor <;> (try intro o) <;> go_simp
  have HWA := Lib.hid WA
  have HWB := Lib.hid WB
  clear WA WB
  go_cut [5, 6] (fun x5 x6 wc => x5 = .int .i64 (sgW na d) ∧ x6 = .int .i64 (sgW nb d') ∧ WideAt wc w.heap.size na d ∧ WideAt wc (w.heap.size + 1) nb d' ∧ Below w.heap.size w wc)
  case first =>
    go_wp2_with fail
    go_region_held3 (fun w' => w'.cell? ⟨w.heap.size, 0, none⟩ = some (.bool na) ∧ w'.cell? ⟨w.heap.size, 1, none⟩ = some (.int .i64 (d 0)) ∧ w'.cell? ⟨w.heap.size, 2, none⟩ = some (.int .i64 (d 1)) ∧ w'.cell? ⟨w.heap.size, 3, none⟩ = some (.int .i64 (d 2)) ∧ w'.cell? ⟨w.heap.size, 4, none⟩ = some (.int .i64 (d 3)) ∧ w'.cell? ⟨w.heap.size, 5, none⟩ = some (.int .i64 (d 4)) ∧ w'.cell? ⟨w.heap.size, 6, none⟩ = some (.int .i64 (d 5)) ∧ w'.cell? ⟨w.heap.size + 1, 0, none⟩ = some (.bool nb) ∧ w'.cell? ⟨w.heap.size + 1, 1, none⟩ = some (.int .i64 (d' 0)) ∧ w'.cell? ⟨w.heap.size + 1, 2, none⟩ = some (.int .i64 (d' 1)) ∧ w'.cell? ⟨w.heap.size + 1, 3, none⟩ = some (.int .i64 (d' 2)) ∧ w'.cell? ⟨w.heap.size + 1, 4, none⟩ = some (.int .i64 (d' 3)) ∧ w'.cell? ⟨w.heap.size + 1, 5, none⟩ = some (.int .i64 (d' 4)) ∧ w'.cell? ⟨w.heap.size + 1, 6, none⟩ = some (.int .i64 (d' 5))) (refine ⟨?_, ?_, ?_, ?_, ?_, ?_, ?_, ?_, ?_, ?_, ?_, ?_, ?_, ?_⟩ <;> (first | (go_simp; done) | go_keep)) (first | (go_at_call 40; (with_reducible refine (HA.out _).mono ?_); rintro e w1 ⟨rfl, hb⟩; have hz := hb.size; (try simp only [World.size_alloc, World.size_setCell, World.size_drew, World.heap_drewN] at hz); (try have h_w_0 : w.heap.size < w1.heap.size := by omega); (try have e_w_0 : ¬ w.heap.size = w1.heap.size := by omega); (try have d_w_0 : ¬ w1.heap.size = w.heap.size := by omega); (try (refine bcUse (n := w.heap.size) hb ?_ ?_; (focus ((try simp only [World.size_alloc, World.size_setCell, World.size_drew, World.heap_drewN]); omega)); intro _ _)); (try have h_w_1 : w.heap.size + 1 < w1.heap.size := by omega); (try have e_w_1 : ¬ w.heap.size + 1 = w1.heap.size := by omega); (try have d_w_1 : ¬ w1.heap.size = w.heap.size + 1 := by omega); (try (refine bcUse (n := w.heap.size + 1) hb ?_ ?_; (focus ((try simp only [World.size_alloc, World.size_setCell, World.size_drew, World.heap_drewN]); omega)); intro _ _))) | (go_at_call 40; (with_reducible refine (HB.out _).mono ?_); rintro e w2 ⟨rfl, hb⟩; have hz := hb.size; (try simp only [World.size_alloc, World.size_setCell, World.size_drew, World.heap_drewN] at hz); (try have h_w_0 : w.heap.size < w2.heap.size := by omega); (try have e_w_0 : ¬ w.heap.size = w2.heap.size := by omega); (try have d_w_0 : ¬ w2.heap.size = w.heap.size := by omega); (try (refine bcUse (n := w.heap.size) hb ?_ ?_; (focus ((try simp only [World.size_alloc, World.size_setCell, World.size_drew, World.heap_drewN]); omega)); intro _ _)); (try have h_w_1 : w.heap.size + 1 < w2.heap.size := by omega); (try have e_w_1 : ¬ w.heap.size + 1 = w2.heap.size := by omega); (try have d_w_1 : ¬ w2.heap.size = w.heap.size + 1 := by omega); (try (refine bcUse (n := w.heap.size + 1) hb ?_ ?_; (focus ((try simp only [World.size_alloc, World.size_setCell, World.size_drew, World.heap_drewN]); omega)); intro _ _)); (try have h_w1_0 : w1.heap.size < w2.heap.size := by omega); (try have e_w1_0 : ¬ w1.heap.size = w2.heap.size := by omega); (try have d_w1_0 : ¬ w2.heap.size = w1.heap.size := by omega); (try (refine bcUse (n := w1.heap.size) hb ?_ ?_; (focus ((try simp only [World.size_alloc, World.size_setCell, World.size_drew, World.heap_drewN]); omega)); intro _ _))))
    all_goals go_wp2_with fail
    all_goals go_meet
    all_goals refine ⟨rfl, rfl, HWA.out.below (by (repeat' (first | (with_reducible exact Below.refl _ _) | (with_reducible assumption) | (with_reducible refine Below.call ?_ ?_ (by with_reducible assumption)) | (with_reducible refine Below.alloc ?_ ?_ _) | (with_reducible refine Below.drew ?_) | (with_reducible refine below_drewN ?_ _) | (with_reducible refine Below.setCell ?_ ?_ _) | (with_reducible exact Nat.le_refl _) | omega | (simp only [World.size_alloc, World.size_setCell, World.size_drew, World.heap_drewN] at *; omega)))), HWB.out.below (by (repeat' (first | (with_reducible exact Below.refl _ _) | (with_reducible assumption) | (with_reducible refine Below.call ?_ ?_ (by with_reducible assumption)) | (with_reducible refine Below.alloc ?_ ?_ _) | (with_reducible refine Below.drew ?_) | (with_reducible refine below_drewN ?_ _) | (with_reducible refine Below.setCell ?_ ?_ _) | (with_reducible exact Nat.le_refl _) | omega | (simp only [World.size_alloc, World.size_setCell, World.size_drew, World.heap_drewN] at *; omega)))), by (repeat' (first | (with_reducible exact Below.refl _ _) | (with_reducible assumption) | (with_reducible refine Below.call ?_ ?_ (by with_reducible assumption)) | (with_reducible refine Below.alloc ?_ ?_ _) | (with_reducible refine Below.drew ?_) | (with_reducible refine below_drewN ?_ _) | (with_reducible refine Below.setCell ?_ ?_ _) | (with_reducible exact Nat.le_refl _) | omega | (simp only [World.size_alloc, World.size_setCell, World.size_drew, World.heap_drewN] at *; omega)))⟩
  case rest =>
    clear HWA HWB
    obtain ⟨rfl, rfl, WA, WB, hbel⟩ := hcut
    have HL := Lib.hid (@cmpW_lt na nb d d' hd hd')
    have HG := Lib.hid (@cmpW_gt na nb d d' hd hd')
    have HDG := Lib.hid (@cmpW_dig na nb d d' hd hd')
    have HSM := Lib.hid (@cmpW_same na nb d d' hd hd')
    generalize sgW na d = sa at *
    generalize sgW nb d' = sb at *
    by_cases hs : sa = sb
    · subst hs
      have t0 : (sa != sa) = false := by simp
      go_wp2_with fail
      go_loopg [7] 6 (fun gk i wr => ∃ k : Nat, gk = k ∧ k ≤ 6 ∧ i = .int .i64 ((k : Int) - 1) ∧ (∀ j, k ≤ j → j < 6 → d j = d' j) ∧ WideAt wr w.heap.size na d ∧ WideAt wr (w.heap.size + 1) nb d' ∧ Below w.heap.size w wr)
      case atStart => exact ⟨6, rfl, by omega, rfl, fun j h1 h2 => by omega, WA, WB, hbel⟩
      case round =>
        clear WA WB hbel
        obtain ⟨k, rfl, hk, rfl, he, WA, WB, hbel⟩ := hrel
        have HEQ := Lib.hid he
        clear he
        cases gk with
        | zero =>
          have HE := Lib.hid (HSM.out (by first | trivial | rfl) (fun j hj => HEQ.out j (by omega) hj))
          clear WA WB
          go_wp2_with fail
          go_ret
          exact ⟨ret_int HE.out.symm, hbel⟩
        | succ q =>
          have r1 : ((q + 1 : Nat) : Int) - 1 = (q : Int) := by omega
          have r2 : 0 ≤ (q : Int) := by omega
          have r3 : (q : Int) < 6 := by omega
          have r4 : IntKind.i64.wrap ((q : Int) - 1) = (q : Int) - 1 := IntWalk.i64_in _ (by omega)
          have e1 := WA.cell (show q < 6 by omega)
          have e2 := WB.cell (show q < 6 by omega)
          have HWA := Lib.hid WA
          have HWB := Lib.hid WB
          clear WA WB
          rw [r1]
          clear r1
          by_cases hq : d q = d' q
          · have t1 : (d q != d' q) = false := by simp [hq]
            have HQ := Lib.hid hq
            clear hq
            go_wp2_with fail
            go_quiet (fail)
            go_wp2_with fail
            go_roundg q
            case measure => omega
            case rel =>
              refine ⟨q, rfl, by omega, rfl, fun j h1 h2 => ?_, HWA.out.below (by (repeat' (first | (with_reducible exact Below.refl _ _) | (with_reducible assumption) | (with_reducible refine Below.call ?_ ?_ (by with_reducible assumption)) | (with_reducible refine Below.alloc ?_ ?_ _) | (with_reducible refine Below.drew ?_) | (with_reducible refine below_drewN ?_ _) | (with_reducible refine Below.setCell ?_ ?_ _) | (with_reducible exact Nat.le_refl _) | omega | (simp only [World.size_alloc, World.size_setCell, World.size_drew, World.heap_drewN] at *; omega)))), HWB.out.below (by (repeat' (first | (with_reducible exact Below.refl _ _) | (with_reducible assumption) | (with_reducible refine Below.call ?_ ?_ (by with_reducible assumption)) | (with_reducible refine Below.alloc ?_ ?_ _) | (with_reducible refine Below.drew ?_) | (with_reducible refine below_drewN ?_ _) | (with_reducible refine Below.setCell ?_ ?_ _) | (with_reducible exact Nat.le_refl _) | omega | (simp only [World.size_alloc, World.size_setCell, World.size_drew, World.heap_drewN] at *; omega)))), by (repeat' (first | (with_reducible exact Below.refl _ _) | (with_reducible assumption) | (with_reducible refine Below.call ?_ ?_ (by with_reducible assumption)) | (with_reducible refine Below.alloc ?_ ?_ _) | (with_reducible refine Below.drew ?_) | (with_reducible refine below_drewN ?_ _) | (with_reducible refine Below.setCell ?_ ?_ _) | (with_reducible exact Nat.le_refl _) | omega | (simp only [World.size_alloc, World.size_setCell, World.size_drew, World.heap_drewN] at *; omega)))⟩
              by_cases e : j = q
              · subst e; exact HQ.out
              · exact HEQ.out j (by omega) h2
          · have t1 : (d q != d' q) = true := by simp [hq]
            have hE := HDG.out (by first | trivial | rfl) q (by omega) (fun j h1 h2 => HEQ.out j (by omega) h2) hq
            by_cases hl : d q < d' q <;> by_cases hp : 0 < sa
            all_goals
              first | have t2 : decide (d q < d' q) = true := decide_eq_true hl | have t2 : decide (d q < d' q) = false := decide_eq_false hl
              first | have t3 : decide (0 < sa) = true := decide_eq_true hp | have t3 : decide (0 < sa) = false := decide_eq_false hp
              rw [t2, t3] at hE
              have HE := Lib.hid hE
              clear hE hq
              go_wp2_with fail
              go_quiet (fail)
              go_wp2_with fail
              go_quiet (fail)
              go_wp2_with fail
              go_ret
              exact ⟨ret_int HE.out.symm, by (repeat' (first | (with_reducible exact Below.refl _ _) | (with_reducible assumption) | (with_reducible refine Below.call ?_ ?_ (by with_reducible assumption)) | (with_reducible refine Below.alloc ?_ ?_ _) | (with_reducible refine Below.drew ?_) | (with_reducible refine below_drewN ?_ _) | (with_reducible refine Below.setCell ?_ ?_ _) | (with_reducible exact Nat.le_refl _) | omega | (simp only [World.size_alloc, World.size_setCell, World.size_drew, World.heap_drewN] at *; omega)))⟩
    · have t0 : (sa != sb) = true := by simp [hs]
      by_cases hl : sa < sb
      · have HE := Lib.hid (HL.out hl)
        go_wp2_with fail
        go_ret
        exact ⟨ret_int HE.out.symm, hbel⟩
      · have HE := Lib.hid (HG.out (by omega))
        go_wp2_with fail
        go_ret
        exact ⟨ret_int HE.out.symm, hbel⟩
def dP : Nat → Int := fun i => if i = 2 then 1 else 0
theorem dig_dP : Dig dP := ⟨fun i _ => by unfold dP; split <;> omega, fun i _ => by unfold dP; split <;> omega⟩
theorem val_dP : val6 dP = 1000000000000000000 := by simp [val6, dP]
theorem c_cmpP (neg : Bool) (d : Nat → Int) (w : World) (hd : Dig d) (x : Int) (hx : wsgn neg (val6 d) = x) : Calls Try.prog 19 #[.agg #[.bool neg, .int .i64 (d 0), .int .i64 (d 1), .int .i64 (d 2), .int .i64 (d 3), .int .i64 (d 4), .int .i64 (d 5)], .agg #[.bool false, .int .i64 0, .int .i64 0, .int .i64 1, .int .i64 0, .int .i64 0, .int .i64 0]] w fun e w' => e = .returned (.int .i64 (cmpI x 1000000000000000000)) ∧ Below w.heap.size w w' := by
  have h := c_compare neg false d dP w hd dig_dP
  unfold cmpW at h
  rw [hx, val_dP] at h
  exact h
theorem c_cmpM (neg : Bool) (d : Nat → Int) (w : World) (hd : Dig d) (x : Int) (hx : wsgn neg (val6 d) = x) : Calls Try.prog 19 #[.agg #[.bool neg, .int .i64 (d 0), .int .i64 (d 1), .int .i64 (d 2), .int .i64 (d 3), .int .i64 (d 4), .int .i64 (d 5)], .agg #[.bool true, .int .i64 0, .int .i64 0, .int .i64 1, .int .i64 0, .int .i64 0, .int .i64 0]] w fun e w' => e = .returned (.int .i64 (cmpI x (-1000000000000000000))) ∧ Below w.heap.size w w' := by
  have h := c_compare neg true d dP w hd dig_dP
  unfold cmpW at h
  rw [hx, val_dP] at h
  exact h
set_option maxRecDepth 100000 in
set_option maxHeartbeats 1000000 in
theorem c_fine_in (neg : Bool) (d : Nat → Int) (w : World) (x c1 c2 : Int) (r : Bool) (hc : (c1 ≤ 0 ∧ 0 ≤ c2 ∧ r = true) ∨ (0 < c1 ∧ r = false) ∨ (c1 ≤ 0 ∧ c2 < 0 ∧ r = false))
    (H1 : Hid (∀ w, Calls Try.prog 19 #[.agg #[.bool neg, .int .i64 (d 0), .int .i64 (d 1), .int .i64 (d 2), .int .i64 (d 3), .int .i64 (d 4), .int .i64 (d 5)], .agg #[.bool false, .int .i64 0, .int .i64 0, .int .i64 1, .int .i64 0, .int .i64 0, .int .i64 0]] w fun e w' => e = .returned (.int .i64 c1) ∧ Below w.heap.size w w'))
    (H2 : Hid (∀ w, Calls Try.prog 19 #[.agg #[.bool neg, .int .i64 (d 0), .int .i64 (d 1), .int .i64 (d 2), .int .i64 (d 3), .int .i64 (d 4), .int .i64 (d 5)], .agg #[.bool true, .int .i64 0, .int .i64 0, .int .i64 1, .int .i64 0, .int .i64 0, .int .i64 0]] w fun e w' => e = .returned (.int .i64 c2) ∧ Below w.heap.size w w')) :
    Calls Try.prog 18 #[.agg #[.bool neg, .int .i64 (d 0), .int .i64 (d 1), .int .i64 (d 2), .int .i64 (d 3), .int .i64 (d 4), .int .i64 (d 5)]] w fun e w' => e = .returned (.bool r) ∧ Below w.heap.size w w' := by
  rcases hc with ⟨hc1, hc2, rfl⟩ | ⟨hc1, rfl⟩ | ⟨hc1, hc2, rfl⟩
  · have t0 : decide (c1 ≤ 0) = true := decide_eq_true hc1
    have t1 : decide (0 ≤ c2) = true := decide_eq_true hc2
    have hgen := sgen; have hgen2 := sgen2; have hgen3 := sgen3; go_enter Try.func18, Try.ntmps18
    go_wp2_with (first | (go_at_call 19; (with_reducible refine (H1.out _).mono ?_); rintro e w1 ⟨rfl, hb⟩; have hz := hb.size; (try simp only [World.size_alloc, World.size_setCell, World.size_drew, World.heap_drewN] at hz); (try have h_w_0 : w.heap.size < w1.heap.size := by omega); (try have e_w_0 : ¬ w.heap.size = w1.heap.size := by omega); (try have d_w_0 : ¬ w1.heap.size = w.heap.size := by omega); (try (refine bcUse (n := w.heap.size) hb ?_ ?_; (focus ((try simp only [World.size_alloc, World.size_setCell, World.size_drew, World.heap_drewN]); omega)); intro _ _)); (try have h_w_1 : w.heap.size + 1 < w1.heap.size := by omega); (try have e_w_1 : ¬ w.heap.size + 1 = w1.heap.size := by omega); (try have d_w_1 : ¬ w1.heap.size = w.heap.size + 1 := by omega); (try (refine bcUse (n := w.heap.size + 1) hb ?_ ?_; (focus ((try simp only [World.size_alloc, World.size_setCell, World.size_drew, World.heap_drewN]); omega)); intro _ _)); (try have h_w_2 : w.heap.size + 1 + 1 < w1.heap.size := by omega); (try have e_w_2 : ¬ w.heap.size + 1 + 1 = w1.heap.size := by omega); (try have d_w_2 : ¬ w1.heap.size = w.heap.size + 1 + 1 := by omega); (try (refine bcUse (n := w.heap.size + 1 + 1) hb ?_ ?_; (focus ((try simp only [World.size_alloc, World.size_setCell, World.size_drew, World.heap_drewN]); omega)); intro _ _))) | (go_at_call 19; (with_reducible refine (H2.out _).mono ?_); rintro e w2 ⟨rfl, hb⟩; have hz := hb.size; (try simp only [World.size_alloc, World.size_setCell, World.size_drew, World.heap_drewN] at hz); (try have h_w_0 : w.heap.size < w2.heap.size := by omega); (try have e_w_0 : ¬ w.heap.size = w2.heap.size := by omega); (try have d_w_0 : ¬ w2.heap.size = w.heap.size := by omega); (try (refine bcUse (n := w.heap.size) hb ?_ ?_; (focus ((try simp only [World.size_alloc, World.size_setCell, World.size_drew, World.heap_drewN]); omega)); intro _ _)); (try have h_w_1 : w.heap.size + 1 < w2.heap.size := by omega); (try have e_w_1 : ¬ w.heap.size + 1 = w2.heap.size := by omega); (try have d_w_1 : ¬ w2.heap.size = w.heap.size + 1 := by omega); (try (refine bcUse (n := w.heap.size + 1) hb ?_ ?_; (focus ((try simp only [World.size_alloc, World.size_setCell, World.size_drew, World.heap_drewN]); omega)); intro _ _)); (try have h_w_2 : w.heap.size + 1 + 1 < w2.heap.size := by omega); (try have e_w_2 : ¬ w.heap.size + 1 + 1 = w2.heap.size := by omega); (try have d_w_2 : ¬ w2.heap.size = w.heap.size + 1 + 1 := by omega); (try (refine bcUse (n := w.heap.size + 1 + 1) hb ?_ ?_; (focus ((try simp only [World.size_alloc, World.size_setCell, World.size_drew, World.heap_drewN]); omega)); intro _ _)); (try have h_w1_0 : w1.heap.size < w2.heap.size := by omega); (try have e_w1_0 : ¬ w1.heap.size = w2.heap.size := by omega); (try have d_w1_0 : ¬ w2.heap.size = w1.heap.size := by omega); (try (refine bcUse (n := w1.heap.size) hb ?_ ?_; (focus ((try simp only [World.size_alloc, World.size_setCell, World.size_drew, World.heap_drewN]); omega)); intro _ _))))
    go_ret
    refine ⟨rfl, ?_⟩
    (repeat' (first | (with_reducible exact Below.refl _ _) | (with_reducible assumption) | (with_reducible refine Below.call ?_ ?_ (by with_reducible assumption)) | (with_reducible refine Below.alloc ?_ ?_ _) | (with_reducible refine Below.drew ?_) | (with_reducible refine below_drewN ?_ _) | (with_reducible refine Below.setCell ?_ ?_ _) | (with_reducible exact Nat.le_refl _) | omega | (simp only [World.size_alloc, World.size_setCell, World.size_drew, World.heap_drewN] at *; omega)))
  · have t1 : decide (c1 ≤ 0) = false := decide_eq_false (by omega)
    have hgen := sgen; have hgen2 := sgen2; have hgen3 := sgen3; go_enter Try.func18, Try.ntmps18
    go_wp2_with (first | (go_at_call 19; (with_reducible refine (H1.out _).mono ?_); rintro e w1 ⟨rfl, hb⟩; have hz := hb.size; (try simp only [World.size_alloc, World.size_setCell, World.size_drew, World.heap_drewN] at hz); (try have h_w_0 : w.heap.size < w1.heap.size := by omega); (try have e_w_0 : ¬ w.heap.size = w1.heap.size := by omega); (try have d_w_0 : ¬ w1.heap.size = w.heap.size := by omega); (try (refine bcUse (n := w.heap.size) hb ?_ ?_; (focus ((try simp only [World.size_alloc, World.size_setCell, World.size_drew, World.heap_drewN]); omega)); intro _ _)); (try have h_w_1 : w.heap.size + 1 < w1.heap.size := by omega); (try have e_w_1 : ¬ w.heap.size + 1 = w1.heap.size := by omega); (try have d_w_1 : ¬ w1.heap.size = w.heap.size + 1 := by omega); (try (refine bcUse (n := w.heap.size + 1) hb ?_ ?_; (focus ((try simp only [World.size_alloc, World.size_setCell, World.size_drew, World.heap_drewN]); omega)); intro _ _)); (try have h_w_2 : w.heap.size + 1 + 1 < w1.heap.size := by omega); (try have e_w_2 : ¬ w.heap.size + 1 + 1 = w1.heap.size := by omega); (try have d_w_2 : ¬ w1.heap.size = w.heap.size + 1 + 1 := by omega); (try (refine bcUse (n := w.heap.size + 1 + 1) hb ?_ ?_; (focus ((try simp only [World.size_alloc, World.size_setCell, World.size_drew, World.heap_drewN]); omega)); intro _ _))) | (go_at_call 19; (with_reducible refine (H2.out _).mono ?_); rintro e w2 ⟨rfl, hb⟩; have hz := hb.size; (try simp only [World.size_alloc, World.size_setCell, World.size_drew, World.heap_drewN] at hz); (try have h_w_0 : w.heap.size < w2.heap.size := by omega); (try have e_w_0 : ¬ w.heap.size = w2.heap.size := by omega); (try have d_w_0 : ¬ w2.heap.size = w.heap.size := by omega); (try (refine bcUse (n := w.heap.size) hb ?_ ?_; (focus ((try simp only [World.size_alloc, World.size_setCell, World.size_drew, World.heap_drewN]); omega)); intro _ _)); (try have h_w_1 : w.heap.size + 1 < w2.heap.size := by omega); (try have e_w_1 : ¬ w.heap.size + 1 = w2.heap.size := by omega); (try have d_w_1 : ¬ w2.heap.size = w.heap.size + 1 := by omega); (try (refine bcUse (n := w.heap.size + 1) hb ?_ ?_; (focus ((try simp only [World.size_alloc, World.size_setCell, World.size_drew, World.heap_drewN]); omega)); intro _ _)); (try have h_w_2 : w.heap.size + 1 + 1 < w2.heap.size := by omega); (try have e_w_2 : ¬ w.heap.size + 1 + 1 = w2.heap.size := by omega); (try have d_w_2 : ¬ w2.heap.size = w.heap.size + 1 + 1 := by omega); (try (refine bcUse (n := w.heap.size + 1 + 1) hb ?_ ?_; (focus ((try simp only [World.size_alloc, World.size_setCell, World.size_drew, World.heap_drewN]); omega)); intro _ _)); (try have h_w1_0 : w1.heap.size < w2.heap.size := by omega); (try have e_w1_0 : ¬ w1.heap.size = w2.heap.size := by omega); (try have d_w1_0 : ¬ w2.heap.size = w1.heap.size := by omega); (try (refine bcUse (n := w1.heap.size) hb ?_ ?_; (focus ((try simp only [World.size_alloc, World.size_setCell, World.size_drew, World.heap_drewN]); omega)); intro _ _))))
    go_ret
    refine ⟨rfl, ?_⟩
    (repeat' (first | (with_reducible exact Below.refl _ _) | (with_reducible assumption) | (with_reducible refine Below.call ?_ ?_ (by with_reducible assumption)) | (with_reducible refine Below.alloc ?_ ?_ _) | (with_reducible refine Below.drew ?_) | (with_reducible refine below_drewN ?_ _) | (with_reducible refine Below.setCell ?_ ?_ _) | (with_reducible exact Nat.le_refl _) | omega | (simp only [World.size_alloc, World.size_setCell, World.size_drew, World.heap_drewN] at *; omega)))
  · have t0 : decide (c1 ≤ 0) = true := decide_eq_true hc1
    have t1 : decide (0 ≤ c2) = false := decide_eq_false (by omega)
    have hgen := sgen; have hgen2 := sgen2; have hgen3 := sgen3; go_enter Try.func18, Try.ntmps18
    go_wp2_with (first | (go_at_call 19; (with_reducible refine (H1.out _).mono ?_); rintro e w1 ⟨rfl, hb⟩; have hz := hb.size; (try simp only [World.size_alloc, World.size_setCell, World.size_drew, World.heap_drewN] at hz); (try have h_w_0 : w.heap.size < w1.heap.size := by omega); (try have e_w_0 : ¬ w.heap.size = w1.heap.size := by omega); (try have d_w_0 : ¬ w1.heap.size = w.heap.size := by omega); (try (refine bcUse (n := w.heap.size) hb ?_ ?_; (focus ((try simp only [World.size_alloc, World.size_setCell, World.size_drew, World.heap_drewN]); omega)); intro _ _)); (try have h_w_1 : w.heap.size + 1 < w1.heap.size := by omega); (try have e_w_1 : ¬ w.heap.size + 1 = w1.heap.size := by omega); (try have d_w_1 : ¬ w1.heap.size = w.heap.size + 1 := by omega); (try (refine bcUse (n := w.heap.size + 1) hb ?_ ?_; (focus ((try simp only [World.size_alloc, World.size_setCell, World.size_drew, World.heap_drewN]); omega)); intro _ _)); (try have h_w_2 : w.heap.size + 1 + 1 < w1.heap.size := by omega); (try have e_w_2 : ¬ w.heap.size + 1 + 1 = w1.heap.size := by omega); (try have d_w_2 : ¬ w1.heap.size = w.heap.size + 1 + 1 := by omega); (try (refine bcUse (n := w.heap.size + 1 + 1) hb ?_ ?_; (focus ((try simp only [World.size_alloc, World.size_setCell, World.size_drew, World.heap_drewN]); omega)); intro _ _))) | (go_at_call 19; (with_reducible refine (H2.out _).mono ?_); rintro e w2 ⟨rfl, hb⟩; have hz := hb.size; (try simp only [World.size_alloc, World.size_setCell, World.size_drew, World.heap_drewN] at hz); (try have h_w_0 : w.heap.size < w2.heap.size := by omega); (try have e_w_0 : ¬ w.heap.size = w2.heap.size := by omega); (try have d_w_0 : ¬ w2.heap.size = w.heap.size := by omega); (try (refine bcUse (n := w.heap.size) hb ?_ ?_; (focus ((try simp only [World.size_alloc, World.size_setCell, World.size_drew, World.heap_drewN]); omega)); intro _ _)); (try have h_w_1 : w.heap.size + 1 < w2.heap.size := by omega); (try have e_w_1 : ¬ w.heap.size + 1 = w2.heap.size := by omega); (try have d_w_1 : ¬ w2.heap.size = w.heap.size + 1 := by omega); (try (refine bcUse (n := w.heap.size + 1) hb ?_ ?_; (focus ((try simp only [World.size_alloc, World.size_setCell, World.size_drew, World.heap_drewN]); omega)); intro _ _)); (try have h_w_2 : w.heap.size + 1 + 1 < w2.heap.size := by omega); (try have e_w_2 : ¬ w.heap.size + 1 + 1 = w2.heap.size := by omega); (try have d_w_2 : ¬ w2.heap.size = w.heap.size + 1 + 1 := by omega); (try (refine bcUse (n := w.heap.size + 1 + 1) hb ?_ ?_; (focus ((try simp only [World.size_alloc, World.size_setCell, World.size_drew, World.heap_drewN]); omega)); intro _ _)); (try have h_w1_0 : w1.heap.size < w2.heap.size := by omega); (try have e_w1_0 : ¬ w1.heap.size = w2.heap.size := by omega); (try have d_w1_0 : ¬ w2.heap.size = w1.heap.size := by omega); (try (refine bcUse (n := w1.heap.size) hb ?_ ?_; (focus ((try simp only [World.size_alloc, World.size_setCell, World.size_drew, World.heap_drewN]); omega)); intro _ _))))
    go_ret
    refine ⟨rfl, ?_⟩
    (repeat' (first | (with_reducible exact Below.refl _ _) | (with_reducible assumption) | (with_reducible refine Below.call ?_ ?_ (by with_reducible assumption)) | (with_reducible refine Below.alloc ?_ ?_ _) | (with_reducible refine Below.drew ?_) | (with_reducible refine below_drewN ?_ _) | (with_reducible refine Below.setCell ?_ ?_ _) | (with_reducible exact Nat.le_refl _) | omega | (simp only [World.size_alloc, World.size_setCell, World.size_drew, World.heap_drewN] at *; omega)))
theorem c_fine_yes (neg : Bool) (d : Nat → Int) (w : World) (hd : Dig d) (x : Int) (hx : wsgn neg (val6 d) = x) (h1 : -1000000000000000000 ≤ x) (h2 : x ≤ 1000000000000000000) :
    Calls Try.prog 18 #[.agg #[.bool neg, .int .i64 (d 0), .int .i64 (d 1), .int .i64 (d 2), .int .i64 (d 3), .int .i64 (d 4), .int .i64 (d 5)]] w fun e w' => e = .returned (.bool true) ∧ Below w.heap.size w w' :=
  c_fine_in neg d w x (cmpI x 1000000000000000000) (cmpI x (-1000000000000000000)) true (.inl ⟨by unfold cmpI; split <;> (try split) <;> omega, by unfold cmpI; split <;> (try split) <;> omega, rfl⟩) (Lib.hid fun w => c_cmpP neg d w hd x hx) (Lib.hid fun w => c_cmpM neg d w hd x hx)
theorem c_fine_no (neg : Bool) (d : Nat → Int) (w : World) (hd : Dig d) (x : Int) (hx : wsgn neg (val6 d) = x) (h : x < -1000000000000000000 ∨ 1000000000000000000 < x) :
    Calls Try.prog 18 #[.agg #[.bool neg, .int .i64 (d 0), .int .i64 (d 1), .int .i64 (d 2), .int .i64 (d 3), .int .i64 (d 4), .int .i64 (d 5)]] w fun e w' => e = .returned (.bool false) ∧ Below w.heap.size w w' :=
  c_fine_in neg d w x (cmpI x 1000000000000000000) (cmpI x (-1000000000000000000)) false (by
    rcases h with h | h
    · right; right; exact ⟨by rw [cmpI_lt (by omega)]; omega, by rw [cmpI_lt (by omega)]; omega, rfl⟩
    · right; left; exact ⟨by rw [cmpI_gt (by omega)]; omega, rfl⟩) (Lib.hid fun w => c_cmpP neg d w hd x hx) (Lib.hid fun w => c_cmpM neg d w hd x hx)
end Go.Proofs.Ytpgoahbmeedghaa
