/- The contract of agree.Within. -/
import Derived.Test.YtenmiilndiaopaaWalk1
import Derived.Test.YtenmiilndiaopaaPlainAgr
import Derived.Test.YtenmiilndiaopaaIxSpan2
import Derived.Deep.LoopGhost
import Derived.Deep.QuietTactic
import Derived.BigQuiet
import Derived.BigGuard
set_option linter.unusedVariables false
set_option linter.unusedSimpArgs false
namespace Go.Proofs.Ytenmiilndiaopaa
open Go.RowKit
theorem c_spc_large (a : Option Addr) (len cap : Nat) (w : World) (h : 40 < len) : Calls Try.prog 31 #[.slice a len cap] w fun e w' => e = .returned (.int .i64 2) ∧ Below w.heap.size w w' := by
  have hgen := sgen; have hgen2 := sgen2; have hgen3 := sgen3; go_enter Try.func31, Try.ntmps31
  go_wp2
  go_ret
  exact ⟨rfl, Below.refl _ _⟩
theorem c_spc_none (a : Option Addr) (cap : Nat) (w : World) : Calls Try.prog 31 #[.slice a 0 cap] w fun e w' => e = .returned (.int .i64 6) ∧ Below w.heap.size w w' := by
  have hgen := sgen; have hgen2 := sgen2; have hgen3 := sgen3; go_enter Try.func31, Try.ntmps31
  go_wp2
  go_ret
  exact ⟨rfl, Below.refl _ _⟩
theorem c_spc_some (a : Option Addr) (cap : Nat) (l : List Sp) (w : World) (hc : l.length ≤ cap) (h40 : l.length ≤ 40) (h0 : 0 < l.length) (hs : SpSlice w a l) :
    Calls Try.prog 31 #[.slice a l.length cap] w fun e w' => e = .returned (.int .i64 (fe spsOne l)) ∧ Below w.heap.size w w' := by
  have h2 : (l.length : Int) ≤ 40 := by omega
  have h3 : ((l.length : Int) == 0) = false := beq_eq_false_iff_ne.2 (by omega)
  have hgen := sgen; have hgen2 := sgen2; have hgen3 := sgen3; go_enter Try.func31, Try.ntmps31
  go_wp2_with fail
  go_loopg [14] l.length (fun gk i wr => ∃ k : Nat, gk + k = l.length ∧ i = .int .i64 k ∧ Below w.heap.size w wr ∧ fe spsOne (l.take k) = 0)
  case atStart => exact ⟨0, by omega, rfl, Below.refl _ _, rfl⟩
  case round =>
    obtain ⟨k, hk, rfl, hbel, hfe⟩ := hrel
    by_cases hlt : k < l.length
    · obtain ⟨b, off, ha, hb1, c0, c1⟩ := (hs.below (Nat.le_refl _) hbel) k hlt
      have ix1 := @ix_Sp a b off l.length cap k ha hlt
      have hsz := hbel.size
      have hat := fe_at spsOne l k hlt hfe
      have hsn := fe_snoc spsOne l k hlt
      rw [if_pos hfe] at hsn
      clear ha hfe
      generalize l[k] = x at *
      have HS := Lib.hid hsn
      have HA := Lib.hid hat
      clear hsn hat
      by_cases hx : spanErr x.lo x.hi = 0
      · have x1 : (spanErr x.lo x.hi != 0) = false := by simp [hx]
        have HX := Lib.hid hx
        clear hx
        go_wp2_with (go_at_call 39; (refine (c_intervalCheck _ _ _).mono ?_); rintro e w1 ⟨rfl, hb⟩; have hz := hb.size; (try simp only [szA, szS, szD, szN] at hz); (try (refine bcB (n := wr.heap.size) hb ?_; intro h_wr_0 e_wr_0 d_wr_0 _ _)))
        go_roundg (l.length - (k + 1))
        case measure => omega
        case rel =>
          refine ⟨k + 1, by omega, by go_num, ?_, by rw [HS.out]; exact HX.out⟩
          exact belz
      · have x1 : (spanErr x.lo x.hi != 0) = true := by simp [hx]
        have HX := Lib.hid hx
        clear hx
        go_wp2_with (go_at_call 39; (refine (c_intervalCheck _ _ _).mono ?_); rintro e w1 ⟨rfl, hb⟩; have hz := hb.size; (try simp only [szA, szS, szD, szN] at hz); (try (refine bcB (n := wr.heap.size) hb ?_; intro h_wr_0 e_wr_0 d_wr_0 _ _)))
        go_ret
        refine ⟨ret_int (HA.out HX.out).symm, ?_⟩
        exact belz
    · have hkl : k = l.length := by omega
      rw [hkl, List.take_of_length_le (Nat.le_refl _)] at hfe
      have HF := Lib.hid hfe
      clear hfe hkl
      go_wp2
      go_ret
      exact ⟨ret_int HF.out.symm, hbel⟩
theorem c_agCheck (a : Option Addr) (cap : Nat) (l : List Sp) (w : World) (hc : l.length ≤ cap) (hs : SpSlice w a l) :
    Calls Try.prog 31 #[.slice a l.length cap] w fun e w' => e = .returned (.int .i64 (spsErr l)) ∧ Below w.heap.size w w' := by
  unfold spsErr
  by_cases h : 40 < l.length
  · rw [if_pos h]; exact c_spc_large a _ cap w h
  · rw [if_neg h]
    by_cases h0 : l.length = 0
    · rw [if_pos h0, h0]; exact c_spc_none a cap w
    · rw [if_neg h0]; exact c_spc_some a cap l w hc (by omega) (by omega) hs
theorem c_depth (a : Option Addr) (cap : Nat) (l : List Sp) (n : Int) (w : World) (hc : l.length ≤ cap) (h40 : l.length ≤ 40) (hs : SpSlice w a l) :
    Calls Try.prog 32 #[.slice a l.length cap, .int .i64 n] w fun e w' => e = .returned (.int .i64 (cov l n)) ∧ Below w.heap.size w w' := by
  have h2 : (l.length : Int) ≤ 40 := by omega
  have hgen := sgen; have hgen2 := sgen2; have hgen3 := sgen3; go_enter Try.func32, Try.ntmps32
  go_wp2_with fail
  go_loopg [5, 10] l.length (fun gk x4 i wr => ∃ k : Nat, gk + k = l.length ∧ i = .int .i64 k ∧ x4 = .int .i64 (cov (l.take k) n) ∧ Below w.heap.size w wr)
  case atStart => exact ⟨0, by omega, rfl, rfl, Below.refl _ _⟩
  case round =>
    obtain ⟨k, hk, rfl, rfl, hbel⟩ := hrel
    by_cases hlt : k < l.length
    · obtain ⟨b, off, ha, hb1, c0, c1⟩ := (hs.below (Nat.le_refl _) hbel) k hlt
      have ix1 := @ix_Sp a b off l.length cap k ha hlt
      have hsz := hbel.size
      have hsn := cov_snoc l n k hlt
      obtain ⟨b1, b2⟩ := cov_bdk l n k
      clear ha
      generalize l[k] = x at *
      generalize cov (l.take k) n = q at *
      have HS := Lib.hid hsn
      clear hsn
      go_wp2
      all_goals
        go_roundg (l.length - (k + 1))
        case measure => omega
        case rel =>
          refine ⟨k + 1, by omega, by go_num, ?_, ?_⟩
          · rw [HS.out]; first | (rw [if_pos (by omega)]; done) | rw [if_neg (by omega)]
          · exact belz
    · have hkl : k = l.length := by omega
      rw [hkl, List.take_of_length_le (Nat.le_refl _)]
      clear hkl
      go_wp2
      go_ret
      exact ⟨rfl, hbel⟩
structure SpAt (w : World) (b : Nat) (lo hi : Int) : Prop where
  lt : b < w.heap.size
  c0 : w.cell? ⟨b, 0, none⟩ = some (.int .i64 lo)
  c1 : w.cell? ⟨b, 1, none⟩ = some (.int .i64 hi)
  f0 : w.frozen? ⟨b, 0, none⟩ = false
  f1 : w.frozen? ⟨b, 1, none⟩ = false
theorem SpAt.below {w w' : World} {b : Nat} {lo hi : Int} (h : SpAt w b lo hi) (hb : Below w.heap.size w w') : SpAt w' b lo hi := by
  obtain ⟨h0, h1, h2, h3, h4⟩ := h
  exact ⟨Nat.lt_of_lt_of_le h0 hb.size, (hb.cell h0).trans h1, (hb.cell h0).trans h2, (hb.frozen h0).trans h3, (hb.frozen h0).trans h4⟩
theorem SpAt.set {w : World} {b : Nat} {lo hi : Int} (h : SpAt w b lo hi) (lo' hi' : Int) : SpAt ((w.setCell ⟨b, 0, none⟩ (.int .i64 lo')).setCell ⟨b, 1, none⟩ (.int .i64 hi')) b lo' hi' := by
  obtain ⟨h0, h1, h2, h3, h4⟩ := h
  constructor <;> go_simp
theorem SpAt.setOther {w : World} {b c : Nat} {lo hi : Int} (h : SpAt w b lo hi) (hbc : b ≠ c) (u v : Value) : SpAt ((w.setCell ⟨c, 0, none⟩ u).setCell ⟨c, 1, none⟩ v) b lo hi := by
  obtain ⟨h0, h1, h2, h3, h4⟩ := h
  constructor <;> go_simp
theorem SpAt.setOther1 {w : World} {b c : Nat} {lo hi : Int} (h : SpAt w b lo hi) (hbc : b ≠ c) (v : Value) : SpAt (w.setCell ⟨c, 1, none⟩ v) b lo hi := by
  obtain ⟨h0, h1, h2, h3, h4⟩ := h
  constructor <;> go_simp
theorem SpAt.set1 {w : World} {b : Nat} {lo hi : Int} (h : SpAt w b lo hi) (hi' : Int) : SpAt (w.setCell ⟨b, 1, none⟩ (.int .i64 hi')) b lo hi' := by
  obtain ⟨h0, h1, h2, h3, h4⟩ := h
  constructor <;> go_simp
theorem wStep1 {l : List Sp} {need : Int} {lo hi n : Int} {is : Bool} (h : cov l n < need) : wStep l need (lo, hi, is) n = (lo, hi, is) := by unfold wStep; rw [if_pos h]
theorem wStep2 {l : List Sp} {need : Int} {lo hi n : Int} (h : ¬ cov l n < need) : wStep l need (lo, hi, false) n = (n, n, true) := by unfold wStep; rw [if_neg h]; rfl
theorem wStep3 {l : List Sp} {need : Int} {lo hi n : Int} (h : ¬ cov l n < need) : wStep l need (lo, hi, true) n = (min lo n, max hi n, true) := by unfold wStep; rw [if_neg h]; rfl
set_option maxHeartbeats 4000000 in
theorem c_Within_ok (a : Option Addr) (cap : Nat) (l : List Sp) (need : Int) (w : World) (hc : l.length ≤ cap) (hs : SpSlice w a l) (he : spsErr l = 0) (n1 : 1 ≤ need) (n2 : need ≤ (l.length : Int)) (lo hi x : Int)
    (ht : (∃ p q, wst l need l.length = (p, q, false) ∧ lo = 0 ∧ hi = 0 ∧ x = 6) ∨ (wst l need l.length = (lo, hi, true) ∧ x = 0)) :
    Calls Try.prog 17 #[.slice a l.length cap, .int .i64 need] w fun e w' => e = .returned (.tuple #[.agg #[.int .i64 lo, .int .i64 hi], .int .i64 x]) ∧ Below w.heap.size w w' := by
  have h40 := (spsOk_of he).len
  have h2 : (l.length : Int) ≤ 40 := by omega
  have hK := fun w1 hs1 => c_agCheck a cap l w1 hc hs1
  rw [he] at hK
  have HT := Lib.hid ht
  clear ht
  have hgen := sgen; have hgen2 := sgen2; have hgen3 := sgen3; go_enter Try.func17, Try.ntmps17
  go_wp2_with (go_at_call 31; (refine (hK _ (hs.below (Nat.le_refl _) (by exact belz))).mono ?_); rintro e wa ⟨rfl, hb⟩; have hz := hb.size; (try simp only [szA, szS, szD, szN] at hz); (try (refine bcB (n := w.heap.size) hb ?_; intro h_w_0 e_w_0 d_w_0 _ _)))
  have hbwa : Below w.heap.size w wa := by exact belz
  have hza := hbwa.size
  have hza' : w.heap.size < wa.heap.size := by omega
  have HSL := Lib.hid hs
  go_loopg [8, 31] l.length (fun gk x8 i wr => ∃ k : Nat, ∃ p q : Int, ∃ is : Bool, gk + k = l.length ∧ i = .int .i64 k ∧ x8 = .bool is ∧ Below w.heap.size w wr ∧ SpAt wr w.heap.size 0 0 ∧ SpAt wr wa.heap.size p q ∧ wst l need k = (p, q, is))
  case atStart =>
    refine ⟨0, 0, 0, false, by omega, rfl, rfl, ?_, ?_, ?_, rfl⟩
    · exact belz
    · constructor <;> go_simp
    · constructor <;> go_simp
  case round =>
    obtain ⟨k, p, q, is, hk, rfl, rfl, hbel, hR, hB, hst⟩ := hrel
    obtain ⟨wo, rfl⟩ : ∃ wo : World, wo = wr := ⟨_, rfl⟩
    by_cases hlt : k < l.length
    · obtain ⟨b, off, ha, hb1, c0, c1⟩ := (hs.below (Nat.le_refl _) hbel) k hlt
      have ix1 := @ix_Sp a b off l.length cap k ha hlt
      have hsz := hbel.size
      have hsn := wst_snoc l need k hlt
      rw [hst] at hsn
      clear ha hs hst
      generalize l[k] = y at *
      have HN := Lib.hid hsn
      have HR := Lib.hid hR
      have HB := Lib.hid hB
      have hbl := hB.lt
      clear hsn hR hB
      go_wp2_with fail
      have i0 : ∀ w, (Instr.index 61 (.agg #[.int .i64 y.lo, .int .i64 y.hi]) (.int .i64 0)).run Try.prog w = .ok (.int .i64 y.lo) w := fun _ => by kernel_rfl
      have i1 : ∀ w, (Instr.index 61 (.agg #[.int .i64 y.lo, .int .i64 y.hi]) (.int .i64 1)).run Try.prog w = .ok (.int .i64 y.hi) w := fun _ => by kernel_rfl
      have hbel0 := hbel
      clear hbel
      go_loopg [8, 40] 2 (fun gk x8 j wr => ∃ p' q' : Int, ∃ is' : Bool, x8 = .bool is' ∧ Below w.heap.size w wr ∧ SpAt wr w.heap.size 0 0 ∧ SpAt wr wa.heap.size p' q' ∧ ((gk = 2 ∧ j = .int .i64 0 ∧ p' = p ∧ q' = q ∧ is' = is) ∨ (gk = 1 ∧ j = .int .i64 1 ∧ wStep l need (p, q, is) y.lo = (p', q', is')) ∨ (gk = 0 ∧ j = .int .i64 2 ∧ wst l need (k + 1) = (p', q', is'))))
      case atStart =>
        refine ⟨p, q, is, rfl, ?_, ?_, ?_, .inl ⟨rfl, rfl, rfl, rfl, rfl⟩⟩
        · exact belz
        · exact HR.out.below ((Below.refl _ _).alloc (Nat.le_refl _) _)
        · exact HB.out.below ((Below.refl _ _).alloc (Nat.le_refl _) _)
      case round =>
        clear HR HB
        obtain ⟨p', q', is', rfl, hbel, hR, hB, hj⟩ := hrel
        have hsz2 := hbel.size
        have hbl := hB.lt
        have HR := Lib.hid hR
        have HB := Lib.hid hB
        obtain ⟨e0, e1, e2, e3, e4⟩ := hB
        clear hR
        rcases hj with ⟨rfl, rfl, rfl, rfl, rfl⟩ | ⟨rfl, rfl, hw⟩ | ⟨rfl, rfl, hw⟩
        · have H1 : Hid (wStep l need (p', q', is') y.lo = wStep l need (p', q', is') y.lo) := Lib.hid rfl
          by_cases hcv : cov l y.lo < need
          · have hst := H1.out
            rw [wStep1 hcv] at hst
            have HW := Lib.hid hst
            clear hst
            go_wp2_with (go_at_call 32; (refine (c_depth _ _ l _ _ hc h40 (HSL.out.below (Nat.le_refl _) (by exact belz))).mono ?_); rintro e w2 ⟨rfl, hb⟩; have hz := hb.size; (try simp only [szA, szS, szD, szN] at hz); (try (refine bcB (n := wr.heap.size) hb ?_; intro h_wr_0 e_wr_0 d_wr_0 _ _)); (try (refine bcB (n := w.heap.size) hb ?_; intro h_w_0 e_w_0 d_w_0 _ _)); (try (refine bcB (n := wo.heap.size) hb ?_; intro h_wo_0 e_wo_0 d_wo_0 _ _)); (try (refine bcB (n := wa.heap.size) hb ?_; intro h_wa_0 e_wa_0 d_wa_0 _ _)))
            go_roundg 1
            case measure => omega
            case rel =>
              have hbz : Below wr.heap.size wr w2 := by exact belz
              refine ⟨p', q', is', rfl, ?_, HR.out.below hbz, HB.out.below hbz, .inr (.inl ⟨rfl, rfl, by first | exact HW.out | exact wStep1 hcv | exact wStep1 (by assumption)⟩)⟩
              exact belz
          · cases is' with
            | false =>
              have HW := Lib.hid (wStep2 (lo := p') (hi := q') hcv)
              go_wp2_with (go_at_call 32; (refine (c_depth _ _ l _ _ hc h40 (HSL.out.below (Nat.le_refl _) (by exact belz))).mono ?_); rintro e w2 ⟨rfl, hb⟩; have hz := hb.size; (try simp only [szA, szS, szD, szN] at hz); (try (refine bcB (n := wr.heap.size) hb ?_; intro h_wr_0 e_wr_0 d_wr_0 _ _)); (try (refine bcB (n := w.heap.size) hb ?_; intro h_w_0 e_w_0 d_w_0 _ _)); (try (refine bcB (n := wo.heap.size) hb ?_; intro h_wo_0 e_wo_0 d_wo_0 _ _)); (try (refine bcB (n := wa.heap.size) hb ?_; intro h_wa_0 e_wa_0 d_wa_0 _ _)))
              go_roundg 1
              case measure => omega
              case rel =>
                have hbz : Below wr.heap.size wr w2 := by exact belz
                refine ⟨y.lo, y.lo, true, rfl, ?_, ?_, ?_, .inr (.inl ⟨rfl, rfl, HW.out⟩)⟩
                · exact belz
                · first | exact (HR.out.below hbz).setOther (c := wa.heap.size) (by omega) _ _ | exact ((HR.out.below hbz).setOther (c := wa.heap.size) (by omega) _ _).setOther (by omega) _ _
                · first | exact (HB.out.below hbz).set _ _ | exact ((HB.out.below hbz).set _ _).set _ _
            | true =>
              have HW := Lib.hid (wStep3 (lo := p') (hi := q') hcv)
              have d1 : (p' ≤ y.lo ∧ p' ≤ y.lo) ∨ (y.lo < p' ∧ y.lo ≤ p') := by omega
              have d2 : (q' < y.lo ∧ q' ≤ y.lo) ∨ (y.lo ≤ q' ∧ y.lo ≤ q') := by omega
              rcases d1 with ⟨d1, d1'⟩ | ⟨d1, d1'⟩ <;> rcases d2 with ⟨d2, d2'⟩ | ⟨d2, d2'⟩
              all_goals
                go_wp2_with (go_at_call 32; (refine (c_depth _ _ l _ _ hc h40 (HSL.out.below (Nat.le_refl _) (by exact belz))).mono ?_); rintro e w2 ⟨rfl, hb⟩; have hz := hb.size; (try simp only [szA, szS, szD, szN] at hz); (try (refine bcB (n := wr.heap.size) hb ?_; intro h_wr_0 e_wr_0 d_wr_0 _ _)); (try (refine bcB (n := w.heap.size) hb ?_; intro h_w_0 e_w_0 d_w_0 _ _)); (try (refine bcB (n := wo.heap.size) hb ?_; intro h_wo_0 e_wo_0 d_wo_0 _ _)); (try (refine bcB (n := wa.heap.size) hb ?_; intro h_wa_0 e_wa_0 d_wa_0 _ _)))
                go_roundg 1
                case measure => omega
                case rel =>
                  have hbz : Below wr.heap.size wr w2 := by exact belz
                  refine ⟨_, _, true, rfl, ?_, (HR.out.below hbz).setOther (c := wa.heap.size) (by omega) _ _, (HB.out.below hbz).set _ _, .inr (.inl ⟨rfl, rfl, by rw [HW.out]; congr 1; omega; congr 1; omega⟩)⟩
                  exact belz
        · have H1 : Hid (wst l need (k + 1) = wStep l need (p', q', is') y.hi) := Lib.hid (by rw [HN.out]; show wStep l need (wStep l need (p, q, is) y.lo) y.hi = _; rw [hw])
          clear hw
          by_cases hcv : cov l y.hi < need
          · have hst := H1.out
            rw [wStep1 hcv] at hst
            have HW := Lib.hid hst
            clear hst
            go_wp2_with (go_at_call 32; (refine (c_depth _ _ l _ _ hc h40 (HSL.out.below (Nat.le_refl _) (by exact belz))).mono ?_); rintro e w2 ⟨rfl, hb⟩; have hz := hb.size; (try simp only [szA, szS, szD, szN] at hz); (try (refine bcB (n := wr.heap.size) hb ?_; intro h_wr_0 e_wr_0 d_wr_0 _ _)); (try (refine bcB (n := w.heap.size) hb ?_; intro h_w_0 e_w_0 d_w_0 _ _)); (try (refine bcB (n := wo.heap.size) hb ?_; intro h_wo_0 e_wo_0 d_wo_0 _ _)); (try (refine bcB (n := wa.heap.size) hb ?_; intro h_wa_0 e_wa_0 d_wa_0 _ _)))
            go_roundg 0
            case measure => omega
            case rel =>
              have hbz : Below wr.heap.size wr w2 := by exact belz
              refine ⟨p', q', is', rfl, ?_, HR.out.below hbz, HB.out.below hbz, .inr (.inr ⟨rfl, rfl, HW.out⟩)⟩
              exact belz
          · cases is' with
            | false =>
              have hst := H1.out
              rw [wStep2 hcv] at hst
              have HW := Lib.hid hst
              clear hst
              go_wp2_with (go_at_call 32; (refine (c_depth _ _ l _ _ hc h40 (HSL.out.below (Nat.le_refl _) (by exact belz))).mono ?_); rintro e w2 ⟨rfl, hb⟩; have hz := hb.size; (try simp only [szA, szS, szD, szN] at hz); (try (refine bcB (n := wr.heap.size) hb ?_; intro h_wr_0 e_wr_0 d_wr_0 _ _)); (try (refine bcB (n := w.heap.size) hb ?_; intro h_w_0 e_w_0 d_w_0 _ _)); (try (refine bcB (n := wo.heap.size) hb ?_; intro h_wo_0 e_wo_0 d_wo_0 _ _)); (try (refine bcB (n := wa.heap.size) hb ?_; intro h_wa_0 e_wa_0 d_wa_0 _ _)))
              go_roundg 0
              case measure => omega
              case rel =>
                have hbz : Below wr.heap.size wr w2 := by exact belz
                refine ⟨y.hi, y.hi, true, rfl, ?_, ?_, ?_, .inr (.inr ⟨rfl, rfl, HW.out⟩)⟩
                · exact belz
                · first | exact (HR.out.below hbz).setOther (c := wa.heap.size) (by omega) _ _ | exact ((HR.out.below hbz).setOther (c := wa.heap.size) (by omega) _ _).setOther (by omega) _ _
                · first | exact (HB.out.below hbz).set _ _ | exact ((HB.out.below hbz).set _ _).set _ _
            | true =>
              have hst := H1.out
              rw [wStep3 hcv] at hst
              have HW := Lib.hid hst
              clear hst
              have d1 : (p' ≤ y.hi ∧ p' ≤ y.hi) ∨ (y.hi < p' ∧ y.hi ≤ p') := by omega
              have d2 : (q' < y.hi ∧ q' ≤ y.hi) ∨ (y.hi ≤ q' ∧ y.hi ≤ q') := by omega
              rcases d1 with ⟨d1, d1'⟩ | ⟨d1, d1'⟩ <;> rcases d2 with ⟨d2, d2'⟩ | ⟨d2, d2'⟩
              all_goals
                go_wp2_with (go_at_call 32; (refine (c_depth _ _ l _ _ hc h40 (HSL.out.below (Nat.le_refl _) (by exact belz))).mono ?_); rintro e w2 ⟨rfl, hb⟩; have hz := hb.size; (try simp only [szA, szS, szD, szN] at hz); (try (refine bcB (n := wr.heap.size) hb ?_; intro h_wr_0 e_wr_0 d_wr_0 _ _)); (try (refine bcB (n := w.heap.size) hb ?_; intro h_w_0 e_w_0 d_w_0 _ _)); (try (refine bcB (n := wo.heap.size) hb ?_; intro h_wo_0 e_wo_0 d_wo_0 _ _)); (try (refine bcB (n := wa.heap.size) hb ?_; intro h_wa_0 e_wa_0 d_wa_0 _ _)))
                go_roundg 0
                case measure => omega
                case rel =>
                  have hbz : Below wr.heap.size wr w2 := by exact belz
                  refine ⟨_, _, true, rfl, ?_, (HR.out.below hbz).setOther (c := wa.heap.size) (by omega) _ _, (HB.out.below hbz).set _ _, .inr (.inr ⟨rfl, rfl, by rw [HW.out]; congr 1; omega; congr 1; omega⟩)⟩
                  exact belz
        · have HW := Lib.hid hw
          clear hw
          go_wp2
          go_roundg (l.length - (k + 1))
          case measure => omega
          case rel => exact ⟨k + 1, p', q', is', by omega, by go_num, rfl, hbel, HR.out, HB.out, HW.out⟩
    · have hkl : k = l.length := by omega
      rw [hkl] at hst
      have hsz := hbel.size
      obtain ⟨e0, e1, e2, e3, e4⟩ := hB
      obtain ⟨r0, r1, r2, r3, r4⟩ := hR
      have hu := HT.out
      rw [hst] at hu
      clear hkl hst
      rcases hu with ⟨p', q', hpq, rfl, rfl, rfl⟩ | ⟨hpq, rfl⟩
      · obtain ⟨rfl, rfl, rfl⟩ : p = p' ∧ q = q' ∧ is = false := by simpa using hpq
        clear hpq
        go_wp2
        refine bodyPost_ret (v := .tuple #[.agg #[.int .i64 0, .int .i64 0], .int .i64 6]) (by simp only [results, Try.results17]; go_simp) rfl ⟨rfl, ?_⟩
        exact belz
      · obtain ⟨rfl, rfl, rfl⟩ : p = lo ∧ q = hi ∧ is = true := by simpa using hpq
        clear hpq
        go_wp2
        refine bodyPost_ret (v := .tuple #[.agg #[.int .i64 p, .int .i64 q], .int .i64 0]) (by simp only [results, Try.results17]; go_simp) rfl ⟨rfl, ?_⟩
        exact belz
end Go.Proofs.Ytenmiilndiaopaa
