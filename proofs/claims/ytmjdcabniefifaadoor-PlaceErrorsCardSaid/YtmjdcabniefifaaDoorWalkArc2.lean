/- The contract of trig.Arc where its intervals are right. -/
import Derived.Test.YtmjdcabniefifaaDoorWalkArc
set_option linter.unusedVariables false
set_option linter.unusedSimpArgs false
namespace Go.Proofs.YtmjdcabniefifaaDoor
open Go.RowKit
set_option maxRecDepth 100000 in
set_option maxHeartbeats 16000000 in
theorem c_Arc_ok (yl yh xl xh : Int) (w : World) (hy : spanErr yl yh = 0) (hx : spanErr xl xh = 0) (hzz : ¬ (yl ≤ 0 ∧ 0 ≤ yh ∧ xl ≤ 0 ∧ 0 ≤ xh)) (hr : ArcR yl yh xl xh) {rl rh : Nat} (hla : Ieee.double.add (dirW yl xl) (arcLow yl yh xl xh 3) = some rl) (hha : Ieee.double.add (dirW yl xl) (arcHigh yl yh xl xh 3) = some rh) (hl : AroundP rl) (hh : AroundP rh) (ll hh2 er : Int) (hres : (400000000 < arHi rh - arLo rl ∧ ll = 0 ∧ hh2 = 0 ∧ er = 11) ∨ (¬ 400000000 < arHi rh - arLo rl ∧ ll = arLo rl % 1000000000 ∧ hh2 = arLo rl % 1000000000 + arHi rh - arLo rl ∧ er = 0)) : Calls Tryd.prog 58 #[.agg #[.int .i64 yl, .int .i64 yh], .agg #[.int .i64 xl, .int .i64 xh]] w fun e w' => e = .returned (.tuple #[.agg #[.int .i64 ll, .int .i64 hh2], .int .i64 er]) ∧ Below w.heap.size w w' := by
  have i0 : ∀ w, (Instr.index 67 (.agg #[.int .i64 yl, .int .i64 yh, .int .i64 xl, .int .i64 xh]) (.int .i64 0)).run Tryd.prog w = .ok (.agg #[.int .i64 yl, .int .i64 yh]) w := fun _ => by kernel_rfl
  have i1 : ∀ w, (Instr.index 67 (.agg #[.int .i64 yl, .int .i64 yh, .int .i64 xl, .int .i64 xh]) (.int .i64 1)).run Tryd.prog w = .ok (.agg #[.int .i64 xl, .int .i64 xh]) w := fun _ => by kernel_rfl
  have HC := Lib.hid (fun w1 => c_intervalCheck yl yh w1)
  have HD := Lib.hid (fun w1 => c_intervalCheck xl xh w1)
  rw [hy] at HC
  rw [hx] at HD
  clear hy hx
  have had := hr.ad
  have hdk := hr.dk
  have hmn := hr.mn
  have hmx := hr.mx
  have hd0 := hr.d0
  clear hr
  have bl : -4000000000000000 ≤ arLo rl ∧ arLo rl ≤ 4000000000000000 := by obtain ⟨_, _, _, _, _, _, _, _, _, _, a, b, _, _⟩ := hl; exact ⟨a, b⟩
  have bh : -4000000000000000 ≤ arHi rh ∧ arHi rh ≤ 4000000000000000 := by obtain ⟨_, _, _, _, _, _, _, _, _, _, _, _, a, b⟩ := hh; exact ⟨a, b⟩
  have HBL := Lib.hid bl
  have HBH := Lib.hid bh
  clear bl bh
  have HAL := Lib.hid (fun w1 => c_AroundP hl w1)
  have HAH := Lib.hid (fun w1 => c_AroundP hh w1)
  have rla := hadd hla
  have rha := hadd hha
  clear hla hha hl hh
  generalize dirW yl xl = f0 at *
  have HD0 := Lib.hid (fun w1 => c_dir hd0 w1)
  clear hd0
  have hgen := sgen; have hgen2 := sgen2; have hgen3 := sgen3; go_enter Tryd.func58, Tryd.ntmps58
  go_wp2
  refine wp_loop_rounds 3 ?_
  rw [rounds_succ]
  go_wp2_with (go_at_call 43; (refine (HC.out _).mono ?_); rintro e w1 ⟨rfl, hb⟩; have hz := hb.size; (try simp only [World.size_alloc, World.size_setCell, World.size_drew, World.heap_drewN] at hz); (try have h_w_0 : w.heap.size < w1.heap.size := by omega); (try have e_w_0 : ¬ w.heap.size = w1.heap.size := by omega); (try have d_w_0 : ¬ w1.heap.size = w.heap.size := by omega); (try (refine bcUse (n := w.heap.size) hb ?_ ?_; (focus ((try simp only [World.size_alloc, World.size_setCell, World.size_drew, World.heap_drewN]); omega)); intro _ _)); (try have h_w_1 : w.heap.size + 1 < w1.heap.size := by omega); (try have e_w_1 : ¬ w.heap.size + 1 = w1.heap.size := by omega); (try have d_w_1 : ¬ w1.heap.size = w.heap.size + 1 := by omega); (try (refine bcUse (n := w.heap.size + 1) hb ?_ ?_; (focus ((try simp only [World.size_alloc, World.size_setCell, World.size_drew, World.heap_drewN]); omega)); intro _ _)); (try have h_w_2 : w.heap.size + 2 < w1.heap.size := by omega); (try have e_w_2 : ¬ w.heap.size + 2 = w1.heap.size := by omega); (try have d_w_2 : ¬ w1.heap.size = w.heap.size + 2 := by omega); (try (refine bcUse (n := w.heap.size + 2) hb ?_ ?_; (focus ((try simp only [World.size_alloc, World.size_setCell, World.size_drew, World.heap_drewN]); omega)); intro _ _)); (try have h_w_3 : w.heap.size + 3 < w1.heap.size := by omega); (try have e_w_3 : ¬ w.heap.size + 3 = w1.heap.size := by omega); (try have d_w_3 : ¬ w1.heap.size = w.heap.size + 3 := by omega); (try (refine bcUse (n := w.heap.size + 3) hb ?_ ?_; (focus ((try simp only [World.size_alloc, World.size_setCell, World.size_drew, World.heap_drewN]); omega)); intro _ _)))
  rw [rounds_succ]
  go_wp2_with (go_at_call 43; (refine (HD.out _).mono ?_); rintro e w2 ⟨rfl, hb⟩; have hz := hb.size; (try simp only [World.size_alloc, World.size_setCell, World.size_drew, World.heap_drewN] at hz); (try have h_w_0 : w.heap.size < w2.heap.size := by omega); (try have e_w_0 : ¬ w.heap.size = w2.heap.size := by omega); (try have d_w_0 : ¬ w2.heap.size = w.heap.size := by omega); (try (refine bcUse (n := w.heap.size) hb ?_ ?_; (focus ((try simp only [World.size_alloc, World.size_setCell, World.size_drew, World.heap_drewN]); omega)); intro _ _)); (try have h_w_1 : w.heap.size + 1 < w2.heap.size := by omega); (try have e_w_1 : ¬ w.heap.size + 1 = w2.heap.size := by omega); (try have d_w_1 : ¬ w2.heap.size = w.heap.size + 1 := by omega); (try (refine bcUse (n := w.heap.size + 1) hb ?_ ?_; (focus ((try simp only [World.size_alloc, World.size_setCell, World.size_drew, World.heap_drewN]); omega)); intro _ _)); (try have h_w_2 : w.heap.size + 2 < w2.heap.size := by omega); (try have e_w_2 : ¬ w.heap.size + 2 = w2.heap.size := by omega); (try have d_w_2 : ¬ w2.heap.size = w.heap.size + 2 := by omega); (try (refine bcUse (n := w.heap.size + 2) hb ?_ ?_; (focus ((try simp only [World.size_alloc, World.size_setCell, World.size_drew, World.heap_drewN]); omega)); intro _ _)); (try have h_w_3 : w.heap.size + 3 < w2.heap.size := by omega); (try have e_w_3 : ¬ w.heap.size + 3 = w2.heap.size := by omega); (try have d_w_3 : ¬ w2.heap.size = w.heap.size + 3 := by omega); (try (refine bcUse (n := w.heap.size + 3) hb ?_ ?_; (focus ((try simp only [World.size_alloc, World.size_setCell, World.size_drew, World.heap_drewN]); omega)); intro _ _)); (try have h_w1_0 : w1.heap.size < w2.heap.size := by omega); (try have e_w1_0 : ¬ w1.heap.size = w2.heap.size := by omega); (try have d_w1_0 : ¬ w2.heap.size = w1.heap.size := by omega); (try (refine bcUse (n := w1.heap.size) hb ?_ ?_; (focus ((try simp only [World.size_alloc, World.size_setCell, World.size_drew, World.heap_drewN]); omega)); intro _ _)); (try have h_w1_1 : w1.heap.size + 1 < w2.heap.size := by omega); (try have e_w1_1 : ¬ w1.heap.size + 1 = w2.heap.size := by omega); (try have d_w1_1 : ¬ w2.heap.size = w1.heap.size + 1 := by omega); (try (refine bcUse (n := w1.heap.size + 1) hb ?_ ?_; (focus ((try simp only [World.size_alloc, World.size_setCell, World.size_drew, World.heap_drewN]); omega)); intro _ _)))
  rw [rounds_succ]
  go_upto_region 8 with fail
  obtain ⟨wd, hwd⟩ : ∃ wd : World, wd = w2 := ⟨_, rfl⟩
  go_cut [46] (fun s wc => s = .bool false ∧ wc = w2)
  case first =>
    clear had hdk hmn hmx HC HD HD0
    by_cases h1 : yl ≤ 0
    · by_cases h2 : 0 ≤ yh
      · by_cases h3 : xl ≤ 0
        · have h4 : ¬ 0 ≤ xh := fun h4 => hzz ⟨h1, h2, h3, h4⟩
          have g1 : decide (yl ≤ 0) = true := decide_eq_true h1
          have g2 : decide (0 ≤ yh) = true := decide_eq_true h2
          have g3 : decide (xl ≤ 0) = true := decide_eq_true h3
          have g4 : decide (0 ≤ xh) = false := decide_eq_false h4
          go_wp2
          go_meet
          case rel => exact ⟨rfl, rfl⟩
        · have g1 : decide (yl ≤ 0) = true := decide_eq_true h1
          have g2 : decide (0 ≤ yh) = true := decide_eq_true h2
          have g3 : decide (xl ≤ 0) = false := decide_eq_false h3
          go_wp2
          go_meet
          case rel => exact ⟨rfl, rfl⟩
      · have g1 : decide (yl ≤ 0) = true := decide_eq_true h1
        have g2 : decide (0 ≤ yh) = false := decide_eq_false h2
        go_wp2
        go_meet
        case rel => exact ⟨rfl, rfl⟩
    · have g1 : decide (yl ≤ 0) = false := decide_eq_false h1
      go_wp2
      go_meet
      case rel => exact ⟨rfl, rfl⟩
  case rest =>
    obtain ⟨rfl, rfl⟩ := hcut
    go_wp2_with (go_at_call 74; refine (HD0.out _).mono ?_; rintro e w' ⟨rfl, rfl⟩)
    go_loopg [10, 11, 69] 3 (fun gk s10 s11 i wr => ∃ k : Nat, gk + k = 3 ∧ i = .int .i64 k ∧ s10 = fl (arcLow yl yh xl xh k) ∧ s11 = fl (arcHigh yl yh xl xh k) ∧ Below wc.heap.size wc wr)
    case atStart => exact ⟨0, rfl, rfl, rfl, rfl, Below.refl _ _⟩
    case round =>
      obtain ⟨k, hk, rfl, rfl, rfl, hbel⟩ := hrel
      have hsz := hbel.size
      by_cases hlt : k < 3
      · have hlz : ((k : Nat) : Int) < 3 := by omega
        obtain ⟨d, d1, s1, hA, hB⟩ := had k hlt
        have h1 := hdk k hlt
        have h2 := run_minF (hmn k hlt)
        have h3 := run_maxF (hmx k hlt)
        have el : arcLow yl yh xl xh (k + 1) = fminW (arcLow yl yh xl xh k) (adjW (arcD yl yh xl xh k)) := rfl
        have eh : arcHigh yl yh xl xh (k + 1) = fmaxW (arcHigh yl yh xl xh k) (adjW (arcD yl yh xl xh k)) := rfl
        have j0 : ∀ w, (Instr.index 87 (.agg #[.int .i64 yl, .int .i64 xh, .int .i64 yh, .int .i64 xl, .int .i64 yh, .int .i64 xh]) (.int .i64 (k : Int))).run Tryd.prog w = .ok (.agg #[.int .i64 (arcC yl yh xl xh k).1, .int .i64 (arcC yl yh xl xh k).2]) w := by
          intro w
          rcases (show k = 0 ∨ k = 1 ∨ k = 2 by omega) with rfl | rfl | rfl <;> kernel_rfl
        generalize adjW (arcD yl yh xl xh k) = e at *
        obtain ⟨p, hp⟩ : ∃ p, (arcC yl yh xl xh k).1 = p := ⟨_, rfl⟩
        obtain ⟨q, hq⟩ : ∃ q, (arcC yl yh xl xh k).2 = q := ⟨_, rfl⟩
        rw [hp, hq] at j0 h1 s1
        generalize dirW p q = f at *
        have HF := Lib.hid (fun w1 => c_dir h1 w1)
        have r1 := hsub s1
        have EL := Lib.hid el
        have EH := Lib.hid eh
        clear h1 s1 el eh hp hq had hdk hmn hmx
        generalize arcLow yl yh xl xh k = lo at *
        generalize arcHigh yl yh xl xh k = hi at *
        rcases hA with ⟨a1, a2⟩ | ⟨a1, rfl⟩ <;> rcases hB with ⟨b1, b2⟩ | ⟨b1, rfl⟩
        · have a3 : (FloatKind.f64.format.order d 4737168216739020800 == some Ordering.gt) = true := a1
          have b3 : (FloatKind.f64.format.order d1 13960540253593796608 == some Ordering.lt) = true := b1
          have a4 : ∀ t w, (binOp .sub t (.float .f64 d) (.float .f64 4741671816366391296)).run Tryd.prog w = .ok (.float .f64 d1) w := hsub a2
          have b4 : ∀ t w, (binOp .add t (.float .f64 d1) (.float .f64 4741671816366391296)).run Tryd.prog w = .ok (.float .f64 e) w := hadd b2
          clear a1 b1 a2 b2
          go_wp2_with (go_at_call 74; refine (HF.out _).mono ?_; rintro e w' ⟨rfl, rfl⟩)
          go_roundg (gk - 1)
          case measure => omega
          case rel => exact ⟨k + 1, by omega, by go_num, by rw [EL.out], by rw [EH.out], by (repeat' (first | (with_reducible exact Below.refl _ _) | (with_reducible assumption) | (with_reducible refine Below.call ?_ ?_ (by with_reducible assumption)) | (with_reducible refine Below.alloc ?_ ?_ _) | (with_reducible refine Below.drew ?_) | (with_reducible refine below_drewN ?_ _) | (with_reducible refine Below.setCell ?_ ?_ _) | (with_reducible exact Nat.le_refl _) | omega | (simp only [World.size_alloc, World.size_setCell, World.size_drew, World.heap_drewN] at *; omega)))⟩
        · have a3 : (FloatKind.f64.format.order d 4737168216739020800 == some Ordering.gt) = true := a1
          have b3 : (FloatKind.f64.format.order e 13960540253593796608 == some Ordering.lt) = false := b1
          have a4 : ∀ t w, (binOp .sub t (.float .f64 d) (.float .f64 4741671816366391296)).run Tryd.prog w = .ok (.float .f64 e) w := hsub a2
          clear a1 b1 a2
          go_wp2_with (go_at_call 74; refine (HF.out _).mono ?_; rintro e w' ⟨rfl, rfl⟩)
          go_roundg (gk - 1)
          case measure => omega
          case rel => exact ⟨k + 1, by omega, by go_num, by rw [EL.out], by rw [EH.out], by (repeat' (first | (with_reducible exact Below.refl _ _) | (with_reducible assumption) | (with_reducible refine Below.call ?_ ?_ (by with_reducible assumption)) | (with_reducible refine Below.alloc ?_ ?_ _) | (with_reducible refine Below.drew ?_) | (with_reducible refine below_drewN ?_ _) | (with_reducible refine Below.setCell ?_ ?_ _) | (with_reducible exact Nat.le_refl _) | omega | (simp only [World.size_alloc, World.size_setCell, World.size_drew, World.heap_drewN] at *; omega)))⟩
        · have a3 : (FloatKind.f64.format.order d1 4737168216739020800 == some Ordering.gt) = false := a1
          have b3 : (FloatKind.f64.format.order d1 13960540253593796608 == some Ordering.lt) = true := b1
          have b4 : ∀ t w, (binOp .add t (.float .f64 d1) (.float .f64 4741671816366391296)).run Tryd.prog w = .ok (.float .f64 e) w := hadd b2
          clear a1 b1 b2
          go_wp2_with (go_at_call 74; refine (HF.out _).mono ?_; rintro e w' ⟨rfl, rfl⟩)
          go_roundg (gk - 1)
          case measure => omega
          case rel => exact ⟨k + 1, by omega, by go_num, by rw [EL.out], by rw [EH.out], by (repeat' (first | (with_reducible exact Below.refl _ _) | (with_reducible assumption) | (with_reducible refine Below.call ?_ ?_ (by with_reducible assumption)) | (with_reducible refine Below.alloc ?_ ?_ _) | (with_reducible refine Below.drew ?_) | (with_reducible refine below_drewN ?_ _) | (with_reducible refine Below.setCell ?_ ?_ _) | (with_reducible exact Nat.le_refl _) | omega | (simp only [World.size_alloc, World.size_setCell, World.size_drew, World.heap_drewN] at *; omega)))⟩
        · have a3 : (FloatKind.f64.format.order e 4737168216739020800 == some Ordering.gt) = false := a1
          have b3 : (FloatKind.f64.format.order e 13960540253593796608 == some Ordering.lt) = false := b1
          clear a1 b1
          go_wp2_with (go_at_call 74; refine (HF.out _).mono ?_; rintro e w' ⟨rfl, rfl⟩)
          go_roundg (gk - 1)
          case measure => omega
          case rel => exact ⟨k + 1, by omega, by go_num, by rw [EL.out], by rw [EH.out], by (repeat' (first | (with_reducible exact Below.refl _ _) | (with_reducible assumption) | (with_reducible refine Below.call ?_ ?_ (by with_reducible assumption)) | (with_reducible refine Below.alloc ?_ ?_ _) | (with_reducible refine Below.drew ?_) | (with_reducible refine below_drewN ?_ _) | (with_reducible refine Below.setCell ?_ ?_ _) | (with_reducible exact Nat.le_refl _) | omega | (simp only [World.size_alloc, World.size_setCell, World.size_drew, World.heap_drewN] at *; omega)))⟩
      · have hk3 : k = 3 := by omega
        subst hk3
        clear had hdk hmn hmx
        refine bcUse (n := w.heap.size + 1 + 1) hbel (by omega) ?_
        intro cA fA
        have HB := Lib.hid hbel
        generalize arcLow yl yh xl xh 3 = lo at *
        generalize arcHigh yl yh xl xh 3 = hi at *
        have q0 : ∀ w, (Instr.field 26 (.agg #[.int .i64 (arLo rl), .int .i64 (arHi rl)]) 0).run Tryd.prog w = .ok (.int .i64 (arLo rl)) w := fun _ => by kernel_rfl
        have q1 : ∀ w, (Instr.field 26 (.agg #[.int .i64 (arLo rh), .int .i64 (arHi rh)]) 1).run Tryd.prog w = .ok (.int .i64 (arHi rh)) w := fun _ => by kernel_rfl
        have dlt : decide (((3 : Nat) : Int) < 3) = false := by decide
        have HWR := Lib.hid (show w.heap.size + 2 < wr.heap.size by omega)
        obtain ⟨wo, rfl⟩ : ∃ wo : World, wo = wr := ⟨_, rfl⟩
        go_upto_region 22 with fail
        go_cut [15] (fun s wk => ∃ b : Nat, s = .pointer (some ⟨b, 0, none⟩) ∧ wo.heap.size ≤ b ∧ b < wk.heap.size ∧ wk.cell? ⟨b, 0, none⟩ = some (.int .i64 (arLo rl)) ∧ wk.cell? ⟨b, 1, none⟩ = some (.int .i64 (arHi rh)) ∧ Below wo.heap.size wo wk)
        case first =>
          go_wp2_with (first | (go_at_call 75; (with_reducible refine (HAL.out _).mono ?_); rintro e w3 ⟨rfl, hb⟩; have hz := hb.size; (try simp only [World.size_alloc, World.size_setCell, World.size_drew, World.heap_drewN] at hz); (try have h_wo_0 : wo.heap.size < w3.heap.size := by omega); (try have e_wo_0 : ¬ wo.heap.size = w3.heap.size := by omega); (try have d_wo_0 : ¬ w3.heap.size = wo.heap.size := by omega); (try (refine bcUse (n := wo.heap.size) hb ?_ ?_; (focus ((try simp only [World.size_alloc, World.size_setCell, World.size_drew, World.heap_drewN]); omega)); intro _ _)); (try have h_wo_1 : wo.heap.size + 1 < w3.heap.size := by omega); (try have e_wo_1 : ¬ wo.heap.size + 1 = w3.heap.size := by omega); (try have d_wo_1 : ¬ w3.heap.size = wo.heap.size + 1 := by omega); (try (refine bcUse (n := wo.heap.size + 1) hb ?_ ?_; (focus ((try simp only [World.size_alloc, World.size_setCell, World.size_drew, World.heap_drewN]); omega)); intro _ _))) | (go_at_call 75; (with_reducible refine (HAH.out _).mono ?_); rintro e w4 ⟨rfl, hb⟩; have hz := hb.size; (try simp only [World.size_alloc, World.size_setCell, World.size_drew, World.heap_drewN] at hz); (try have h_wo_0 : wo.heap.size < w4.heap.size := by omega); (try have e_wo_0 : ¬ wo.heap.size = w4.heap.size := by omega); (try have d_wo_0 : ¬ w4.heap.size = wo.heap.size := by omega); (try (refine bcUse (n := wo.heap.size) hb ?_ ?_; (focus ((try simp only [World.size_alloc, World.size_setCell, World.size_drew, World.heap_drewN]); omega)); intro _ _)); (try have h_wo_1 : wo.heap.size + 1 < w4.heap.size := by omega); (try have e_wo_1 : ¬ wo.heap.size + 1 = w4.heap.size := by omega); (try have d_wo_1 : ¬ w4.heap.size = wo.heap.size + 1 := by omega); (try (refine bcUse (n := wo.heap.size + 1) hb ?_ ?_; (focus ((try simp only [World.size_alloc, World.size_setCell, World.size_drew, World.heap_drewN]); omega)); intro _ _)); (try have h_w3_0 : w3.heap.size < w4.heap.size := by omega); (try have e_w3_0 : ¬ w3.heap.size = w4.heap.size := by omega); (try have d_w3_0 : ¬ w4.heap.size = w3.heap.size := by omega); (try (refine bcUse (n := w3.heap.size) hb ?_ ?_; (focus ((try simp only [World.size_alloc, World.size_setCell, World.size_drew, World.heap_drewN]); omega)); intro _ _)); (try have h_w3_1 : w3.heap.size + 1 < w4.heap.size := by omega); (try have e_w3_1 : ¬ w3.heap.size + 1 = w4.heap.size := by omega); (try have d_w3_1 : ¬ w4.heap.size = w3.heap.size + 1 := by omega); (try (refine bcUse (n := w3.heap.size + 1) hb ?_ ?_; (focus ((try simp only [World.size_alloc, World.size_setCell, World.size_drew, World.heap_drewN]); omega)); intro _ _))))
          go_meet
          case rel => exact ⟨w4.heap.size, by go_simp, by omega, by go_simp, by go_simp, by go_simp, by (repeat' (first | (with_reducible exact Below.refl _ _) | (with_reducible assumption) | (with_reducible refine Below.call ?_ ?_ (by with_reducible assumption)) | (with_reducible refine Below.alloc ?_ ?_ _) | (with_reducible refine Below.drew ?_) | (with_reducible refine below_drewN ?_ _) | (with_reducible refine Below.setCell ?_ ?_ _) | (with_reducible exact Nat.le_refl _) | omega | (simp only [World.size_alloc, World.size_setCell, World.size_drew, World.heap_drewN] at *; omega)))⟩
        case rest =>
          obtain ⟨b, rfl, hb1, hb2, hc1, hc2, hbl⟩ := hcut
          have hsk := hbl.size
          have n1 : ¬ w.heap.size + 1 + 1 = b := by have := HWR.out; omega
          have n2 : ¬ b = w.heap.size + 1 + 1 := by have := HWR.out; omega
          have n3 : w.heap.size + 1 + 1 < wc.heap.size := by have := HWR.out; omega
          refine bcUse (n := w.heap.size + 1 + 1) hbl (by have := HWR.out; omega) ?_
          intro cB fB
          obtain ⟨bl1, bl2⟩ := HBL.out
          obtain ⟨bh1, bh2⟩ := HBH.out
          have HR := Lib.hid hres
          clear hres
          by_cases hwd : 400000000 < arHi rh - arLo rl
          · go_wp2
            rcases HR.out with ⟨-, rfl, rfl, rfl⟩ | ⟨h, -⟩
            · refine bodyPost_ret (v := .tuple #[.agg #[.int .i64 0, .int .i64 0], .int .i64 11]) (by simp only [results, Tryd.results58]; go_simp) rfl ⟨rfl, ?_⟩
              have HBO := HB.out
              (repeat' (first | (with_reducible exact Below.refl _ _) | (with_reducible assumption) | (with_reducible refine Below.call ?_ ?_ (by with_reducible assumption)) | (with_reducible refine Below.alloc ?_ ?_ _) | (with_reducible refine Below.drew ?_) | (with_reducible refine below_drewN ?_ _) | (with_reducible refine Below.setCell ?_ ?_ _) | (with_reducible exact Nat.le_refl _) | omega | (simp only [World.size_alloc, World.size_setCell, World.size_drew, World.heap_drewN] at *; omega)))
            · exact absurd hwd (by omega)
          · have HNN := Lib.hid (fun w1 => c_Norm (arLo rl) (arHi rh) w1 (by omega) (by omega) (by omega) (by omega))
            go_wp2_with (go_at_call 25; (refine (HNN.out _).mono ?_); rintro e w5 ⟨rfl, hb⟩; have hz := hb.size; (try simp only [World.size_alloc, World.size_setCell, World.size_drew, World.heap_drewN] at hz); (try have h_w_2 : w.heap.size + 1 + 1 < w5.heap.size := by omega); (try have e_w_2 : ¬ w.heap.size + 1 + 1 = w5.heap.size := by omega); (try have d_w_2 : ¬ w5.heap.size = w.heap.size + 1 + 1 := by omega); (try (refine bcUse (n := w.heap.size + 1 + 1) hb ?_ ?_; (focus ((try simp only [World.size_alloc, World.size_setCell, World.size_drew, World.heap_drewN]); omega)); intro _ _)); (try have h_wc_0 : wc.heap.size < w5.heap.size := by omega); (try have e_wc_0 : ¬ wc.heap.size = w5.heap.size := by omega); (try have d_wc_0 : ¬ w5.heap.size = wc.heap.size := by omega); (try (refine bcUse (n := wc.heap.size) hb ?_ ?_; (focus ((try simp only [World.size_alloc, World.size_setCell, World.size_drew, World.heap_drewN]); omega)); intro _ _)))
            rcases HR.out with ⟨h, -⟩ | ⟨-, rfl, rfl, rfl⟩
            · exact absurd hwd (by omega)
            · refine bodyPost_ret (v := .tuple #[.agg #[.int .i64 (arLo rl % 1000000000), .int .i64 (arLo rl % 1000000000 + arHi rh - arLo rl)], .int .i64 0]) (by simp only [results, Tryd.results58]; go_simp) rfl ⟨rfl, ?_⟩
              have HBO := HB.out
              (repeat' (first | (with_reducible exact Below.refl _ _) | (with_reducible assumption) | (with_reducible refine Below.call ?_ ?_ (by with_reducible assumption)) | (with_reducible refine Below.alloc ?_ ?_ _) | (with_reducible refine Below.drew ?_) | (with_reducible refine below_drewN ?_ _) | (with_reducible refine Below.setCell ?_ ?_ _) | (with_reducible exact Nat.le_refl _) | omega | (simp only [World.size_alloc, World.size_setCell, World.size_drew, World.heap_drewN] at *; omega)))
end Go.Proofs.YtmjdcabniefifaaDoor
