/- The contract of figure.Mapped. -/
import Derived.Test.YtbcehnhiedbbbaaDoorWalkMp
import Derived.Test.YtbcehnhiedbbbaaDoorWalkRd2
import Derived.Deep.AppendLies
import Derived.Deep.RegionHeld3
set_option linter.unusedVariables false
set_option linter.unusedSimpArgs false
namespace Go.Proofs.YtbcehnhiedbbbaaDoor
open Go.RowKit
theorem ixM0 (x0 x1 x2 x3 x4 x5 x6 x7 x8 x9 x10 x11 : Int) : ∀ w, (Instr.index 77 (.agg #[.int .i64 x0, .int .i64 x1, .int .i64 x2, .int .i64 x3, .int .i64 x4, .int .i64 x5, .int .i64 x6, .int .i64 x7, .int .i64 x8, .int .i64 x9, .int .i64 x10, .int .i64 x11]) (.int .i64 0)).run Tryd.prog w = .ok (.agg #[.int .i64 x0, .int .i64 x1]) w := fun w => by kernel_rfl
theorem ixM1 (x0 x1 x2 x3 x4 x5 x6 x7 x8 x9 x10 x11 : Int) : ∀ w, (Instr.index 77 (.agg #[.int .i64 x0, .int .i64 x1, .int .i64 x2, .int .i64 x3, .int .i64 x4, .int .i64 x5, .int .i64 x6, .int .i64 x7, .int .i64 x8, .int .i64 x9, .int .i64 x10, .int .i64 x11]) (.int .i64 1)).run Tryd.prog w = .ok (.agg #[.int .i64 x2, .int .i64 x3]) w := fun w => by kernel_rfl
theorem ixM2 (x0 x1 x2 x3 x4 x5 x6 x7 x8 x9 x10 x11 : Int) : ∀ w, (Instr.index 77 (.agg #[.int .i64 x0, .int .i64 x1, .int .i64 x2, .int .i64 x3, .int .i64 x4, .int .i64 x5, .int .i64 x6, .int .i64 x7, .int .i64 x8, .int .i64 x9, .int .i64 x10, .int .i64 x11]) (.int .i64 2)).run Tryd.prog w = .ok (.agg #[.int .i64 x4, .int .i64 x5]) w := fun w => by kernel_rfl
theorem ixM3 (x0 x1 x2 x3 x4 x5 x6 x7 x8 x9 x10 x11 : Int) : ∀ w, (Instr.index 77 (.agg #[.int .i64 x0, .int .i64 x1, .int .i64 x2, .int .i64 x3, .int .i64 x4, .int .i64 x5, .int .i64 x6, .int .i64 x7, .int .i64 x8, .int .i64 x9, .int .i64 x10, .int .i64 x11]) (.int .i64 3)).run Tryd.prog w = .ok (.agg #[.int .i64 x6, .int .i64 x7]) w := fun w => by kernel_rfl
theorem ixM4 (x0 x1 x2 x3 x4 x5 x6 x7 x8 x9 x10 x11 : Int) : ∀ w, (Instr.index 77 (.agg #[.int .i64 x0, .int .i64 x1, .int .i64 x2, .int .i64 x3, .int .i64 x4, .int .i64 x5, .int .i64 x6, .int .i64 x7, .int .i64 x8, .int .i64 x9, .int .i64 x10, .int .i64 x11]) (.int .i64 4)).run Tryd.prog w = .ok (.agg #[.int .i64 x8, .int .i64 x9]) w := fun w => by kernel_rfl
theorem ixM5 (x0 x1 x2 x3 x4 x5 x6 x7 x8 x9 x10 x11 : Int) : ∀ w, (Instr.index 77 (.agg #[.int .i64 x0, .int .i64 x1, .int .i64 x2, .int .i64 x3, .int .i64 x4, .int .i64 x5, .int .i64 x6, .int .i64 x7, .int .i64 x8, .int .i64 x9, .int .i64 x10, .int .i64 x11]) (.int .i64 5)).run Tryd.prog w = .ok (.agg #[.int .i64 x10, .int .i64 x11]) w := fun w => by kernel_rfl
theorem ix6 (m : M6) (j : Nat) (hj : j < 6) : ∀ w, (Instr.index 77 (.agg #[.int .i64 (m 0).1, .int .i64 (m 0).2, .int .i64 (m 1).1, .int .i64 (m 1).2, .int .i64 (m 2).1, .int .i64 (m 2).2, .int .i64 (m 3).1, .int .i64 (m 3).2, .int .i64 (m 4).1, .int .i64 (m 4).2, .int .i64 (m 5).1, .int .i64 (m 5).2]) (.int .i64 (j : Int))).run Tryd.prog w = .ok (.agg #[.int .i64 (m j).1, .int .i64 (m j).2]) w := by
  intro w
  have : j = 0 ∨ j = 1 ∨ j = 2 ∨ j = 3 ∨ j = 4 ∨ j = 5 := by omega
  rcases this with rfl | rfl | rfl | rfl | rfl | rfl
  · exact ixM0 _ _ _ _ _ _ _ _ _ _ _ _ w
  · exact ixM1 _ _ _ _ _ _ _ _ _ _ _ _ w
  · exact ixM2 _ _ _ _ _ _ _ _ _ _ _ _ w
  · exact ixM3 _ _ _ _ _ _ _ _ _ _ _ _ w
  · exact ixM4 _ _ _ _ _ _ _ _ _ _ _ _ w
  · exact ixM5 _ _ _ _ _ _ _ _ _ _ _ _ w
def mL (m : M6) : List (Int × Int) := [m 0, m 1, m 2, m 3, m 4, m 5]
def mE (m : M6) : Int := fe (fun c => fcE c.1 c.2) (mL m)
theorem mL_at (m : M6) (j : Nat) (hj : j < 6) : (mL m)[j]'hj = m j := by
  have : j = 0 ∨ j = 1 ∨ j = 2 ∨ j = 3 ∨ j = 4 ∨ j = 5 := by omega
  rcases this with rfl | rfl | rfl | rfl | rfl | rfl <;> rfl
theorem mE_ok {m : M6} (h : mE m = 0) (j : Nat) (hj : j < 6) : okF (m j) := by
  have := fe_zero h j hj
  rw [mL_at m j hj] at this
  exact this
structure MpAt (w : World) (B : Nat) (a b : Option Addr) (np nl ca cb : Nat) (m : M6) : Prop where
  c0 : w.cell? ⟨B, 0, none⟩ = some (.slice a np ca)
  c1 : w.cell? ⟨B, 1, none⟩ = some (.slice b nl cb)
  d0 : w.cell? ⟨B + 1, 0, none⟩ = some (.int .i64 (m 0).1)
  d1 : w.cell? ⟨B + 1, 1, none⟩ = some (.int .i64 (m 0).2)
  d2 : w.cell? ⟨B + 1, 2, none⟩ = some (.int .i64 (m 1).1)
  d3 : w.cell? ⟨B + 1, 3, none⟩ = some (.int .i64 (m 1).2)
  d4 : w.cell? ⟨B + 1, 4, none⟩ = some (.int .i64 (m 2).1)
  d5 : w.cell? ⟨B + 1, 5, none⟩ = some (.int .i64 (m 2).2)
  d6 : w.cell? ⟨B + 1, 6, none⟩ = some (.int .i64 (m 3).1)
  d7 : w.cell? ⟨B + 1, 7, none⟩ = some (.int .i64 (m 3).2)
  d8 : w.cell? ⟨B + 1, 8, none⟩ = some (.int .i64 (m 4).1)
  d9 : w.cell? ⟨B + 1, 9, none⟩ = some (.int .i64 (m 4).2)
  d10 : w.cell? ⟨B + 1, 10, none⟩ = some (.int .i64 (m 5).1)
  d11 : w.cell? ⟨B + 1, 11, none⟩ = some (.int .i64 (m 5).2)
  r0 : w.cell? ⟨B + 1 + 1, 0, none⟩ = some (.slice none 0 0)
  r1 : w.cell? ⟨B + 1 + 1, 1, none⟩ = some (.slice none 0 0)
  f0 : w.frozen? ⟨B + 1 + 1, 0, none⟩ = false
  f1 : w.frozen? ⟨B + 1 + 1, 1, none⟩ = false
  lt : B + 1 + 1 < w.heap.size
theorem MpAt.below {w w' : World} {B K : Nat} {a b : Option Addr} {np nl ca cb : Nat} {m : M6} (h : MpAt w B a b np nl ca cb m) (hb : Below K w w') (hK : B + 1 + 1 < K) : MpAt w' B a b np nl ca cb m :=
  ⟨(hb.cell (p := ⟨B, 0, none⟩) (by show B < _; omega)).trans h.c0, (hb.cell (p := ⟨B, 1, none⟩) (by show B < _; omega)).trans h.c1, (hb.cell (p := ⟨B + 1, 0, none⟩) (by show B + 1 < _; omega)).trans h.d0, (hb.cell (p := ⟨B + 1, 1, none⟩) (by show B + 1 < _; omega)).trans h.d1, (hb.cell (p := ⟨B + 1, 2, none⟩) (by show B + 1 < _; omega)).trans h.d2, (hb.cell (p := ⟨B + 1, 3, none⟩) (by show B + 1 < _; omega)).trans h.d3, (hb.cell (p := ⟨B + 1, 4, none⟩) (by show B + 1 < _; omega)).trans h.d4, (hb.cell (p := ⟨B + 1, 5, none⟩) (by show B + 1 < _; omega)).trans h.d5, (hb.cell (p := ⟨B + 1, 6, none⟩) (by show B + 1 < _; omega)).trans h.d6, (hb.cell (p := ⟨B + 1, 7, none⟩) (by show B + 1 < _; omega)).trans h.d7, (hb.cell (p := ⟨B + 1, 8, none⟩) (by show B + 1 < _; omega)).trans h.d8, (hb.cell (p := ⟨B + 1, 9, none⟩) (by show B + 1 < _; omega)).trans h.d9, (hb.cell (p := ⟨B + 1, 10, none⟩) (by show B + 1 < _; omega)).trans h.d10, (hb.cell (p := ⟨B + 1, 11, none⟩) (by show B + 1 < _; omega)).trans h.d11, (hb.cell (p := ⟨B + 1 + 1, 0, none⟩) hK).trans h.r0, (hb.cell (p := ⟨B + 1 + 1, 1, none⟩) hK).trans h.r1, (hb.frozen (p := ⟨B + 1 + 1, 0, none⟩) hK).trans h.f0, (hb.frozen (p := ⟨B + 1 + 1, 1, none⟩) hK).trans h.f1, Nat.lt_of_lt_of_le h.lt hb.size⟩
theorem c_Mapped_bad (a b : Option Addr) (ca cb : Nat) (P : List Fp) (L : List (List Int)) (m : M6) (w : World) (hP : FpSlice w a P) (hL : MatSlice w b L) (hca : P.length ≤ ca) (hcb : L.length ≤ cb) (h : fgE P L ≠ 0) :
    Calls Tryd.prog 35 #[.agg #[.slice a P.length ca, .slice b L.length cb], .agg #[.int .i64 (m 0).1, .int .i64 (m 0).2, .int .i64 (m 1).1, .int .i64 (m 1).2, .int .i64 (m 2).1, .int .i64 (m 2).2, .int .i64 (m 3).1, .int .i64 (m 3).2, .int .i64 (m 4).1, .int .i64 (m 4).2, .int .i64 (m 5).1, .int .i64 (m 5).2]] w fun e w' => e = .returned (.tuple #[.agg #[.slice none 0 0, .slice none 0 0], .int .i64 (fgE P L)]) ∧ Below w.heap.size w w' := by
  have HC := Lib.hid (fun w1 (h1 : FpSlice w1 a P) (h2 : MatSlice w1 b L) => c_fgCheck a b ca cb P L w1 h1 h2 hca hcb)
  generalize fgE P L = x at *
  have g : (x == 0) = false := by simpa using h
  have g2 : (x != 0) = true := by simpa using h
  have HP := Lib.hid hP
  have HL := Lib.hid hL
  clear hP hL
  have hgen := sgen; have hgen2 := sgen2; have hgen3 := sgen3; go_enter Tryd.func35, Tryd.ntmps35
  go_wp2_with (go_at_call 29; (with_reducible refine (HC.out _ (HP.out.below (Nat.le_refl _) (by exact belz)) (HL.out.below (Nat.le_refl _) (by exact belz))).mono ?_); rintro e w1 ⟨rfl, hb⟩; have hz := hb.size; (try simp only [szA, szS, szD, szN] at hz); (try (refine bcB (n := w.heap.size) hb ?_; intro h_w_0 e_w_0 d_w_0 _ _)); (try (refine bcB (n := w.heap.size + 1) hb ?_; intro h_w_1 e_w_1 d_w_1 _ _)); (try (refine bcB (n := w.heap.size + 1 + 1) hb ?_; intro h_w_2 e_w_2 d_w_2 _ _)))
  refine bodyPost_ret (v := .tuple #[.agg #[.slice none 0 0, .slice none 0 0], .int .i64 x]) (by simp only [results, Tryd.results35]; go_simp) rfl ⟨rfl, ?_⟩
  exact belz
set_option maxRecDepth 100000 in
set_option maxHeartbeats 4000000 in
theorem c_Mapped_m (a b : Option Addr) (ca cb : Nat) (P : List Fp) (L : List (List Int)) (m : M6) (w : World) (hP : FpSlice w a P) (hL : MatSlice w b L) (hca : P.length ≤ ca) (hcb : L.length ≤ cb) (h : fgE P L = 0) (hm : mE m ≠ 0) :
    Calls Tryd.prog 35 #[.agg #[.slice a P.length ca, .slice b L.length cb], .agg #[.int .i64 (m 0).1, .int .i64 (m 0).2, .int .i64 (m 1).1, .int .i64 (m 1).2, .int .i64 (m 2).1, .int .i64 (m 2).2, .int .i64 (m 3).1, .int .i64 (m 3).2, .int .i64 (m 4).1, .int .i64 (m 4).2, .int .i64 (m 5).1, .int .i64 (m 5).2]] w fun e w' => e = .returned (.tuple #[.agg #[.slice none 0 0, .slice none 0 0], .int .i64 (mE m)]) ∧ Below w.heap.size w w' := by
  have hc := fun w1 (h1 : FpSlice w1 a P) (h2 : MatSlice w1 b L) => c_fgCheck a b ca cb P L w1 h1 h2 hca hcb
  rw [h] at hc
  have HC := Lib.hid hc
  have HP := Lib.hid hP
  have HL := Lib.hid hL
  clear hP hL hc h
  have hgen := sgen; have hgen2 := sgen2; have hgen3 := sgen3; go_enter Tryd.func35, Tryd.ntmps35
  go_wp2_with (go_at_call 29; (with_reducible refine (HC.out _ (HP.out.below (Nat.le_refl _) (by exact belz)) (HL.out.below (Nat.le_refl _) (by exact belz))).mono ?_); rintro e w1 ⟨rfl, hb⟩; have hz := hb.size; (try simp only [szA, szS, szD, szN] at hz); (try (refine bcB (n := w.heap.size) hb ?_; intro h_w_0 e_w_0 d_w_0 _ _)); (try (refine bcB (n := w.heap.size + 1) hb ?_; intro h_w_1 e_w_1 d_w_1 _ _)); (try (refine bcB (n := w.heap.size + 1 + 1) hb ?_; intro h_w_2 e_w_2 d_w_2 _ _)))
  have hb0 : Below w.heap.size w w1 := by exact belz
  have hM1 : MpAt w1 w.heap.size a b P.length L.length ca cb m := by
    constructor
    case lt => (try simp only [szA, szS, szD, szN] at *); omega
    all_goals first | (go_simp; done) | go_keep
  go_loopg [25] 6 (fun gk i wr => ∃ j : Nat, gk + j = 6 ∧ i = .int .i64 j ∧ fe (fun c => fcE c.1 c.2) ((mL m).take j) = 0 ∧ Below w1.heap.size w1 wr)
  case atStart => exact ⟨0, by omega, rfl, rfl, Below.refl _ _⟩
  case round =>
    obtain ⟨j, hj, rfl, hfe, hbel⟩ := hrel
    have hMw := hM1.below hbel (by have := hM1.lt; omega)
    obtain ⟨c0, c1, d0, d1, d2, d3, d4, d5, d6, d7, d8, d9, d10, d11, r0, r1, f0, f1, hlt⟩ := hMw
    have hbw : Below w.heap.size w wr := hb0.trans (hbel.mono (by omega))
    by_cases hj6 : j < 6
    · have ixm := ix6 m j hj6
      have hsn := fe_snoc (fun c : Int × Int => fcE c.1 c.2) (mL m) j hj6
      rw [if_pos hfe, mL_at m j hj6] at hsn
      have hk := fun w1 => c_fcCheck (m j).1 (m j).2 w1
      have hat := fe_at (fun c : Int × Int => fcE c.1 c.2) (mL m) j hj6 hfe
      rw [mL_at m j hj6] at hat
      (try dsimp only at hat)
      (try dsimp only at hsn)
      generalize fcE (m j).1 (m j).2 = x at *
      have HF := Lib.hid hk
      clear hk
      by_cases hx : x = 0
      · subst hx
        go_wp2_with (go_at_call 36; (with_reducible refine (HF.out _).mono ?_); rintro e w2 ⟨rfl, hb⟩; have hz := hb.size; (try simp only [szA, szS, szD, szN] at hz); (try (refine bcB (n := wr.heap.size) hb ?_; intro h_wr_0 e_wr_0 d_wr_0 _ _)); (try (refine bcB (n := w.heap.size + 1 + 1) hb ?_; intro h_w_2 e_w_2 d_w_2 _ _)))
        go_roundg (6 - (j + 1))
        case measure => omega
        case rel => exact ⟨j + 1, by omega, by go_num, hsn, hbel.trans ((show Below wr.heap.size wr w2 by (clear hbel hbw hb0; exact belz)).mono hbel.size)⟩
      · have g : (x == 0) = false := by simpa using hx
        have g2 : (x != 0) = true := by simpa using hx
        have HE := Lib.hid (show mE m = x from hat hx)
        clear hat
        go_wp2_with (go_at_call 36; (with_reducible refine (HF.out _).mono ?_); rintro e w2 ⟨rfl, hb⟩; have hz := hb.size; (try simp only [szA, szS, szD, szN] at hz); (try (refine bcB (n := wr.heap.size) hb ?_; intro h_wr_0 e_wr_0 d_wr_0 _ _)); (try (refine bcB (n := w.heap.size + 1 + 1) hb ?_; intro h_w_2 e_w_2 d_w_2 _ _)))
        refine bodyPost_ret (v := .tuple #[.agg #[.slice none 0 0, .slice none 0 0], .int .i64 x]) (by simp only [results, Tryd.results35]; go_simp) rfl ⟨by rw [HE.out], ?_⟩
        exact belz
    · obtain rfl : j = 6 := by omega
      exact absurd hfe hm
end Go.Proofs.YtbcehnhiedbbbaaDoor
