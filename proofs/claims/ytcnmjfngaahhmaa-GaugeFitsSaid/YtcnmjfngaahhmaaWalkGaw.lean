/- The check of gauge at fixed readings. -/
import Derived.Test.YtcnmjfngaahhmaaWalkFit
set_option linter.unusedVariables false
set_option linter.unusedSimpArgs false
namespace Go.Proofs.Ytcnmjfngaahhmaa
open Go.RowKit
def exL : List (List Int) := [[1], [1], [1]]
def exH : List Int := [1, 2, 6]
theorem ex_err : gErr exL exH = 0 := by decide +kernel
theorem ex_vals : fD exL 1 ≠ 0 ∧ fDn exL exH 1 = 1 ∧ fNm exL exH 1 0 = 3 ∧ rsL exL exH 1 / (rsG exL exH 1 : Int) = 14 ∧ fDn exL exH 1 / (rsG exL exH 1 : Int) = 1 := by decide +kernel
theorem ex_ok : GOk exL exH 1 := by
  obtain ⟨n, h1, h2⟩ := gok_of ex_err
  have e : (1 : Nat) = n := h2
  rw [e]
  exact h1
theorem mat_lit (W : World) (b0 b1 b2 b3 : Nat) (l0 : b3 < W.heap.size) (l1 : b0 < W.heap.size) (l2 : b1 < W.heap.size) (l3 : b2 < W.heap.size) (c0 : W.cell? ⟨b0, 0, none⟩ = some (.int .i64 1)) (c1 : W.cell? ⟨b1, 0, none⟩ = some (.int .i64 1)) (c2 : W.cell? ⟨b2, 0, none⟩ = some (.int .i64 1))
    (r0 : W.cell? ⟨b3, 0, none⟩ = some (.slice (some ⟨b0, 0, none⟩) 1 1)) (r1 : W.cell? ⟨b3, 1, none⟩ = some (.slice (some ⟨b1, 0, none⟩) 1 1)) (r2 : W.cell? ⟨b3, 2, none⟩ = some (.slice (some ⟨b2, 0, none⟩) 1 1)) : MatSlice W (some ⟨b3, 0, none⟩) exL := by
  have one : ∀ b, b < W.heap.size → W.cell? ⟨b, 0, none⟩ = some (.int .i64 1) → RowAt W (.slice (some ⟨b, 0, none⟩) 1 1) [1] := fun b hb hc => ⟨_, _, rfl, Nat.le_refl _, fun k hk => by
    have : k = 0 := by simp at hk; omega
    subst this
    exact ⟨b, 0, rfl, hb, hc⟩⟩
  intro k hk
  rcases (show k = 0 ∨ k = 1 ∨ k = 2 by simp [exL] at hk; omega) with rfl | rfl | rfl
  · exact ⟨b3, 0, _, rfl, l0, r0, one b0 l1 c0⟩
  · exact ⟨b3, 0, _, rfl, l0, r1, one b1 l2 c1⟩
  · exact ⟨b3, 0, _, rfl, l0, r2, one b2 l3 c2⟩
theorem int_lit (W : World) (b : Nat) (l0 : b < W.heap.size) (c0 : W.cell? ⟨b, 0, none⟩ = some (.int .i64 1)) (c1 : W.cell? ⟨b, 1, none⟩ = some (.int .i64 2)) (c2 : W.cell? ⟨b, 2, none⟩ = some (.int .i64 6)) : IntSlice W (some ⟨b, 0, none⟩) exH := by
  intro k hk
  rcases (show k = 0 ∨ k = 1 ∨ k = 2 by simp [exH] at hk; omega) with rfl | rfl | rfl
  · exact ⟨b, 0, rfl, l0, c0⟩
  · exact ⟨b, 0, rfl, l0, c1⟩
  · exact ⟨b, 0, rfl, l0, c2⟩
set_option maxRecDepth 100000 in
theorem c_gaugeWorks (w : World) : Calls Try.prog 7 #[] w fun e w' => e = .returned (.bool true) ∧ Below w.heap.size w w' := by
  have HF : Hid (∀ (w1 : World) a ah, MatSlice w1 a exL → IntSlice w1 ah exH → Calls Try.prog 8 #[.slice a 3 3, .slice ah 3 3] w1 (FitIs w1 1 1 (fNm exL exH 1))) := Lib.hid (fun w1 a ah h1 h2 => by
    have := c_Fit_ok a ah exL exH 1 3 3 w1 h1 h2 ex_err ex_ok ex_vals.1
    rw [ex_vals.2.1] at this
    exact this)
  have HR : Hid (∀ (w1 : World) a ah, MatSlice w1 a exL → IntSlice w1 ah exH → Calls Try.prog 9 #[.slice a 3 3, .slice ah 3 3] w1 fun e w' => e = .returned (.tuple #[.int .i64 14, .int .i64 1, .int .i64 0]) ∧ Below w1.heap.size w1 w') := Lib.hid (fun w1 a ah h1 h2 => by
    have := c_Res_ok a ah exL exH 1 3 3 w1 h1 h2 ex_err ex_ok ex_vals.1
    rw [ex_vals.2.2.2.1, ex_vals.2.2.2.2] at this
    exact this)
  have HN := Lib.hid ex_vals.2.2.1
  have hgen := sgen; have hgen2 := sgen2; have hgen3 := sgen3; go_enter Try.func7, Try.ntmps7
  go_upto_region 2 with (go_at_call 8; (with_reducible refine (HF.out _ _ _ (mat_lit _ w.heap.size (w.heap.size + 1) (w.heap.size + 1 + 1) (w.heap.size + 1 + 1 + 1) (by (try simp); (try omega)) (by (try simp); (try omega)) (by (try simp); (try omega)) (by (try simp); (try omega)) (by go_simp) (by go_simp) (by go_simp) (by go_simp) (by go_simp) (by go_simp)) (int_lit _ (w.heap.size + 1 + 1 + 1 + 1) (by (try simp); (try omega)) (by go_simp) (by go_simp) (by go_simp))).mono ?_); rintro e w1 ⟨g, c, rfl, hc, hg, hgl, hcl, hb⟩; have hz := hb.size; (try simp only [szA, szS, szD, szN] at hz); (try (refine bcB (n := w.heap.size) hb ?_; intro h_w_0 e_w_0 d_w_0 _ _)))
  have hA : FitAt (w1.alloc (Obj.cells #[Value.slice (some ⟨g, 0, none⟩) 1 c, Value.int .i64 1] 26)) w1.heap.size (.slice (some ⟨g, 0, none⟩) 1 c) 1 := ⟨by simp, by go_simp, by go_simp, fun o => by go_simp⟩
  have hG : (w1.alloc (Obj.cells #[Value.slice (some ⟨g, 0, none⟩) 1 c, Value.int .i64 1] 26)).cell? ⟨g, 0, none⟩ = some (.int .i64 3) := by
    have h5 := hcl 0 (by omega)
    clear hcl
    rw [HN.out] at h5
    go_simp
  have hb2 : Below w.heap.size w (w1.alloc (Obj.cells #[Value.slice (some ⟨g, 0, none⟩) 1 c, Value.int .i64 1] 26)) := by exact belz
  have hgl2 : g < (w1.alloc (Obj.cells #[Value.slice (some ⟨g, 0, none⟩) 1 c, Value.int .i64 1] 26)).heap.size := by simp; omega
  have hz2 := hb2.size
  clear hcl HF HN hb
  generalize w1.alloc (Obj.cells #[Value.slice (some ⟨g, 0, none⟩) 1 c, Value.int .i64 1] 26) = w2 at *
  go_upto_region 3 with (go_at_call 9; (with_reducible refine (HR.out _ _ _ (mat_lit _ w2.heap.size (w2.heap.size + 1) (w2.heap.size + 1 + 1) (w2.heap.size + 1 + 1 + 1) (by (try simp); (try omega)) (by (try simp); (try omega)) (by (try simp); (try omega)) (by (try simp); (try omega)) (by go_simp) (by go_simp) (by go_simp) (by go_simp) (by go_simp) (by go_simp)) (int_lit _ (w2.heap.size + 1 + 1 + 1 + 1) (by (try simp); (try omega)) (by go_simp) (by go_simp) (by go_simp))).mono ?_); rintro e w3 ⟨rfl, hb⟩; have hz := hb.size; (try simp only [szA, szS, szD, szN] at hz); (try (refine bcB (n := w2.heap.size) hb ?_; intro h_w2_0 e_w2_0 d_w2_0 _ _)))
  have hb23 : Below w2.heap.size w2 w3 := by exact belz
  have hA3 := hA.below (B := w2.heap.size) hA.lt hb23
  have hG3 : w3.cell? ⟨g, 0, none⟩ = some (.int .i64 3) := (hb23.cell (p := ⟨g, 0, none⟩) hgl2).trans hG
  have hb3 : Below w.heap.size w w3 := by exact belz
  have a0 := hA3.c0
  have a1 := hA3.c1
  have hc1 : (0 : Int) < (c : Int) := by omega
  clear hA hG hA3 HR hb
  go_wp2
  go_ret
  exact ⟨rfl, hb3⟩
end Go.Proofs.Ytcnmjfngaahhmaa
