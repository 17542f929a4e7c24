/- What chron.Tightest tells of two events; the fact sChron. -/
import Derived.Test.YtdpddidfdifbhaaWalkTig
import Derived.Test.YtdpddidfdifbhaaPlainTop
set_option linter.unusedVariables false
set_option linter.unusedSimpArgs false
namespace Go.Proofs.Ytdpddidfdifbhaa
open Go.RowKit
theorem chErr_ok {n : Nat} {l : List Bd} (hv : BdOk n l) : chErr n l = 0 := by
  unfold chErr
  have h1 := hv.n1
  have h2 := hv.n12
  have h3 := hv.len
  rw [if_neg (by omega), if_neg (by omega)]
  have key : ∀ x ∈ l, bdOne n x = 0 := by
    intro x hx
    have a1 := hv.a0 x hx
    have a2 := hv.an x hx
    have a3 := hv.b0 x hx
    have a4 := hv.bn x hx
    have a5 := hv.ne x hx
    have a6 := hv.lo x hx
    have a7 := hv.le x hx
    have a8 := hv.hi x hx
    unfold bdOne
    repeat' split
    all_goals first | rfl | omega
  have all : ∀ k, k ≤ l.length → fe (bdOne n) (l.take k) = 0 := by
    intro k
    induction k with
    | zero => intro _; rfl
    | succ k ih =>
      intro hk
      rw [fe_snoc _ l k (by omega), if_pos (ih (by omega))]
      exact key _ (List.getElem_mem _)
  have := all l.length (Nat.le_refl _)
  rwa [List.take_of_length_le (Nat.le_refl _)] at this
def TigIK (n : Nat) (l : List Bd) (i k : Nat) (w : World) (e : Ending) (w' : World) : Prop := ∃ b1 off1 b2 off2 rc cap', e = .returned (.tuple #[.slice (some ⟨b1, off1, none⟩) n cap', .int .i64 0]) ∧ n ≤ cap' ∧ b1 < w'.heap.size ∧ w'.cell? ⟨b1, off1 + i, none⟩ = some (.slice (some ⟨b2, off2, none⟩) n rc) ∧ n ≤ rc ∧ b2 < w'.heap.size ∧
  w'.cell? ⟨b2, off2 + k * 2, none⟩ = some (.int .i64 (-fw l n k i)) ∧ w'.cell? ⟨b2, off2 + k * 2 + 1, none⟩ = some (.int .i64 (fw l n i k)) ∧ Below w.heap.size w w'
theorem c_TigIK (n : Nat) (a : Option Addr) (len cap : Nat) (l : List Bd) (i k : Nat) (w : World) (hlen : l.length = len) (hc : len ≤ cap) (hv : BdOk n l) (hok : FwOk n l) (hs : BdSlice w a l) (hi : i < n) (hk : k < n) :
    Calls Try.prog 28 #[.int .i64 n, .slice a len cap] w (TigIK n l i k w) := by
  subst hlen
  refine (c_Tight_ok n a cap l w hc (chErr_ok hv) hv hok hs).mono ?_
  rintro e w' ⟨a', cap', he, hcap, hm, hb⟩
  obtain ⟨b1, off1, ra, rc, ha, hl, hcl, hrl, hsl⟩ := hm i (by simpa [tgt] using hi)
  have hrow : (tgt n (fw l n))[i]'(by simpa [tgt] using hi) = rowT n (fw l n) i := by simp [tgt]
  rw [hrow, rowT_length] at hcl hrl
  rw [hrow] at hsl
  obtain ⟨b2, off2, hra, hl2, d0, d1⟩ := hsl k (by rw [rowT_length]; exact hk)
  subst ha hra
  refine ⟨b1, off1, b2, off2, rc, cap', he, hcap, hl, hcl, hrl, hl2, ?_, ?_, hb⟩
  · rw [d0]; simp [rowT]
  · rw [d1]; simp [rowT]
theorem c_TigNo (n : Nat) (a : Option Addr) (len cap : Nat) (l : List Bd) (w : World) (hlen : l.length = len) (hc : len ≤ cap) (hv : BdOk n l) (hno : ¬ FwOk n l) (hs : BdSlice w a l) :
    Calls Try.prog 28 #[.int .i64 n, .slice a len cap] w fun e w' => e = .returned (.tuple #[.slice none 0 0, .int .i64 10]) ∧ Below w.heap.size w w' := by
  subst hlen
  exact c_Tight_no n a cap l w hc (chErr_ok hv) hv hno hs
def scL : List Bd := [⟨0, 1, 10, 20⟩]
theorem sc_ok : BdOk 2 scL := by
  obtain ⟨m, hm, h⟩ := bdOk_of (show chErr 2 scL = 0 by decide)
  obtain rfl : m = 2 := by omega
  exact h
theorem sc_fw : FwOk 2 scL := by
  have h : ∀ k, k < 2 → ∀ i, i < 2 → 0 ≤ fw scL (k + 1) i i := by decide
  exact h
theorem c_sc (b : Nat) (W : World) (h : b < W.heap.size ∧ W.cell? ⟨b, 0, none⟩ = some (.int .i64 0) ∧ W.cell? ⟨b, 1, none⟩ = some (.int .i64 1) ∧ W.cell? ⟨b, 2, none⟩ = some (.int .i64 10) ∧ W.cell? ⟨b, 3, none⟩ = some (.int .i64 20)) :
    Calls Try.prog 28 #[.int .i64 2, .slice (some ⟨b, 0, none⟩) 1 1] W fun e w' => ∃ b1 off1 b2 off2 rc cap', e = .returned (.tuple #[.slice (some ⟨b1, off1, none⟩) 2 cap', .int .i64 0]) ∧ 2 ≤ cap' ∧ b1 < w'.heap.size ∧ w'.cell? ⟨b1, off1, none⟩ = some (.slice (some ⟨b2, off2, none⟩) 2 rc) ∧ 2 ≤ rc ∧ b2 < w'.heap.size ∧ w'.cell? ⟨b2, off2 + 2, none⟩ = some (.int .i64 10) ∧ w'.cell? ⟨b2, off2 + 2 + 1, none⟩ = some (.int .i64 20) ∧ Below W.heap.size W w' := by
  obtain ⟨h0, c0, c1, c2, c3⟩ := h
  have hs : BdSlice W (some ⟨b, 0, none⟩) scL := by
    intro k hk
    have hk' : k < 1 := hk
    match k, hk' with
    | 0, _ => exact ⟨b, 0, rfl, h0, c0, c1, c2, c3⟩
  refine (c_TigIK 2 (some ⟨b, 0, none⟩) 1 1 scL 0 1 W rfl (by omega) sc_ok sc_fw hs (by omega) (by omega)).mono ?_
  rintro e w' ⟨b1, off1, b2, off2, rc, cap', h1, h2, h3, h4, h5, h6, h7, h8, h9⟩
  exact ⟨b1, off1, b2, off2, rc, cap', h1, h2, h3, h4, h5, h6, h7, h8, h9⟩
theorem c_sChron (w : World) : Calls Try.prog 45 #[] w fun e w' => e = .returned (.bool true) ∧ Below w.heap.size w w' := by
  have hgen := sgen; have hgen2 := sgen2; have hgen3 := sgen3; go_enter Try.func45, Try.ntmps45
  go_wp2_with fail
  refine (c_sc w.heap.size _ ?_).mono ?_
  · refine ⟨?_, ?_, ?_, ?_, ?_⟩ <;> go_simp
  rintro e w2 ⟨b1, off1, b2, off2, rc, cap', rfl, h2, hl1, hc1, h5, hl2, d0, d1, hb2⟩
  have hbw2 : Below w.heap.size w w2 := by (repeat' (first | (with_reducible exact Below.refl _ _) | (with_reducible assumption) | (with_reducible refine Below.call ?_ ?_ (by with_reducible assumption)) | (with_reducible refine Below.alloc ?_ ?_ _) | (with_reducible refine Below.drew ?_) | (with_reducible refine below_drewN ?_ _) | (with_reducible refine Below.setCell ?_ ?_ _) | (with_reducible exact Nat.le_refl _) | omega | (simp only [World.size_alloc, World.size_setCell, World.size_drew, World.heap_drewN] at *; omega)))
  go_wp2_with fail
  go_ret
  refine ⟨rfl, ?_⟩
  (repeat' (first | (with_reducible exact Below.refl _ _) | (with_reducible assumption) | (with_reducible refine Below.call ?_ ?_ (by with_reducible assumption)) | (with_reducible refine Below.alloc ?_ ?_ _) | (with_reducible refine Below.drew ?_) | (with_reducible refine below_drewN ?_ _) | (with_reducible refine Below.setCell ?_ ?_ _) | (with_reducible exact Nat.le_refl _) | omega | (simp only [World.size_alloc, World.size_setCell, World.size_drew, World.heap_drewN] at *; omega)))
end Go.Proofs.Ytdpddidfdifbhaa
