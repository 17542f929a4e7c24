/- The least and the greatest product. No program in sight. -/
import Derived.Test.YtpgoahbmeedghaaPlainIv
import Derived.Test.YtpgoahbmeedghaaPlainWide
set_option linter.unusedVariables false
set_option linter.unusedSimpArgs false
namespace Go.Proofs.Ytpgoahbmeedghaa
def two (a b : Int) (i : Nat) : Int := if i = 0 then a else b
theorem two_cases (a b : Int) (i : Nat) : two a b i = a ∨ two a b i = b := by unfold two; split; exact .inl rfl; exact .inr rfl
structure MulAcc (al ah bl bh s t : Int) (n : Nat) (lw hg : Bool) : Prop where
  fine : ∀ i k, i < 2 → k < 2 → 2 * i + k < n → -1000000000000000000 ≤ two al ah i * two bl bh k ∧ two al ah i * two bl bh k ≤ 1000000000000000000
  low : ∀ i k, i < 2 → k < 2 → 2 * i + k < n → two al ah i * two bl bh k = s → lw = true
  high : ∀ i k, i < 2 → k < 2 → 2 * i + k < n → two al ah i * two bl bh k = t → hg = true
theorem mulAcc_zero (al ah bl bh s t : Int) (lw hg : Bool) : MulAcc al ah bl bh s t 0 lw hg := ⟨fun _ _ _ _ h => by omega, fun _ _ _ _ h => by omega, fun _ _ _ _ h => by omega⟩
theorem mulAcc_step {al ah bl bh s t : Int} {i k : Nat} {lw hg : Bool} (h : MulAcc al ah bl bh s t (2 * i + k) lw hg) (hk : k < 2)
    (f1 : -1000000000000000000 ≤ two al ah i * two bl bh k) (f2 : two al ah i * two bl bh k ≤ 1000000000000000000) (lw' hg' : Bool)
    (h1 : lw = true → lw' = true) (h2 : two al ah i * two bl bh k = s → lw' = true) (h3 : hg = true → hg' = true) (h4 : two al ah i * two bl bh k = t → hg' = true) :
    MulAcc al ah bl bh s t (2 * i + (k + 1)) lw' hg' := by
  refine ⟨fun i' k' hi' hk' hn => ?_, fun i' k' hi' hk' hn e => ?_, fun i' k' hi' hk' hn e => ?_⟩
  all_goals
    by_cases q : 2 * i' + k' < 2 * i + k
    · first | exact h.fine i' k' hi' hk' q | exact h1 (h.low i' k' hi' hk' q e) | exact h3 (h.high i' k' hi' hk' q e)
    · obtain rfl : k' = k := by omega
      obtain rfl : i' = i := by omega
      first | exact ⟨f1, f2⟩ | exact h2 e | exact h4 e
def clipI (x : Int) : Int := if LIM ≤ x then LIM else if x ≤ -LIM then -LIM else x
theorem clip_in {x : Int} (h1 : -1000000000000000000 ≤ x) (h2 : x ≤ 1000000000000000000) : clipI x = x := by
  unfold clipI LIM; rw [if_neg (by omega), if_neg (by omega)]
theorem clip_of {x : Int} (h1 : -1000000000000000000 ≤ clipI x) (h2 : clipI x ≤ 1000000000000000000) : clipI x = x := by
  unfold clipI LIM at *
  split at h1
  · rename_i q; rw [if_pos q] at h2; omega
  · rename_i q
    rw [if_neg q] at h2 ⊢
    split at h1
    · rename_i q2; omega
    · rename_i q2; rw [if_neg q2]
theorem rat_one (a b : Int) : ratLo a b 1 = clipI (a * b) ∧ ratHi a b 1 = clipI (a * b) := by
  have hL : LIM = 1000000000000000001 := rfl
  have hd : ∀ P, qDn P 1 = if LIM ≤ P then LIM else P := fun P => by unfold qDn; rw [Int.ediv_one]
  have hu : ∀ P, qUp P 1 = if LIM ≤ P then LIM else P := fun P => by unfold qUp; rw [Int.ediv_one, Int.emod_one]; simp
  have hn : ∀ x : Int, 0 ≤ x → clipI x = if LIM ≤ x then LIM else x := fun x hx => by
    unfold clipI
    split
    · rfl
    · rw [if_neg (by omega)]
  have hm : ∀ x : Int, x ≤ 0 → clipI x = -(if LIM ≤ -x then LIM else -x) := fun x hx => by
    unfold clipI
    rw [if_neg (by omega)]
    by_cases q : x ≤ -LIM
    · rw [if_pos q, if_pos (by omega)]
    · rw [if_neg q, if_neg (by omega)]; omega
  by_cases ha : a < 0 <;> by_cases hb : b < 0
  · have hneg : negB a b = false := by unfold negB; simp [ha, hb]
    have hp : absI a * absI b = a * b := by rw [absI_neg ha, absI_neg hb, Int.neg_mul_neg]
    have h0 : 0 ≤ a * b := by rw [← hp]; exact Int.mul_nonneg (absI_nn _) (absI_nn _)
    rw [ratLo_pos hneg, ratHi_pos hneg, hp, hd, hu, hn _ h0]; exact ⟨rfl, rfl⟩
  · have hneg : negB a b = true := by unfold negB; simp [ha, hb]
    have hp : absI a * absI b = -(a * b) := by rw [absI_neg ha, absI_pos hb, Int.neg_mul]
    have h0 : a * b ≤ 0 := by have := Int.mul_nonneg (absI_nn a) (absI_nn b); omega
    rw [ratLo_neg hneg, ratHi_neg hneg, hp, hd, hu, hm _ h0]; exact ⟨rfl, rfl⟩
  · have hneg : negB a b = true := by unfold negB; simp [ha, hb]
    have hp : absI a * absI b = -(a * b) := by rw [absI_pos ha, absI_neg hb, Int.mul_neg]
    have h0 : a * b ≤ 0 := by have := Int.mul_nonneg (absI_nn a) (absI_nn b); omega
    rw [ratLo_neg hneg, ratHi_neg hneg, hp, hd, hu, hm _ h0]; exact ⟨rfl, rfl⟩
  · have hneg : negB a b = false := by unfold negB; simp [ha, hb]
    have hp : absI a * absI b = a * b := by rw [absI_pos ha, absI_pos hb]
    have h0 : 0 ≤ a * b := by rw [← hp]; exact Int.mul_nonneg (absI_nn _) (absI_nn _)
    rw [ratLo_pos hneg, ratHi_pos hneg, hp, hd, hu, hn _ h0]; exact ⟨rfl, rfl⟩
end Go.Proofs.Ytpgoahbmeedghaa
