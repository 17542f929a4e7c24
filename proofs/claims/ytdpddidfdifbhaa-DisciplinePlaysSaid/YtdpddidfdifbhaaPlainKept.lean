/- Readings that are heard give intervals that are valid. No program in sight. -/
import Derived.Test.YtdpddidfdifbhaaPlainKeep
import Derived.Test.YtdpddidfdifbhaaPlainFe
import Derived.Test.YtdpddidfdifbhaaPlainAgr
set_option linter.unusedVariables false
set_option linter.unusedSimpArgs false
namespace Go.Proofs.Ytdpddidfdifbhaa
def rdErr (d k : Int) (x : Rd) : Int := mvErr d x.tk x.lo x.hi k
def rdMv (d k : Int) (x : Rd) : Sp := ⟨mvLo d x.tk x.lo x.hi k, mvHi d x.tk x.lo x.hi k⟩
theorem fe_of_all {α : Type} {f : α → Int} {l : List α} (h : ∀ x ∈ l, f x = 0) : fe f l = 0 := by
  have key : ∀ k, k ≤ l.length → fe f (l.take k) = 0 := by
    intro k
    induction k with
    | zero => intro _; rfl
    | succ k ih =>
      intro hk
      rw [fe_snoc f l k (by omega), if_pos (ih (by omega))]
      exact h _ (List.getElem_mem _)
  have := key l.length (Nat.le_refl _)
  rwa [List.take_of_length_le (Nat.le_refl _)] at this
/-- What a keeper keeps: a source that is heard has told a valid reading, not later than the last one. -/
def KOk (n : Nat) (last : Int) (R : Nat → Rd) (H : Nat → Bool) : Prop := ∀ k, k < n → H k = true → readErr (R k).tk (R k).lo (R k).hi = 0 ∧ (R k).tk ≤ last
theorem kOk_none (n : Nat) (last : Int) (R : Nat → Rd) : KOk n last R (fun _ => false) := fun k _ h => by cases h
theorem kOk_upd {n : Nat} {last : Int} {R : Nat → Rd} {H : Nat → Bool} (h : KOk n last R H) (k : Nat) (x : Rd) (hr : readErr x.tk x.lo x.hi = 0) (hl : last ≤ x.tk) : KOk n x.tk (upd R k x) (upd H k true) := by
  intro j hj hh
  by_cases e : j = k
  · subst e; rw [upd_same]; exact ⟨hr, Int.le_refl _⟩
  · rw [upd_ne R x e]; rw [upd_ne H true e] at hh
    obtain ⟨a, b⟩ := h j hj hh
    exact ⟨a, by omega⟩
theorem kept_fe {n : Nat} {d last q : Int} {R : Nat → Rd} {H : Nat → Bool} (h : KOk n last R H) (hd : driftB d = true) (hq : tickB q = true) (hl : last ≤ q) : fe (rdErr d q) (kept R H n) = 0 := by
  refine fe_of_all (fun x hx => ?_)
  obtain ⟨k, hk, hh, rfl⟩ := kept_mem hx
  obtain ⟨a, b⟩ := h k hk hh
  unfold rdErr mvErr
  rw [if_neg (by simp [a]), if_neg (by simp [hd]), if_neg (by simp [hq]), if_neg (by omega)]
theorem kept_sps {n : Nat} {d last q : Int} {R : Nat → Rd} {H : Nat → Bool} (h : KOk n last R H) (hd : driftB d = true) (hq : tickB q = true) (hl : last ≤ q) (hn : n ≤ 40) (h0 : 0 < heardN H n) : spsErr ((kept R H n).map (rdMv d q)) = 0 := by
  have hlen := heardN_kept R H n
  have hle := heardN_le H n
  have hz := fe_zero (kept_fe h hd hq hl)
  rw [spsErr_some (by rw [List.length_map]; omega) (by rw [List.length_map]; omega)]
  refine fe_of_all (fun s hs => ?_)
  obtain ⟨x, hx, rfl⟩ := List.mem_map.1 hs
  obtain ⟨k, hk, hh, rfl⟩ := kept_mem hx
  obtain ⟨a, b⟩ := h k hk hh
  obtain ⟨r1, r2, r3, r4, r5⟩ := readErr_zero a
  obtain ⟨d1, d2⟩ := of_driftB hd
  obtain ⟨q1, q2⟩ := of_tickB hq
  obtain ⟨l1, l2, l3⟩ := el_bd d1 d2 (show 0 ≤ q - (R k).tk by omega) (by omega)
  have e0 : mvErr d (R k).tk (R k).lo (R k).hi q = 0 := by
    unfold mvErr
    rw [if_neg (by simp [a]), if_neg (by simp [hd]), if_neg (by simp [hq]), if_neg (by omega)]
  obtain ⟨e1, e2⟩ := mv_of.2 e0
  show spanErr (mvLo d (R k).tk (R k).lo (R k).hi q) (mvHi d (R k).tk (R k).lo (R k).hi q) = 0
  rw [e1, e2]
  unfold spanErr
  repeat' split
  all_goals first | rfl | omega
end Go.Proofs.Ytdpddidfdifbhaa
