/- What Fits tells. No program in sight. -/
import Derived.Test.YtdpddidfdifbhaaPlainChr
set_option linter.unusedVariables false
set_option linter.unusedSimpArgs false
namespace Go.Proofs.Ytdpddidfdifbhaa
def dayAt (ds : List Int) (i : Int) : Int := ds.getD i.toNat 0
def fitOne (ds : List Int) (c : Bd) : Bool := decide (c.lo ≤ dayAt ds c.b - dayAt ds c.a) && decide (dayAt ds c.b - dayAt ds c.a ≤ c.hi)
def fitsB (ds : List Int) (l : List Bd) : Bool := l.all (fitOne ds)
theorem fits_snoc (ds : List Int) (l : List Bd) (k : Nat) (h : k < l.length) : fitsB ds (l.take (k + 1)) = (fitsB ds (l.take k) && fitOne ds l[k]) := by
  unfold fitsB; rw [fe_take l k h, List.all_append]; simp
theorem fits_not (ds : List Int) (l : List Bd) (k : Nat) (h : k < l.length) (hf : fitOne ds l[k] = false) : fitsB ds l = false := by
  unfold fitsB
  rw [List.all_eq_false]
  exact ⟨l[k], List.getElem_mem h, by simp [hf]⟩
def bey (d : Int) : Bool := decide (d < -1000000000) || decide (1000000000 < d)
def anyBey (ds : List Int) : Bool := ds.any bey
theorem bey_snoc (ds : List Int) (k : Nat) (h : k < ds.length) : anyBey (ds.take (k + 1)) = (anyBey (ds.take k) || bey ds[k]) := by
  unfold anyBey; rw [fe_take ds k h, List.any_append]; simp
theorem bey_at (ds : List Int) (k : Nat) (h : k < ds.length) (hb : bey ds[k] = true) : anyBey ds = true := by
  unfold anyBey; rw [List.any_eq_true]; exact ⟨ds[k], List.getElem_mem h, hb⟩
theorem bey_none {ds : List Int} (h : anyBey ds = false) : ∀ k (hk : k < ds.length), -1000000000 ≤ ds[k] ∧ ds[k] ≤ 1000000000 := by
  intro k hk
  unfold anyBey at h
  rw [List.any_eq_false] at h
  have := h ds[k] (List.getElem_mem hk)
  simp [bey] at this
  omega
theorem dayAt_nat (ds : List Int) (i : Nat) (h : i < ds.length) : dayAt ds i = ds[i] := by simp [dayAt, h]
end Go.Proofs.Ytdpddidfdifbhaa
