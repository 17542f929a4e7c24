/- What package agree computes, in plain terms. No program in sight. -/
import Derived.Test.YtenmiilndiaopaaPlain1
import Derived.Test.YtenmiilndiaopaaPlainFe
import Derived.Test.YtenmiilndiaopaaPlainSpan2
set_option linter.unusedVariables false
set_option linter.unusedSimpArgs false
namespace Go.Proofs.Ytenmiilndiaopaa
def spsOne (s : Sp) : Int := spanErr s.lo s.hi
def spsErr (l : List Sp) : Int := if 40 < l.length then 2 else if l.length = 0 then 6 else fe spsOne l
theorem spsErr_some {l : List Sp} (h1 : l.length ≤ 40) (h2 : l.length ≠ 0) : spsErr l = fe spsOne l := by unfold spsErr; rw [if_neg (by omega), if_neg h2]
/-- What valid intervals are like. -/
structure SpsOk (l : List Sp) : Prop where
  len : l.length ≤ 40
  pos : 0 < l.length
  lo : ∀ k (h : k < l.length), -1000000000000000000 ≤ l[k].lo
  up : ∀ k (h : k < l.length), l[k].lo ≤ l[k].hi
  hi : ∀ k (h : k < l.length), l[k].hi ≤ 1000000000000000000
theorem spsOk_of {l : List Sp} (h : spsErr l = 0) : SpsOk l := by
  unfold spsErr at h
  by_cases h1 : 40 < l.length
  · rw [if_pos h1] at h; omega
  · rw [if_neg h1] at h
    by_cases h2 : l.length = 0
    · rw [if_pos h2] at h; omega
    · rw [if_neg h2] at h
      have hz := fe_zero h
      exact ⟨by omega, by omega, fun k hk => (spanErr_zero (hz k hk)).1, fun k hk => (spanErr_zero (hz k hk)).2.1, fun k hk => (spanErr_zero (hz k hk)).2.2⟩
def inSp (n : Int) (s : Sp) : Bool := decide (s.lo ≤ n) && decide (n ≤ s.hi)
/-- How many intervals contain a number. -/
def cov (l : List Sp) (n : Int) : Int := (l.countP (inSp n) : Int)
theorem cov_snoc (l : List Sp) (n : Int) (k : Nat) (h : k < l.length) : cov (l.take (k + 1)) n = if l[k].lo ≤ n ∧ n ≤ l[k].hi then cov (l.take k) n + 1 else cov (l.take k) n := by
  unfold cov
  rw [fe_take l k h, List.countP_append]
  by_cases g : l[k].lo ≤ n ∧ n ≤ l[k].hi
  · rw [if_pos g, List.countP_cons_of_pos (by simp [inSp, g])]; simp
  · rw [if_neg g, List.countP_cons_of_neg (by simp [inSp]; omega)]; simp
theorem cov_bd (l : List Sp) (n : Int) : 0 ≤ cov l n ∧ cov l n ≤ l.length := by
  unfold cov
  have := List.countP_le_length (p := inSp n) (l := l)
  omega
theorem cov_bdk (l : List Sp) (n : Int) (k : Nat) : 0 ≤ cov (l.take k) n ∧ cov (l.take k) n ≤ k := by
  have := cov_bd (l.take k) n
  have h2 := List.length_take_le k l
  omega
/-- How many intervals begin at a number. -/
def starts (l : List Sp) (n : Int) : Int := (l.countP (fun s => s.lo == n) : Int)
theorem starts_snoc (l : List Sp) (n : Int) (k : Nat) (h : k < l.length) : starts (l.take (k + 1)) n = if l[k].lo = n then starts (l.take k) n + 1 else starts (l.take k) n := by
  unfold starts
  rw [fe_take l k h, List.countP_append]
  by_cases g : l[k].lo = n
  · rw [if_pos g, List.countP_cons_of_pos (by simp [g])]; simp
  · rw [if_neg g, List.countP_cons_of_neg (by simp [g])]; simp
theorem starts_bdk (l : List Sp) (n : Int) (k : Nat) : 0 ≤ starts (l.take k) n ∧ starts (l.take k) n ≤ k := by
  unfold starts
  have := List.countP_le_length (p := fun s : Sp => s.lo == n) (l := l.take k)
  have h2 := List.length_take_le k l
  omega
/-- One round of the search for the greatest depth. -/
def bstStep (l : List Sp) (st : Int × Int × Int) (a : Sp) : Int × Int × Int := if st.2.2 < cov l a.lo ∨ (cov l a.lo = st.2.2 ∧ a.lo < st.1) then (a.lo, a.hi, cov l a.lo) else st
def bst (l : List Sp) (k : Nat) : Int × Int × Int := (l.take k).foldl (bstStep l) (0, 0, 0)
theorem bst_snoc (l : List Sp) (k : Nat) (h : k < l.length) : bst l (k + 1) = bstStep l (bst l k) l[k] := by
  unfold bst; rw [fe_take l k h, List.foldl_append]; rfl
def hiStep (lo h : Int) (a : Sp) : Int := if a.lo ≤ lo ∧ lo ≤ a.hi then min h a.hi else h
def mhi (l : List Sp) (lo hi : Int) (k : Nat) : Int := (l.take k).foldl (hiStep lo) hi
theorem mhi_snoc (l : List Sp) (lo hi : Int) (k : Nat) (h : k < l.length) : mhi l lo hi (k + 1) = hiStep lo (mhi l lo hi k) l[k] := by
  unfold mhi; rw [fe_take l k h, List.foldl_append]; rfl
/-- The interval of most, and its depth. -/
def mLo (l : List Sp) : Int := (bst l l.length).1
def mHi (l : List Sp) : Int := mhi l (mLo l) (bst l l.length).2.1 l.length
def mK (l : List Sp) : Int := (bst l l.length).2.2
/-- One number in the search for what is in enough intervals. -/
def wStep (l : List Sp) (need : Int) (st : Int × Int × Bool) (n : Int) : Int × Int × Bool :=
  if cov l n < need then st else if st.2.2 = true then (min st.1 n, max st.2.1 n, true) else (n, n, true)
def wTwo (l : List Sp) (need : Int) (st : Int × Int × Bool) (s : Sp) : Int × Int × Bool := wStep l need (wStep l need st s.lo) s.hi
def wst (l : List Sp) (need : Int) (k : Nat) : Int × Int × Bool := (l.take k).foldl (wTwo l need) (0, 0, false)
theorem wst_snoc (l : List Sp) (need : Int) (k : Nat) (h : k < l.length) : wst l need (k + 1) = wTwo l need (wst l need k) l[k] := by
  unfold wst; rw [fe_take l k h, List.foldl_append]; rfl
/-- Does an interval not meet another one? -/
def outB (lo hi : Int) (s : Sp) : Bool := decide (s.hi < lo) || decide (hi < s.lo)
def outsFrom (lo hi : Int) : Nat → List Sp → List Int
  | _, [] => []
  | n, s :: l => if outB lo hi s = true then (n : Int) :: outsFrom lo hi (n + 1) l else outsFrom lo hi (n + 1) l
def outs (lo hi : Int) (l : List Sp) : List Int := outsFrom lo hi 0 l
theorem outsFrom_append (lo hi : Int) : ∀ (n : Nat) (l m : List Sp), outsFrom lo hi n (l ++ m) = outsFrom lo hi n l ++ outsFrom lo hi (n + l.length) m
  | n, [], m => by simp [outsFrom]
  | n, s :: l, m => by
    simp only [List.cons_append, outsFrom, outsFrom_append lo hi (n + 1) l m, List.length_cons]
    rw [show n + 1 + l.length = n + (l.length + 1) by omega]
    split <;> rfl
theorem outs_snoc (lo hi : Int) (l : List Sp) (k : Nat) (h : k < l.length) : outs lo hi (l.take (k + 1)) = if outB lo hi l[k] = true then outs lo hi (l.take k) ++ [(k : Int)] else outs lo hi (l.take k) := by
  unfold outs
  rw [fe_take l k h, outsFrom_append, List.length_take, Nat.min_eq_left (by omega)]
  simp only [outsFrom, Nat.zero_add]
  split <;> simp
theorem outs_le (lo hi : Int) : ∀ (n : Nat) (l : List Sp), (outsFrom lo hi n l).length ≤ l.length
  | _, [] => Nat.le_refl _
  | n, s :: l => by
    have := outs_le lo hi (n + 1) l
    unfold outsFrom
    split <;> simp <;> omega
theorem outs_lek (lo hi : Int) (l : List Sp) (k : Nat) : (outs lo hi (l.take k)).length ≤ k := by
  have h1 := outs_le lo hi 0 (l.take k)
  have h2 := List.length_take_le k l
  unfold outs; omega
theorem outs_at (lo hi : Int) (l : List Sp) (k : Nat) (h : k < l.length) (g : outB lo hi l[k] = true) : ∃ hh : (outs lo hi (l.take k)).length < (outs lo hi l).length, (outs lo hi l)[(outs lo hi (l.take k)).length] = (k : Int) := by
  have e : outs lo hi l = outs lo hi (l.take k) ++ (k : Int) :: outsFrom lo hi (k + 1) (l.drop (k + 1)) := by
    have h1 : l = l.take k ++ l[k] :: l.drop (k + 1) := by rw [List.getElem_cons_drop, List.take_append_drop]
    have h2 : outs lo hi l = outsFrom lo hi 0 (l.take k ++ l[k] :: l.drop (k + 1)) := by rw [← h1]; rfl
    rw [h2, outsFrom_append, List.length_take, Nat.min_eq_left (by omega)]
    unfold outs
    congr 1
    rw [show outsFrom lo hi (0 + k) (l[k] :: l.drop (k + 1)) = if outB lo hi l[k] = true then ((0 + k : Nat) : Int) :: outsFrom lo hi (0 + k + 1) (l.drop (k + 1)) else outsFrom lo hi (0 + k + 1) (l.drop (k + 1)) from rfl, if_pos g, Nat.zero_add]
  refine ⟨by rw [e]; simp, ?_⟩
  simp only [e]
  rw [List.getElem_append_right (Nat.le_refl _)]
  simp
end Go.Proofs.Ytenmiilndiaopaa
