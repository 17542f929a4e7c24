/- What package interval computes, in plain terms. No program in sight. Numbers of six digits of the base 10^9. No program in sight. The least and the greatest product. No program in sight. The least interval of quotients. No program in sight. The least interval around scaled numbers. No program in sight. -/
import Derived.Test.YtcgnhnmigmdalaaGreatDoorPlA
set_option linter.unusedVariables false
set_option linter.unusedSimpArgs false
namespace Go.Proofs.YtcgnhnmigmdalaaGreatDoor
section
def LIM : Int := 1000000000000000001
def absI (a : Int) : Int := if a < 0 then -a else a
theorem absI_nn (a : Int) : 0 ≤ absI a := by unfold absI; split <;> omega
theorem absI_neg {a : Int} (h : a < 0) : absI a = -a := by unfold absI; rw [if_pos h]
theorem absI_pos {a : Int} (h : ¬ a < 0) : absI a = a := by unfold absI; rw [if_neg h]
theorem absI_bd {a m : Int} (h1 : -m ≤ a) (h2 : a ≤ m) : absI a ≤ m := by unfold absI; split <;> omega
/-- The quotient, clipped, rounded down and up. -/
def qDn (P d : Int) : Int := if LIM ≤ P / d then LIM else P / d
def qUp (P d : Int) : Int := if LIM ≤ P / d then LIM else if 0 < P % d then P / d + 1 else P / d
def negB (a b : Int) : Bool := decide (a < 0) != decide (b < 0)
def ratLo (a b d : Int) : Int := if negB a b = true then -(qUp (absI a * absI b) d) else qDn (absI a * absI b) d
def ratHi (a b d : Int) : Int := if negB a b = true then -(qDn (absI a * absI b) d) else qUp (absI a * absI b) d
theorem ratLo_neg {a b d : Int} (h : negB a b = true) : ratLo a b d = -(qUp (absI a * absI b) d) := by unfold ratLo; rw [if_pos h]
theorem ratHi_neg {a b d : Int} (h : negB a b = true) : ratHi a b d = -(qDn (absI a * absI b) d) := by unfold ratHi; rw [if_pos h]
theorem ratLo_pos {a b d : Int} (h : negB a b = false) : ratLo a b d = qDn (absI a * absI b) d := by unfold ratLo; rw [if_neg (by rw [h]; simp)]
theorem ratHi_pos {a b d : Int} (h : negB a b = false) : ratHi a b d = qUp (absI a * absI b) d := by unfold ratHi; rw [if_neg (by rw [h]; simp)]
theorem qDn_bd {P d : Int} (hP : 0 ≤ P) (hd : 1 ≤ d) : 0 ≤ qDn P d ∧ qDn P d ≤ LIM := by
  have h := Int.ediv_nonneg hP (show 0 ≤ d by omega)
  unfold qDn; split <;> (unfold LIM at *; omega)
theorem qUp_bd {P d : Int} (hP : 0 ≤ P) (hd : 1 ≤ d) : 0 ≤ qUp P d ∧ qUp P d ≤ LIM := by
  have h := Int.ediv_nonneg hP (show 0 ≤ d by omega)
  unfold qUp; repeat' split
  all_goals (unfold LIM at *; omega)
end
section
def pw : Nat → Int
  | 0 => 1
  | 1 => 1000000000
  | 2 => 1000000000000000000
  | 3 => 1000000000000000000000000000
  | 4 => 1000000000000000000000000000000000000
  | 5 => 1000000000000000000000000000000000000000000000
  | _ => 1000000000000000000000000000000000000000000000000000000
def stD (d : Nat → Int) (j : Nat) (v : Int) : Nat → Int := fun x => if x = j then v else d x
def val6 (d : Nat → Int) : Int := d 0 + d 1 * 1000000000 + d 2 * 1000000000000000000 + d 3 * 1000000000000000000000000000 + d 4 * 1000000000000000000000000000000000000 + d 5 * 1000000000000000000000000000000000000000000000
structure Dig (d : Nat → Int) : Prop where
  lo : ∀ i, i < 6 → 0 ≤ d i
  hi : ∀ i, i < 6 → d i < 1000000000
theorem lt6 {j : Nat} (h : j < 6) : j = 0 ∨ j = 1 ∨ j = 2 ∨ j = 3 ∨ j = 4 ∨ j = 5 := by omega
theorem val6_set (d : Nat → Int) (j : Nat) (v : Int) (h : j < 6) : val6 (stD d j v) = val6 d + (v - d j) * pw j := by
  rcases lt6 h with rfl | rfl | rfl | rfl | rfl | rfl <;> (simp [val6, stD, pw]; omega)
theorem Dig.set {d : Nat → Int} (h : Dig d) (j : Nat) (v : Int) (h0 : 0 ≤ v) (h1 : v < 1000000000) : Dig (stD d j v) :=
  ⟨fun i hi => by unfold stD; split; exact h0; exact h.lo i hi, fun i hi => by unfold stD; split; exact h1; exact h.hi i hi⟩
theorem dig_zero : Dig (fun _ => 0) := ⟨fun _ _ => Int.le_refl _, fun _ _ => by omega⟩
theorem val6_zero : val6 (fun _ => 0) = 0 := by simp [val6]
theorem val6_nn {d : Nat → Int} (h : Dig d) : 0 ≤ val6 d := by
  have h0 := h.lo 0 (by omega); have h1 := h.lo 1 (by omega); have h2 := h.lo 2 (by omega); have h3 := h.lo 3 (by omega); have h4 := h.lo 4 (by omega); have h5 := h.lo 5 (by omega)
  unfold val6; omega
theorem val6_lt {d d' : Nat → Int} (h : Dig d) (h' : Dig d') (i : Nat) (hi : i < 6) (he : ∀ j, i < j → j < 6 → d j = d' j) (hl : d i < d' i) : val6 d < val6 d' := by
  have l0 := h.lo 0 (by omega); have l1 := h.lo 1 (by omega); have l2 := h.lo 2 (by omega); have l3 := h.lo 3 (by omega); have l4 := h.lo 4 (by omega); have l5 := h.lo 5 (by omega)
  have u0 := h.hi 0 (by omega); have u1 := h.hi 1 (by omega); have u2 := h.hi 2 (by omega); have u3 := h.hi 3 (by omega); have u4 := h.hi 4 (by omega); have u5 := h.hi 5 (by omega)
  have m0 := h'.lo 0 (by omega); have m1 := h'.lo 1 (by omega); have m2 := h'.lo 2 (by omega); have m3 := h'.lo 3 (by omega); have m4 := h'.lo 4 (by omega); have m5 := h'.lo 5 (by omega)
  unfold val6
  rcases lt6 hi with rfl | rfl | rfl | rfl | rfl | rfl
  · rw [he 1 (by omega) (by omega), he 2 (by omega) (by omega), he 3 (by omega) (by omega), he 4 (by omega) (by omega), he 5 (by omega) (by omega)]; omega
  · rw [he 2 (by omega) (by omega), he 3 (by omega) (by omega), he 4 (by omega) (by omega), he 5 (by omega) (by omega)]; omega
  · rw [he 3 (by omega) (by omega), he 4 (by omega) (by omega), he 5 (by omega) (by omega)]; omega
  · rw [he 4 (by omega) (by omega), he 5 (by omega) (by omega)]; omega
  · rw [he 5 (by omega) (by omega)]; omega
  · omega
theorem val6_same {d d' : Nat → Int} (he : ∀ j, j < 6 → d j = d' j) : val6 d = val6 d' := by
  unfold val6; rw [he 0 (by omega), he 1 (by omega), he 2 (by omega), he 3 (by omega), he 4 (by omega), he 5 (by omega)]
theorem val6_all0 {d : Nat → Int} (he : ∀ j, j < 6 → d j = 0) : val6 d = 0 := by
  rw [val6_same (d' := fun _ => 0) he, val6_zero]
theorem val6_pos {d : Nat → Int} (h : Dig d) (i : Nat) (hi : i < 6) (hz : d i ≠ 0) : 0 < val6 d := by
  have l0 := h.lo 0 (by omega); have l1 := h.lo 1 (by omega); have l2 := h.lo 2 (by omega); have l3 := h.lo 3 (by omega); have l4 := h.lo 4 (by omega); have l5 := h.lo 5 (by omega)
  unfold val6
  rcases lt6 hi with rfl | rfl | rfl | rfl | rfl | rfl <;> omega
/-- The sign and the number. -/
def wsgn (neg : Bool) (x : Int) : Int := if neg = true then -x else x
theorem wsgn_t (x : Int) : wsgn true x = -x := rfl
theorem wsgn_f (x : Int) : wsgn false x = x := rfl
def sgW (neg : Bool) (d : Nat → Int) : Int := if val6 d = 0 then 0 else if neg = true then -1 else 1
def cmpI (x y : Int) : Int := if x < y then -1 else if x = y then 0 else 1
theorem cmpI_lt {x y : Int} (h : x < y) : cmpI x y = -1 := by unfold cmpI; rw [if_pos h]
theorem cmpI_eq {x y : Int} (h : x = y) : cmpI x y = 0 := by unfold cmpI; rw [if_neg (by omega), if_pos h]
theorem cmpI_gt {x y : Int} (h : y < x) : cmpI x y = 1 := by unfold cmpI; rw [if_neg (by omega), if_neg (by omega)]
def cmpW (na : Bool) (d : Nat → Int) (nb : Bool) (d' : Nat → Int) : Int := cmpI (wsgn na (val6 d)) (wsgn nb (val6 d'))
theorem sgW_cases {neg : Bool} {d : Nat → Int} (h : Dig d) : (sgW neg d = 0 ∧ val6 d = 0 ∧ wsgn neg (val6 d) = 0) ∨ (sgW neg d = -1 ∧ neg = true ∧ 0 < val6 d ∧ wsgn neg (val6 d) = -val6 d) ∨ (sgW neg d = 1 ∧ neg = false ∧ 0 < val6 d ∧ wsgn neg (val6 d) = val6 d) := by
  have hn := val6_nn h
  unfold sgW wsgn
  by_cases hz : val6 d = 0
  · left; rw [if_pos hz]; refine ⟨rfl, hz, ?_⟩; split <;> omega
  · right; rw [if_neg hz]
    cases neg
    · right; exact ⟨rfl, rfl, by omega, rfl⟩
    · left; exact ⟨rfl, rfl, by omega, rfl⟩
theorem cmpW_lt {na nb : Bool} {d d' : Nat → Int} (h : Dig d) (h' : Dig d') (hs : sgW na d < sgW nb d') : cmpW na d nb d' = -1 := by
  unfold cmpW; apply cmpI_lt
  rcases sgW_cases (neg := na) h with ⟨a1, a2, a3⟩ | ⟨a1, _, a2, a3⟩ | ⟨a1, _, a2, a3⟩ <;> rcases sgW_cases (neg := nb) h' with ⟨b1, b2, b3⟩ | ⟨b1, _, b2, b3⟩ | ⟨b1, _, b2, b3⟩ <;> omega
theorem cmpW_gt {na nb : Bool} {d d' : Nat → Int} (h : Dig d) (h' : Dig d') (hs : sgW nb d' < sgW na d) : cmpW na d nb d' = 1 := by
  unfold cmpW; apply cmpI_gt
  rcases sgW_cases (neg := na) h with ⟨a1, a2, a3⟩ | ⟨a1, _, a2, a3⟩ | ⟨a1, _, a2, a3⟩ <;> rcases sgW_cases (neg := nb) h' with ⟨b1, b2, b3⟩ | ⟨b1, _, b2, b3⟩ | ⟨b1, _, b2, b3⟩ <;> omega
/-- Equal signs, the highest digit that differs. -/
theorem cmpW_dig {na nb : Bool} {d d' : Nat → Int} (h : Dig d) (h' : Dig d') (hs : sgW na d = sgW nb d') (i : Nat) (hi : i < 6) (he : ∀ j, i < j → j < 6 → d j = d' j) (hne : d i ≠ d' i) :
    cmpW na d nb d' = if (decide (d i < d' i) == decide (0 < sgW na d)) = true then -1 else 1 := by
  have hlt : (d i < d' i ∧ val6 d < val6 d') ∨ (d' i < d i ∧ val6 d' < val6 d) := by
    rcases Int.lt_or_gt_of_ne hne with q | q
    · exact .inl ⟨q, val6_lt h h' i hi he q⟩
    · exact .inr ⟨q, val6_lt h' h i hi (fun j h1 h2 => (he j h1 h2).symm) q⟩
  rcases sgW_cases (neg := na) h with ⟨a1, a2, a3⟩ | ⟨a1, _, a2, a3⟩ | ⟨a1, _, a2, a3⟩ <;> rcases sgW_cases (neg := nb) h' with ⟨b1, b2, b3⟩ | ⟨b1, _, b2, b3⟩ | ⟨b1, _, b2, b3⟩
  all_goals first | (exfalso; omega) | skip
  · rcases hlt with ⟨q1, q2⟩ | ⟨q1, q2⟩
    · have t1 : decide (d i < d' i) = true := decide_eq_true q1
      have t2 : decide (0 < sgW na d) = false := decide_eq_false (by omega)
      rw [t1, t2]; unfold cmpW; rw [cmpI_gt (by omega)]; rfl
    · have t1 : decide (d i < d' i) = false := decide_eq_false (by omega)
      have t2 : decide (0 < sgW na d) = false := decide_eq_false (by omega)
      rw [t1, t2]; unfold cmpW; rw [cmpI_lt (by omega)]; rfl
  · rcases hlt with ⟨q1, q2⟩ | ⟨q1, q2⟩
    · have t1 : decide (d i < d' i) = true := decide_eq_true q1
      have t2 : decide (0 < sgW na d) = true := decide_eq_true (by omega)
      rw [t1, t2]; unfold cmpW; rw [cmpI_lt (by omega)]; rfl
    · have t1 : decide (d i < d' i) = false := decide_eq_false (by omega)
      have t2 : decide (0 < sgW na d) = true := decide_eq_true (by omega)
      rw [t1, t2]; unfold cmpW; rw [cmpI_gt (by omega)]; rfl
theorem cmpW_same {na nb : Bool} {d d' : Nat → Int} (h : Dig d) (h' : Dig d') (hs : sgW na d = sgW nb d') (he : ∀ j, j < 6 → d j = d' j) : cmpW na d nb d' = 0 := by
  have hv := val6_same he
  unfold cmpW; apply cmpI_eq
  rcases sgW_cases (neg := na) h with ⟨a1, a2, a3⟩ | ⟨a1, _, a2, a3⟩ | ⟨a1, _, a2, a3⟩ <;> rcases sgW_cases (neg := nb) h' with ⟨b1, b2, b3⟩ | ⟨b1, _, b2, b3⟩ | ⟨b1, _, b2, b3⟩ <;> omega
/-- The products that have been added up. -/
def rowS (a b : Nat → Int) (i : Nat) : Nat → Int
  | 0 => 0
  | k + 1 => rowS a b i k + a i * b k * pw (i + k)
def tot (a b : Nat → Int) : Nat → Int
  | 0 => 0
  | i + 1 => tot a b i + rowS a b i 3
theorem prod_bd {a b : Int} (a0 : 0 ≤ a) (a1 : a < 1000000000) (b0 : 0 ≤ b) (b1 : b < 1000000000) : 0 ≤ a * b ∧ a * b ≤ 999999998000000001 := by
  refine ⟨Int.mul_nonneg a0 b0, ?_⟩
  have h1 : a * b ≤ 999999999 * b := Int.mul_le_mul_of_nonneg_right (by omega) b0
  omega
theorem tot_bd {a b : Nat → Int} (ha : Dig a) (hb : Dig b) (i : Nat) (hi : i ≤ 3) : 0 ≤ tot a b i ∧ tot a b i < 1000000000000000000000000000000000000000000000000000000 := by
  have p := fun i k (h1 : i < 6) (h2 : k < 6) => prod_bd (ha.lo i h1) (ha.hi i h1) (hb.lo k h2) (hb.hi k h2)
  have p00 := p 0 0 (by omega) (by omega); have p01 := p 0 1 (by omega) (by omega); have p02 := p 0 2 (by omega) (by omega)
  have p10 := p 1 0 (by omega) (by omega); have p11 := p 1 1 (by omega) (by omega); have p12 := p 1 2 (by omega) (by omega)
  have p20 := p 2 0 (by omega) (by omega); have p21 := p 2 1 (by omega) (by omega); have p22 := p 2 2 (by omega) (by omega)
  have h : i = 0 ∨ i = 1 ∨ i = 2 ∨ i = 3 := by omega
  rcases h with rfl | rfl | rfl | rfl <;> (simp only [tot, rowS, pw]; omega)
theorem tot_prod {a b : Nat → Int} (a3 : a 3 = 0) (a4 : a 4 = 0) (a5 : a 5 = 0) (b3 : b 3 = 0) (b4 : b 4 = 0) (b5 : b 5 = 0) : tot a b 3 = val6 a * val6 b := by
  simp only [tot, rowS, pw, val6, a3, a4, a5, b3, b4, b5]
  grind
/-- One step of the multiplication. -/
theorem mul_step {d : Nat → Int} {j : Nat} (hj : j < 6) (hd : Dig d) {p c t : Int} (p0 : 0 ≤ p) (p1 : p ≤ 999999998000000001) (c0 : 0 ≤ c) (c1 : c < 1000000000) (h : val6 d + c * pw j = t) :
    val6 (stD d j ((d j + p + c) % 1000000000)) + (d j + p + c) / 1000000000 * pw (j + 1) = t + p * pw j ∧ Dig (stD d j ((d j + p + c) % 1000000000)) ∧ 0 ≤ (d j + p + c) / 1000000000 ∧ (d j + p + c) / 1000000000 < 1000000000 := by
  have l := hd.lo j hj
  have u := hd.hi j hj
  refine ⟨?_, hd.set j _ (by omega) (by omega), by omega, by omega⟩
  rw [val6_set d j _ hj]
  have hdm : (d j + p + c) % 1000000000 = (d j + p + c) - 1000000000 * ((d j + p + c) / 1000000000) := by omega
  rw [hdm]
  generalize (d j + p + c) / 1000000000 = q
  generalize d j = x at *
  rcases lt6 hj with rfl | rfl | rfl | rfl | rfl | rfl <;> (simp only [pw] at h ⊢; omega)
end
section
def two (a b : Int) (i : Nat) : Int := if i = 0 then a else b
theorem two_cases (a b : Int) (i : Nat) : two a b i = a ∨ two a b i = b := by unfold two; split; exact .inl rfl; exact .inr rfl
structure MulAcc (al ah bl bh s t : Int) (n : Nat) (lw hg : Bool) : Prop where
  fine : ∀ i k, i < 2 → k < 2 → 2 * i + k < n → -1000000000000000000 ≤ two al ah i * two bl bh k ∧ two al ah i * two bl bh k ≤ 1000000000000000000
  low : ∀ i k, i < 2 → k < 2 → 2 * i + k < n → two al ah i * two bl bh k = s → lw = true
  high : ∀ i k, i < 2 → k < 2 → 2 * i + k < n → two al ah i * two bl bh k = t → hg = true
theorem mulAcc_zero (al ah bl bh s t : Int) (lw hg : Bool) : MulAcc al ah bl bh s t 0 lw hg := ⟨fun _ _ _ _ h => by omega, fun _ _ _ _ h => by omega, fun _ _ _ _ h => by omega⟩
theorem mulAcc_step {al ah bl bh s t : Int} {i k : Nat} {lw hg : Bool} (h : MulAcc al ah bl bh s t (2 * i + k) lw hg) (hk : k < 2)
    (f1 : -1000000000000000000 ≤ two al ah i * two bl bh k) (f2 : two al ah i * two bl bh k ≤ 1000000000000000000) (lw' hg' : Bool)
    (h1 : lw = true → lw' = true) (h2 : two al ah i * two bl bh k = s → lw' = true) (h3 : hg = true → hg' = true) (h4 : two al ah i * two bl bh k = t → hg' = true) :
    MulAcc al ah bl bh s t (2 * i + (k + 1)) lw' hg' := by
  refine ⟨fun i' k' hi' hk' hn => ?_, fun i' k' hi' hk' hn e => ?_, fun i' k' hi' hk' hn e => ?_⟩
  all_goals
    by_cases q : 2 * i' + k' < 2 * i + k
    · first | exact h.fine i' k' hi' hk' q | exact h1 (h.low i' k' hi' hk' q e) | exact h3 (h.high i' k' hi' hk' q e)
    · obtain rfl : k' = k := by omega
      obtain rfl : i' = i := by omega
      first | exact ⟨f1, f2⟩ | exact h2 e | exact h4 e
def clipI (x : Int) : Int := if LIM ≤ x then LIM else if x ≤ -LIM then -LIM else x
theorem clip_in {x : Int} (h1 : -1000000000000000000 ≤ x) (h2 : x ≤ 1000000000000000000) : clipI x = x := by
  unfold clipI LIM; rw [if_neg (by omega), if_neg (by omega)]
theorem clip_of {x : Int} (h1 : -1000000000000000000 ≤ clipI x) (h2 : clipI x ≤ 1000000000000000000) : clipI x = x := by
  unfold clipI LIM at *
  split at h1
  · rename_i q; rw [if_pos q] at h2; omega
  · rename_i q
    rw [if_neg q] at h2 ⊢
    split at h1
    · rename_i q2; omega
    · rename_i q2; rw [if_neg q2]
theorem rat_one (a b : Int) : ratLo a b 1 = clipI (a * b) ∧ ratHi a b 1 = clipI (a * b) := by
  have hL : LIM = 1000000000000000001 := rfl
  have hd : ∀ P, qDn P 1 = if LIM ≤ P then LIM else P := fun P => by unfold qDn; rw [Int.ediv_one]
  have hu : ∀ P, qUp P 1 = if LIM ≤ P then LIM else P := fun P => by unfold qUp; rw [Int.ediv_one, Int.emod_one]; simp
  have hn : ∀ x : Int, 0 ≤ x → clipI x = if LIM ≤ x then LIM else x := fun x hx => by
    unfold clipI
    split
    · rfl
    · rw [if_neg (by omega)]
  have hm : ∀ x : Int, x ≤ 0 → clipI x = -(if LIM ≤ -x then LIM else -x) := fun x hx => by
    unfold clipI
    rw [if_neg (by omega)]
    by_cases q : x ≤ -LIM
    · rw [if_pos q, if_pos (by omega)]
    · rw [if_neg q, if_neg (by omega)]; omega
  by_cases ha : a < 0 <;> by_cases hb : b < 0
  · have hneg : negB a b = false := by unfold negB; simp [ha, hb]
    have hp : absI a * absI b = a * b := by rw [absI_neg ha, absI_neg hb, Int.neg_mul_neg]
    have h0 : 0 ≤ a * b := by rw [← hp]; exact Int.mul_nonneg (absI_nn _) (absI_nn _)
    rw [ratLo_pos hneg, ratHi_pos hneg, hp, hd, hu, hn _ h0]; exact ⟨rfl, rfl⟩
  · have hneg : negB a b = true := by unfold negB; simp [ha, hb]
    have hp : absI a * absI b = -(a * b) := by rw [absI_neg ha, absI_pos hb, Int.neg_mul]
    have h0 : a * b ≤ 0 := by have := Int.mul_nonneg (absI_nn a) (absI_nn b); omega
    rw [ratLo_neg hneg, ratHi_neg hneg, hp, hd, hu, hm _ h0]; exact ⟨rfl, rfl⟩
  · have hneg : negB a b = true := by unfold negB; simp [ha, hb]
    have hp : absI a * absI b = -(a * b) := by rw [absI_pos ha, absI_neg hb, Int.mul_neg]
    have h0 : a * b ≤ 0 := by have := Int.mul_nonneg (absI_nn a) (absI_nn b); omega
    rw [ratLo_neg hneg, ratHi_neg hneg, hp, hd, hu, hm _ h0]; exact ⟨rfl, rfl⟩
  · have hneg : negB a b = false := by unfold negB; simp [ha, hb]
    have hp : absI a * absI b = a * b := by rw [absI_pos ha, absI_pos hb]
    have h0 : 0 ≤ a * b := by rw [← hp]; exact Int.mul_nonneg (absI_nn _) (absI_nn _)
    rw [ratLo_pos hneg, ratHi_pos hneg, hp, hd, hu, hn _ h0]; exact ⟨rfl, rfl⟩
end
section
theorem rat_unit {a d : Int} (a1 : -1000000000000000000 ≤ a) (a2 : a ≤ 1000000000000000000) (d1 : 1 ≤ d) : ratLo a 1 d = a / d ∧ ratHi a 1 d = -((-a) / d) := by
  have hL : LIM = 1000000000000000001 := rfl
  have hone : absI a * absI 1 = absI a := by rw [show absI 1 = 1 from rfl, Int.mul_one]
  have hA := absI_bd a1 a2
  have hA0 := absI_nn a
  have hq : absI a / d ≤ 1000000000000000000 := Int.le_trans (Int.ediv_le_self d hA0) hA
  have e1 := Int.emod_nonneg (absI a) (show d ≠ 0 by omega)
  have e2 := Int.emod_lt_of_pos (absI a) (show 0 < d by omega)
  have e3 := Int.emod_add_mul_ediv (absI a) d
  have hd : qDn (absI a) d = absI a / d := by unfold qDn; rw [if_neg (by omega)]
  have hup : qUp (absI a) d = -((-(absI a)) / d) := by
    unfold qUp
    rw [if_neg (by omega)]
    by_cases hr : 0 < absI a % d
    · rw [if_pos hr]
      have : (-(absI a)) / d = -(absI a / d) - 1 := by
        have h := Int.add_mul_ediv_left (d - absI a % d) (-(absI a / d) - 1) (show d ≠ 0 by omega)
        have h0 : (d - absI a % d) / d = 0 := Int.ediv_eq_zero_of_lt (by omega) (by omega)
        have e : -(absI a) = d - absI a % d + d * (-(absI a / d) - 1) := by rw [Int.mul_sub, Int.mul_neg, Int.mul_one]; omega
        rw [h0] at h
        rw [← e] at h
        omega
      omega
    · rw [if_neg hr]
      have : (-(absI a)) / d = -(absI a / d) := by
        have h := Int.add_mul_ediv_left 0 (-(absI a / d)) (show d ≠ 0 by omega)
        have e : -(absI a) = 0 + d * -(absI a / d) := by rw [Int.mul_neg]; omega
        rw [Int.zero_ediv, ← e] at h
        omega
      omega
  by_cases ha : a < 0
  · have hneg : negB a 1 = true := by unfold negB; simp [ha]
    rw [ratLo_neg hneg, ratHi_neg hneg, hone, hd, hup, absI_neg ha, Int.neg_neg, Int.neg_neg]
    exact ⟨rfl, rfl⟩
  · have hneg : negB a 1 = false := by unfold negB; simp [ha]
    rw [ratLo_pos hneg, ratHi_pos hneg, hone, hd, hup, absI_pos ha]
    exact ⟨rfl, rfl⟩
/-- lo is the floor of a / d. -/
theorem floor_bd {a d : Int} (d1 : 1 ≤ d) : a / d * d ≤ a ∧ a < (a / d + 1) * d := by
  have e1 := Int.emod_nonneg a (show d ≠ 0 by omega)
  have e2 := Int.emod_lt_of_pos a (show 0 < d by omega)
  have e3 := Int.emod_add_mul_ediv a d
  rw [Int.add_mul, Int.mul_comm (a / d) d]; omega
theorem ceil_bd {a d : Int} (d1 : 1 ≤ d) : a ≤ -((-a) / d) * d ∧ (-((-a) / d) - 1) * d < a := by
  have ⟨h1, h2⟩ := floor_bd (a := -a) d1
  rw [Int.sub_mul, Int.neg_mul]
  rw [Int.add_mul] at h2
  omega
/-- The four quotients of x ≤ y by 0 < u ≤ v. -/
structure QuoOk (x y u v s t : Int) : Prop where
  le : ∀ i k, i < 2 → k < 2 → s * two u v k ≤ two x y i
  ge : ∀ i k, i < 2 → k < 2 → two x y i ≤ t * two u v k
  low : ∃ i k, i < 2 ∧ k < 2 ∧ two x y i < (s + 1) * two u v k
  high : ∃ i k, i < 2 ∧ k < 2 ∧ (t - 1) * two u v k < two x y i
  s1 : -1000000000000000000 ≤ s
  s2 : s ≤ 1000000000000000000
  t1 : -1000000000000000000 ≤ t
  t2 : t ≤ 1000000000000000000
theorem quo_lt2 {i : Nat} (h : i < 2) : i = 0 ∨ i = 1 := by omega
theorem mul_mono_pos {s u v : Int} (hs : 0 ≤ s) (h : u ≤ v) : s * u ≤ s * v := Int.mul_le_mul_of_nonneg_left h hs
theorem mul_mono_neg {s u v : Int} (hs : s ≤ 0) (h : u ≤ v) : s * v ≤ s * u := by
  have := Int.mul_le_mul_of_nonneg_left h (show 0 ≤ -s by omega)
  rw [Int.neg_mul, Int.neg_mul] at this; omega
theorem quo_bd {a d : Int} (a1 : -1000000000000000000 ≤ a) (a2 : a ≤ 1000000000000000000) (d1 : 1 ≤ d) : -1000000000000000000 ≤ a / d ∧ a / d ≤ 1000000000000000000 := by
  have ⟨h1, h2⟩ := floor_bd (a := a) d1
  constructor
  · by_cases h : 0 ≤ a
    · have := Int.ediv_nonneg h (show 0 ≤ d by omega); omega
    · have h3 : a / d + 1 ≤ 0 ∨ 1 ≤ a / d + 1 := by omega
      rcases h3 with h3 | h3
      · have := mul_mono_neg h3 d1; omega
      · omega
  · by_cases h : 0 ≤ a
    · exact Int.le_trans (Int.ediv_le_self d h) a2
    · have : a / d < 0 := Int.ediv_neg_of_neg_of_pos (by omega) (by omega)
      omega
theorem quo_ok {x y u v : Int} (hx : -1000000000000000000 ≤ x) (hxy : x ≤ y) (hy : y ≤ 1000000000000000000) (hu : 1 ≤ u) (huv : u ≤ v) :
    QuoOk x y u v (if 0 ≤ x then ratLo x 1 v else ratLo x 1 u) (if y < 0 then ratHi y 1 v else ratHi y 1 u) := by
  rw [(rat_unit hx (by omega) (show 1 ≤ v by omega)).1, (rat_unit hx (by omega) hu).1, (rat_unit (by omega) hy (show 1 ≤ v by omega)).2, (rat_unit (by omega) hy hu).2]
  have f1 := floor_bd (a := x) (d := v) (by omega)
  have f2 := floor_bd (a := x) hu
  have g1 := ceil_bd (a := y) (d := v) (by omega)
  have g2 := ceil_bd (a := y) hu
  have b1 := quo_bd hx (show x ≤ 1000000000000000000 by omega) (show 1 ≤ v by omega)
  have b2 := quo_bd hx (show x ≤ 1000000000000000000 by omega) hu
  have b3 := quo_bd (a := -y) (by omega) (by omega) (show 1 ≤ v by omega)
  have b4 := quo_bd (a := -y) (by omega) (by omega) hu
  have hlow : ∀ s, (0 ≤ x ∧ s = x / v) ∨ (x < 0 ∧ s = x / u) → (∀ i k, i < 2 → k < 2 → s * two u v k ≤ two x y i) ∧ ∃ i k, i < 2 ∧ k < 2 ∧ two x y i < (s + 1) * two u v k := by
    rintro s (⟨h, rfl⟩ | ⟨h, rfl⟩)
    · have h0 := Int.ediv_nonneg h (show 0 ≤ v by omega)
      have h1 := mul_mono_pos h0 huv
      refine ⟨fun i k hi hk => ?_, ⟨0, 1, by omega, by omega, f1.2⟩⟩
      rcases quo_lt2 hi with rfl | rfl <;> rcases quo_lt2 hk with rfl | rfl <;> (simp [two]; omega)
    · have h0 : x / u < 0 := Int.ediv_neg_of_neg_of_pos h (by omega)
      have h1 := mul_mono_neg (show x / u ≤ 0 by omega) huv
      refine ⟨fun i k hi hk => ?_, ⟨0, 0, by omega, by omega, f2.2⟩⟩
      rcases quo_lt2 hi with rfl | rfl <;> rcases quo_lt2 hk with rfl | rfl <;> (simp [two]; omega)
  have hhigh : ∀ t, (y < 0 ∧ t = -((-y) / v)) ∨ (0 ≤ y ∧ t = -((-y) / u)) → (∀ i k, i < 2 → k < 2 → two x y i ≤ t * two u v k) ∧ ∃ i k, i < 2 ∧ k < 2 ∧ (t - 1) * two u v k < two x y i := by
    rintro t (⟨h, rfl⟩ | ⟨h, rfl⟩)
    · have h0 : 0 ≤ (-y) / v := Int.ediv_nonneg (by omega) (by omega)
      have h1 := mul_mono_neg (show -((-y) / v) ≤ 0 by omega) huv
      refine ⟨fun i k hi hk => ?_, ⟨1, 1, by omega, by omega, g1.2⟩⟩
      rcases quo_lt2 hi with rfl | rfl <;> rcases quo_lt2 hk with rfl | rfl <;> (simp only [two, if_pos, if_neg, Nat.one_ne_zero, if_false, if_true]; omega)
    · have h0 : (-y) / u ≤ 0 := by
        by_cases q : y = 0
        · subst q; simp
        · have : (-y) / u < 0 := Int.ediv_neg_of_neg_of_pos (by omega) (by omega)
          omega
      have h1 := mul_mono_pos (show 0 ≤ -((-y) / u) by omega) huv
      refine ⟨fun i k hi hk => ?_, ⟨1, 0, by omega, by omega, g2.2⟩⟩
      rcases quo_lt2 hi with rfl | rfl <;> rcases quo_lt2 hk with rfl | rfl <;> (simp only [two, if_pos, if_neg, Nat.one_ne_zero, if_false, if_true]; omega)
  by_cases c1 : 0 ≤ x <;> by_cases c2 : y < 0
  · omega
  · rw [if_pos c1, if_neg c2]
    obtain ⟨p1, p2⟩ := hlow _ (.inl ⟨c1, rfl⟩)
    obtain ⟨q1, q2⟩ := hhigh _ (.inr ⟨by omega, rfl⟩)
    exact ⟨p1, q1, p2, q2, by omega, by omega, by omega, by omega⟩
  · rw [if_neg c1, if_pos c2]
    obtain ⟨p1, p2⟩ := hlow _ (.inr ⟨by omega, rfl⟩)
    obtain ⟨q1, q2⟩ := hhigh _ (.inl ⟨c2, rfl⟩)
    exact ⟨p1, q1, p2, q2, by omega, by omega, by omega, by omega⟩
  · rw [if_neg c1, if_neg c2]
    obtain ⟨p1, p2⟩ := hlow _ (.inr ⟨by omega, rfl⟩)
    obtain ⟨q1, q2⟩ := hhigh _ (.inr ⟨by omega, rfl⟩)
    exact ⟨p1, q1, p2, q2, by omega, by omega, by omega, by omega⟩
end
section
def rl (X d : Int) : Int := if X < 0 then -(qUp (-X) d) else qDn X d
def rh (X d : Int) : Int := if X < 0 then -(qDn (-X) d) else qUp X d
theorem q_zero (d : Int) : qUp 0 d = 0 ∧ qDn 0 d = 0 := by
  have hL : LIM = 1000000000000000001 := rfl
  unfold qUp qDn
  rw [Int.zero_ediv, Int.zero_emod, if_neg (by omega), if_neg (by omega), if_neg (by omega)]
  exact ⟨rfl, rfl⟩
theorem rat_x (a b d : Int) : ratLo a b d = rl (a * b) d ∧ ratHi a b d = rh (a * b) d := by
  unfold rl rh
  by_cases ha : a < 0 <;> by_cases hb : b < 0
  · have hneg : negB a b = false := by unfold negB; simp [ha, hb]
    have hp : absI a * absI b = a * b := by rw [absI_neg ha, absI_neg hb, Int.neg_mul_neg]
    have h0 : 0 ≤ a * b := by rw [← hp]; exact Int.mul_nonneg (absI_nn _) (absI_nn _)
    rw [ratLo_pos hneg, ratHi_pos hneg, hp, if_neg (by omega), if_neg (by omega)]; exact ⟨rfl, rfl⟩
  · have hneg : negB a b = true := by unfold negB; simp [ha, hb]
    have hp : absI a * absI b = -(a * b) := by rw [absI_neg ha, absI_pos hb, Int.neg_mul]
    have h0 : a * b ≤ 0 := by have := Int.mul_nonneg (absI_nn a) (absI_nn b); omega
    rw [ratLo_neg hneg, ratHi_neg hneg, hp]
    by_cases hz : a * b = 0
    · rw [hz, if_neg (by omega), if_neg (by omega), Int.neg_zero, (q_zero d).1, (q_zero d).2]; exact ⟨rfl, rfl⟩
    · rw [if_pos (by omega), if_pos (by omega)]; exact ⟨rfl, rfl⟩
  · have hneg : negB a b = true := by unfold negB; simp [ha, hb]
    have hp : absI a * absI b = -(a * b) := by rw [absI_pos ha, absI_neg hb, Int.mul_neg]
    have h0 : a * b ≤ 0 := by have := Int.mul_nonneg (absI_nn a) (absI_nn b); omega
    rw [ratLo_neg hneg, ratHi_neg hneg, hp]
    by_cases hz : a * b = 0
    · rw [hz, if_neg (by omega), if_neg (by omega), Int.neg_zero, (q_zero d).1, (q_zero d).2]; exact ⟨rfl, rfl⟩
    · rw [if_pos (by omega), if_pos (by omega)]; exact ⟨rfl, rfl⟩
  · have hneg : negB a b = false := by unfold negB; simp [ha, hb]
    have hp : absI a * absI b = a * b := by rw [absI_pos ha, absI_pos hb]
    have h0 : 0 ≤ a * b := by rw [← hp]; exact Int.mul_nonneg (absI_nn _) (absI_nn _)
    rw [ratLo_pos hneg, ratHi_pos hneg, hp, if_neg (by omega), if_neg (by omega)]; exact ⟨rfl, rfl⟩
theorem q_bd {P d : Int} (hP : 0 ≤ P) (d1 : 1 ≤ d) : P / d * d ≤ P ∧ P < P / d * d + d ∧ P % d = P - P / d * d ∧ 0 ≤ P / d := by
  have e1 := Int.emod_nonneg P (show d ≠ 0 by omega)
  have e2 := Int.emod_lt_of_pos P (show 0 < d by omega)
  have e3 := Int.emod_add_mul_ediv P d
  have e4 := Int.ediv_nonneg hP (show 0 ≤ d by omega)
  rw [Int.mul_comm d] at e3
  refine ⟨by omega, by omega, by omega, e4⟩
theorem mul_lt_of {q d M : Int} (d1 : 1 ≤ d) (h : q * d ≤ M * d) : q ≤ M := by
  rcases (show M < q ∨ q ≤ M by omega) with g | g
  · have : (M + 1) * d ≤ q * d := Int.mul_le_mul_of_nonneg_right (by omega) (by omega)
    rw [Int.add_mul] at this; omega
  · exact g
/-- Down and up within the bounds. -/
theorem qDn_in {P d : Int} (hP : 0 ≤ P) (d1 : 1 ≤ d) (h : P ≤ 1000000000000000000 * d) : qDn P d * d ≤ P ∧ P < (qDn P d + 1) * d ∧ 0 ≤ qDn P d ∧ qDn P d ≤ 1000000000000000000 := by
  have hL : LIM = 1000000000000000001 := rfl
  obtain ⟨b1, b2, b3, b4⟩ := q_bd hP d1
  have hq : P / d ≤ 1000000000000000000 := mul_lt_of d1 (by omega)
  unfold qDn
  rw [if_neg (by omega)]
  rw [Int.add_mul]
  omega
theorem qUp_in {P d : Int} (hP : 0 ≤ P) (d1 : 1 ≤ d) (h : P ≤ 1000000000000000000 * d) : P ≤ qUp P d * d ∧ (qUp P d - 1) * d < P ∧ 0 ≤ qUp P d ∧ qUp P d ≤ 1000000000000000000 := by
  have hL : LIM = 1000000000000000001 := rfl
  obtain ⟨b1, b2, b3, b4⟩ := q_bd hP d1
  have hq : P / d ≤ 1000000000000000000 := mul_lt_of d1 (by omega)
  unfold qUp
  rw [if_neg (by omega)]
  by_cases hr : 0 < P % d
  · rw [if_pos hr]
    have : P / d ≠ 1000000000000000000 := fun e => by rw [e] at b3; omega
    rw [Int.sub_mul, Int.add_mul]; omega
  · rw [if_neg hr, Int.sub_mul]; omega
theorem qUp_out {P d : Int} (d1 : 1 ≤ d) (h : 1000000000000000000 * d < P) : qUp P d = LIM := by
  have hL : LIM = 1000000000000000001 := rfl
  obtain ⟨b1, b2, b3, b4⟩ := q_bd (P := P) (by omega) d1
  have hq : 1000000000000000000 ≤ P / d := by
    rcases (show (P / d) < 1000000000000000000 ∨ 1000000000000000000 ≤ (P / d) by omega) with g | g
    · have : (P / d + 1) * d ≤ 1000000000000000000 * d := Int.mul_le_mul_of_nonneg_right (by omega) (by omega)
      rw [Int.add_mul] at this; omega
    · exact g
  unfold qUp
  by_cases c : LIM ≤ P / d
  · rw [if_pos c]
  · rw [if_neg c]
    have e : P / d = 1000000000000000000 := by omega
    rw [e] at b3 ⊢
    rw [if_pos (by omega)]; rfl
theorem rl_in {X d : Int} (d1 : 1 ≤ d) (h1 : -1000000000000000000 * d ≤ X) (h2 : X ≤ 1000000000000000000 * d) : rl X d * d ≤ X ∧ X < (rl X d + 1) * d ∧ -1000000000000000000 ≤ rl X d ∧ rl X d ≤ 1000000000000000000 := by
  unfold rl
  by_cases c : X < 0
  · rw [if_pos c]
    obtain ⟨b1, b2, b3, b4⟩ := qUp_in (P := -X) (by omega) d1 (by omega)
    rw [Int.sub_mul] at b2
    rw [Int.add_mul, Int.neg_mul]; omega
  · rw [if_neg c]
    obtain ⟨b1, b2, b3, b4⟩ := qDn_in (P := X) (by omega) d1 (by omega)
    exact ⟨b1, b2, by omega, b4⟩
theorem rh_in {X d : Int} (d1 : 1 ≤ d) (h1 : -1000000000000000000 * d ≤ X) (h2 : X ≤ 1000000000000000000 * d) : X ≤ rh X d * d ∧ (rh X d - 1) * d < X ∧ -1000000000000000000 ≤ rh X d ∧ rh X d ≤ 1000000000000000000 := by
  unfold rh
  by_cases c : X < 0
  · rw [if_pos c]
    obtain ⟨b1, b2, b3, b4⟩ := qDn_in (P := -X) (by omega) d1 (by omega)
    rw [Int.add_mul] at b2
    rw [Int.sub_mul, Int.neg_mul]; omega
  · rw [if_neg c]
    obtain ⟨b1, b2, b3, b4⟩ := qUp_in (P := X) (by omega) d1 (by omega)
    exact ⟨b1, b2, by omega, b4⟩
theorem rl_out {X d : Int} (d1 : 1 ≤ d) (h : X < -1000000000000000000 * d) : rl X d = -LIM := by
  unfold rl
  rw [if_pos (by omega), qUp_out d1 (by omega)]
theorem rh_out {X d : Int} (d1 : 1 ≤ d) (h : 1000000000000000000 * d < X) : rh X d = LIM := by
  unfold rh
  rw [if_neg (by omega), qUp_out d1 h]
theorem rl_mono {X Y d : Int} (d1 : 1 ≤ d) (hx1 : -1000000000000000000 * d ≤ X) (hxy : X ≤ Y) (hy2 : Y ≤ 1000000000000000000 * d) : rl X d ≤ rl Y d := by
  obtain ⟨b1, b2, _⟩ := rl_in d1 hx1 (show X ≤ 1000000000000000000 * d by omega)
  obtain ⟨c1, c2, _⟩ := rl_in d1 (show -1000000000000000000 * d ≤ Y by omega) hy2
  rcases (show (rl Y d) < (rl X d) ∨ (rl X d) ≤ (rl Y d) by omega) with g | g
  · have : (rl Y d + 1) * d ≤ rl X d * d := Int.mul_le_mul_of_nonneg_right (by omega) (by omega)
    omega
  · exact g
theorem rh_mono {X Y d : Int} (d1 : 1 ≤ d) (hx1 : -1000000000000000000 * d ≤ X) (hxy : X ≤ Y) (hy2 : Y ≤ 1000000000000000000 * d) : rh X d ≤ rh Y d := by
  obtain ⟨b1, b2, _⟩ := rh_in d1 hx1 (show X ≤ 1000000000000000000 * d by omega)
  obtain ⟨c1, c2, _⟩ := rh_in d1 (show -1000000000000000000 * d ≤ Y by omega) hy2
  rcases (show (rh Y d) < (rh X d) ∨ (rh X d) ≤ (rh Y d) by omega) with g | g
  · have : rh Y d * d ≤ (rh X d - 1) * d := Int.mul_le_mul_of_nonneg_right (by omega) (by omega)
    omega
  · exact g
/-- The least and the greatest scaled number. -/
def scLo (al ah num : Int) : Int := if num < 0 then ah * num else al * num
def scHi (al ah num : Int) : Int := if num < 0 then al * num else ah * num
theorem sc_le {al ah num : Int} (h : al ≤ ah) : scLo al ah num ≤ scHi al ah num := by
  unfold scLo scHi
  by_cases c : num < 0
  · rw [if_pos c, if_pos c]
    have := Int.mul_le_mul_of_nonneg_right h (show 0 ≤ -num by omega)
    rw [Int.mul_neg, Int.mul_neg] at this; omega
  · rw [if_neg c, if_neg c]; exact Int.mul_le_mul_of_nonneg_right h (by omega)
structure ScaleOk (lo hi d s t : Int) : Prop where
  l1 : s * d ≤ lo
  l2 : lo < (s + 1) * d
  h1 : hi ≤ t * d
  h2 : (t - 1) * d < hi
  s1 : -1000000000000000000 ≤ s
  s2 : s ≤ 1000000000000000000
  t1 : -1000000000000000000 ≤ t
  t2 : t ≤ 1000000000000000000
theorem scale_in {al ah num d : Int} (d1 : 1 ≤ d) (hle : al ≤ ah) (h1 : -1000000000000000000 * d ≤ scLo al ah num) (h2 : scHi al ah num ≤ 1000000000000000000 * d) :
    ScaleOk (scLo al ah num) (scHi al ah num) d (min (min (min (ratLo al num d) (ratLo al num d)) (ratLo ah num d)) (ratLo ah num d)) (max (max (max (ratHi al num d) (ratHi al num d)) (ratHi ah num d)) (ratHi ah num d)) := by
  have hle' := sc_le (num := num) hle
  rw [(rat_x al num d).1, (rat_x ah num d).1, (rat_x al num d).2, (rat_x ah num d).2]
  have m1 := rl_mono d1 h1 hle' h2
  have m2 := rh_mono d1 h1 hle' h2
  obtain ⟨b1, b2, b3, b4⟩ := rl_in d1 h1 (show scLo al ah num ≤ 1000000000000000000 * d by omega)
  obtain ⟨c1, c2, c3, c4⟩ := rh_in d1 (show -1000000000000000000 * d ≤ scHi al ah num by omega) h2
  by_cases c : num < 0
  · have e1 : scLo al ah num = ah * num := by unfold scLo; rw [if_pos c]
    have e2 : scHi al ah num = al * num := by unfold scHi; rw [if_pos c]
    rw [e1, e2] at m1 m2
    rw [e1] at b1 b2 b3 b4
    rw [e2] at c1 c2 c3 c4
    rw [e1, e2]
    rw [show min (min (min (rl (al * num) d) (rl (al * num) d)) (rl (ah * num) d)) (rl (ah * num) d) = rl (ah * num) d by omega, show max (max (max (rh (al * num) d) (rh (al * num) d)) (rh (ah * num) d)) (rh (ah * num) d) = rh (al * num) d by omega]
    exact ⟨b1, b2, c1, c2, b3, b4, c3, c4⟩
  · have e1 : scLo al ah num = al * num := by unfold scLo; rw [if_neg c]
    have e2 : scHi al ah num = ah * num := by unfold scHi; rw [if_neg c]
    rw [e1, e2] at m1 m2
    rw [e1] at b1 b2 b3 b4
    rw [e2] at c1 c2 c3 c4
    rw [e1, e2]
    rw [show min (min (min (rl (al * num) d) (rl (al * num) d)) (rl (ah * num) d)) (rl (ah * num) d) = rl (al * num) d by omega, show max (max (max (rh (al * num) d) (rh (al * num) d)) (rh (ah * num) d)) (rh (ah * num) d) = rh (ah * num) d by omega]
    exact ⟨b1, b2, c1, c2, b3, b4, c3, c4⟩
theorem scale_out {al ah num d : Int} (d1 : 1 ≤ d) (h : scLo al ah num < -1000000000000000000 * d ∨ 1000000000000000000 * d < scHi al ah num) :
    min (min (min (ratLo al num d) (ratLo al num d)) (ratLo ah num d)) (ratLo ah num d) < -1000000000000000000 ∨ 1000000000000000000 < max (max (max (ratHi al num d) (ratHi al num d)) (ratHi ah num d)) (ratHi ah num d) := by
  have hL : LIM = 1000000000000000001 := rfl
  rw [(rat_x al num d).1, (rat_x ah num d).1, (rat_x al num d).2, (rat_x ah num d).2]
  unfold scLo scHi at h
  rcases h with h | h
  · left
    by_cases c : num < 0
    · rw [if_pos c] at h; have := rl_out d1 h; omega
    · rw [if_neg c] at h; have := rl_out d1 h; omega
  · right
    by_cases c : num < 0
    · rw [if_pos c] at h; have := rh_out d1 h; omega
    · rw [if_neg c] at h; have := rh_out d1 h; omega
end
end Go.Proofs.YtcgnhnmigmdalaaGreatDoor
