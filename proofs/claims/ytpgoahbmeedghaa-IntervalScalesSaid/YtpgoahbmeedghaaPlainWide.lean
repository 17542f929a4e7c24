/- Numbers of six digits of the base 10^9. No program in sight. -/
import Derived.Test.YtpgoahbmeedghaaPlain1
set_option linter.unusedVariables false
set_option linter.unusedSimpArgs false
namespace Go.Proofs.Ytpgoahbmeedghaa
def pw : Nat → Int
  | 0 => 1
  | 1 => 1000000000
  | 2 => 1000000000000000000
  | 3 => 1000000000000000000000000000
  | 4 => 1000000000000000000000000000000000000
  | 5 => 1000000000000000000000000000000000000000000000
  | _ => 1000000000000000000000000000000000000000000000000000000
def stD (d : Nat → Int) (j : Nat) (v : Int) : Nat → Int := fun x => if x = j then v else d x
def val6 (d : Nat → Int) : Int := d 0 + d 1 * 1000000000 + d 2 * 1000000000000000000 + d 3 * 1000000000000000000000000000 + d 4 * 1000000000000000000000000000000000000 + d 5 * 1000000000000000000000000000000000000000000000
structure Dig (d : Nat → Int) : Prop where
  lo : ∀ i, i < 6 → 0 ≤ d i
  hi : ∀ i, i < 6 → d i < 1000000000
theorem lt6 {j : Nat} (h : j < 6) : j = 0 ∨ j = 1 ∨ j = 2 ∨ j = 3 ∨ j = 4 ∨ j = 5 := by omega
theorem val6_set (d : Nat → Int) (j : Nat) (v : Int) (h : j < 6) : val6 (stD d j v) = val6 d + (v - d j) * pw j := by
  rcases lt6 h with rfl | rfl | rfl | rfl | rfl | rfl <;> (simp [val6, stD, pw]; omega)
theorem Dig.set {d : Nat → Int} (h : Dig d) (j : Nat) (v : Int) (h0 : 0 ≤ v) (h1 : v < 1000000000) : Dig (stD d j v) :=
  ⟨fun i hi => by unfold stD; split; exact h0; exact h.lo i hi, fun i hi => by unfold stD; split; exact h1; exact h.hi i hi⟩
theorem dig_zero : Dig (fun _ => 0) := ⟨fun _ _ => Int.le_refl _, fun _ _ => by omega⟩
theorem val6_zero : val6 (fun _ => 0) = 0 := by simp [val6]
theorem val6_nn {d : Nat → Int} (h : Dig d) : 0 ≤ val6 d := by
  have h0 := h.lo 0 (by omega); have h1 := h.lo 1 (by omega); have h2 := h.lo 2 (by omega); have h3 := h.lo 3 (by omega); have h4 := h.lo 4 (by omega); have h5 := h.lo 5 (by omega)
  unfold val6; omega
theorem val6_lt {d d' : Nat → Int} (h : Dig d) (h' : Dig d') (i : Nat) (hi : i < 6) (he : ∀ j, i < j → j < 6 → d j = d' j) (hl : d i < d' i) : val6 d < val6 d' := by
  have l0 := h.lo 0 (by omega); have l1 := h.lo 1 (by omega); have l2 := h.lo 2 (by omega); have l3 := h.lo 3 (by omega); have l4 := h.lo 4 (by omega); have l5 := h.lo 5 (by omega)
  have u0 := h.hi 0 (by omega); have u1 := h.hi 1 (by omega); have u2 := h.hi 2 (by omega); have u3 := h.hi 3 (by omega); have u4 := h.hi 4 (by omega); have u5 := h.hi 5 (by omega)
  have m0 := h'.lo 0 (by omega); have m1 := h'.lo 1 (by omega); have m2 := h'.lo 2 (by omega); have m3 := h'.lo 3 (by omega); have m4 := h'.lo 4 (by omega); have m5 := h'.lo 5 (by omega)
  unfold val6
  rcases lt6 hi with rfl | rfl | rfl | rfl | rfl | rfl
  · rw [he 1 (by omega) (by omega), he 2 (by omega) (by omega), he 3 (by omega) (by omega), he 4 (by omega) (by omega), he 5 (by omega) (by omega)]; omega
  · rw [he 2 (by omega) (by omega), he 3 (by omega) (by omega), he 4 (by omega) (by omega), he 5 (by omega) (by omega)]; omega
  · rw [he 3 (by omega) (by omega), he 4 (by omega) (by omega), he 5 (by omega) (by omega)]; omega
  · rw [he 4 (by omega) (by omega), he 5 (by omega) (by omega)]; omega
  · rw [he 5 (by omega) (by omega)]; omega
  · omega
theorem val6_same {d d' : Nat → Int} (he : ∀ j, j < 6 → d j = d' j) : val6 d = val6 d' := by
  unfold val6; rw [he 0 (by omega), he 1 (by omega), he 2 (by omega), he 3 (by omega), he 4 (by omega), he 5 (by omega)]
theorem val6_all0 {d : Nat → Int} (he : ∀ j, j < 6 → d j = 0) : val6 d = 0 := by
  rw [val6_same (d' := fun _ => 0) he, val6_zero]
theorem val6_pos {d : Nat → Int} (h : Dig d) (i : Nat) (hi : i < 6) (hz : d i ≠ 0) : 0 < val6 d := by
  have l0 := h.lo 0 (by omega); have l1 := h.lo 1 (by omega); have l2 := h.lo 2 (by omega); have l3 := h.lo 3 (by omega); have l4 := h.lo 4 (by omega); have l5 := h.lo 5 (by omega)
  unfold val6
  rcases lt6 hi with rfl | rfl | rfl | rfl | rfl | rfl <;> omega
/-- The sign and the number. -/
def wsgn (neg : Bool) (x : Int) : Int := if neg = true then -x else x
theorem wsgn_t (x : Int) : wsgn true x = -x := rfl
theorem wsgn_f (x : Int) : wsgn false x = x := rfl
def sgW (neg : Bool) (d : Nat → Int) : Int := if val6 d = 0 then 0 else if neg = true then -1 else 1
def cmpI (x y : Int) : Int := if x < y then -1 else if x = y then 0 else 1
theorem cmpI_lt {x y : Int} (h : x < y) : cmpI x y = -1 := by unfold cmpI; rw [if_pos h]
theorem cmpI_eq {x y : Int} (h : x = y) : cmpI x y = 0 := by unfold cmpI; rw [if_neg (by omega), if_pos h]
theorem cmpI_gt {x y : Int} (h : y < x) : cmpI x y = 1 := by unfold cmpI; rw [if_neg (by omega), if_neg (by omega)]
def cmpW (na : Bool) (d : Nat → Int) (nb : Bool) (d' : Nat → Int) : Int := cmpI (wsgn na (val6 d)) (wsgn nb (val6 d'))
theorem sgW_cases {neg : Bool} {d : Nat → Int} (h : Dig d) : (sgW neg d = 0 ∧ val6 d = 0 ∧ wsgn neg (val6 d) = 0) ∨ (sgW neg d = -1 ∧ neg = true ∧ 0 < val6 d ∧ wsgn neg (val6 d) = -val6 d) ∨ (sgW neg d = 1 ∧ neg = false ∧ 0 < val6 d ∧ wsgn neg (val6 d) = val6 d) := by
  have hn := val6_nn h
  unfold sgW wsgn
  by_cases hz : val6 d = 0
  · left; rw [if_pos hz]; refine ⟨rfl, hz, ?_⟩; split <;> omega
  · right; rw [if_neg hz]
    cases neg
    · right; exact ⟨rfl, rfl, by omega, rfl⟩
    · left; exact ⟨rfl, rfl, by omega, rfl⟩
theorem cmpW_lt {na nb : Bool} {d d' : Nat → Int} (h : Dig d) (h' : Dig d') (hs : sgW na d < sgW nb d') : cmpW na d nb d' = -1 := by
  unfold cmpW; apply cmpI_lt
  rcases sgW_cases (neg := na) h with ⟨a1, a2, a3⟩ | ⟨a1, _, a2, a3⟩ | ⟨a1, _, a2, a3⟩ <;> rcases sgW_cases (neg := nb) h' with ⟨b1, b2, b3⟩ | ⟨b1, _, b2, b3⟩ | ⟨b1, _, b2, b3⟩ <;> omega
theorem cmpW_gt {na nb : Bool} {d d' : Nat → Int} (h : Dig d) (h' : Dig d') (hs : sgW nb d' < sgW na d) : cmpW na d nb d' = 1 := by
  unfold cmpW; apply cmpI_gt
  rcases sgW_cases (neg := na) h with ⟨a1, a2, a3⟩ | ⟨a1, _, a2, a3⟩ | ⟨a1, _, a2, a3⟩ <;> rcases sgW_cases (neg := nb) h' with ⟨b1, b2, b3⟩ | ⟨b1, _, b2, b3⟩ | ⟨b1, _, b2, b3⟩ <;> omega
/-- Equal signs, the highest digit that differs. -/
theorem cmpW_dig {na nb : Bool} {d d' : Nat → Int} (h : Dig d) (h' : Dig d') (hs : sgW na d = sgW nb d') (i : Nat) (hi : i < 6) (he : ∀ j, i < j → j < 6 → d j = d' j) (hne : d i ≠ d' i) :
    cmpW na d nb d' = if (decide (d i < d' i) == decide (0 < sgW na d)) = true then -1 else 1 := by
  have hlt : (d i < d' i ∧ val6 d < val6 d') ∨ (d' i < d i ∧ val6 d' < val6 d) := by
    rcases Int.lt_or_gt_of_ne hne with q | q
    · exact .inl ⟨q, val6_lt h h' i hi he q⟩
    · exact .inr ⟨q, val6_lt h' h i hi (fun j h1 h2 => (he j h1 h2).symm) q⟩
  rcases sgW_cases (neg := na) h with ⟨a1, a2, a3⟩ | ⟨a1, _, a2, a3⟩ | ⟨a1, _, a2, a3⟩ <;> rcases sgW_cases (neg := nb) h' with ⟨b1, b2, b3⟩ | ⟨b1, _, b2, b3⟩ | ⟨b1, _, b2, b3⟩
  all_goals first | (exfalso; omega) | skip
  · rcases hlt with ⟨q1, q2⟩ | ⟨q1, q2⟩
    · have t1 : decide (d i < d' i) = true := decide_eq_true q1
      have t2 : decide (0 < sgW na d) = false := decide_eq_false (by omega)
      rw [t1, t2]; unfold cmpW; rw [cmpI_gt (by omega)]; rfl
    · have t1 : decide (d i < d' i) = false := decide_eq_false (by omega)
      have t2 : decide (0 < sgW na d) = false := decide_eq_false (by omega)
      rw [t1, t2]; unfold cmpW; rw [cmpI_lt (by omega)]; rfl
  · rcases hlt with ⟨q1, q2⟩ | ⟨q1, q2⟩
    · have t1 : decide (d i < d' i) = true := decide_eq_true q1
      have t2 : decide (0 < sgW na d) = true := decide_eq_true (by omega)
      rw [t1, t2]; unfold cmpW; rw [cmpI_lt (by omega)]; rfl
    · have t1 : decide (d i < d' i) = false := decide_eq_false (by omega)
      have t2 : decide (0 < sgW na d) = true := decide_eq_true (by omega)
      rw [t1, t2]; unfold cmpW; rw [cmpI_gt (by omega)]; rfl
theorem cmpW_same {na nb : Bool} {d d' : Nat → Int} (h : Dig d) (h' : Dig d') (hs : sgW na d = sgW nb d') (he : ∀ j, j < 6 → d j = d' j) : cmpW na d nb d' = 0 := by
  have hv := val6_same he
  unfold cmpW; apply cmpI_eq
  rcases sgW_cases (neg := na) h with ⟨a1, a2, a3⟩ | ⟨a1, _, a2, a3⟩ | ⟨a1, _, a2, a3⟩ <;> rcases sgW_cases (neg := nb) h' with ⟨b1, b2, b3⟩ | ⟨b1, _, b2, b3⟩ | ⟨b1, _, b2, b3⟩ <;> omega
/-- The products that have been added up. -/
def rowS (a b : Nat → Int) (i : Nat) : Nat → Int
  | 0 => 0
  | k + 1 => rowS a b i k + a i * b k * pw (i + k)
def tot (a b : Nat → Int) : Nat → Int
  | 0 => 0
  | i + 1 => tot a b i + rowS a b i 3
theorem prod_bd {a b : Int} (a0 : 0 ≤ a) (a1 : a < 1000000000) (b0 : 0 ≤ b) (b1 : b < 1000000000) : 0 ≤ a * b ∧ a * b ≤ 999999998000000001 := by
  refine ⟨Int.mul_nonneg a0 b0, ?_⟩
  have h1 : a * b ≤ 999999999 * b := Int.mul_le_mul_of_nonneg_right (by omega) b0
  omega
theorem tot_bd {a b : Nat → Int} (ha : Dig a) (hb : Dig b) (i : Nat) (hi : i ≤ 3) : 0 ≤ tot a b i ∧ tot a b i < 1000000000000000000000000000000000000000000000000000000 := by
  have p := fun i k (h1 : i < 6) (h2 : k < 6) => prod_bd (ha.lo i h1) (ha.hi i h1) (hb.lo k h2) (hb.hi k h2)
  have p00 := p 0 0 (by omega) (by omega); have p01 := p 0 1 (by omega) (by omega); have p02 := p 0 2 (by omega) (by omega)
  have p10 := p 1 0 (by omega) (by omega); have p11 := p 1 1 (by omega) (by omega); have p12 := p 1 2 (by omega) (by omega)
  have p20 := p 2 0 (by omega) (by omega); have p21 := p 2 1 (by omega) (by omega); have p22 := p 2 2 (by omega) (by omega)
  have h : i = 0 ∨ i = 1 ∨ i = 2 ∨ i = 3 := by omega
  rcases h with rfl | rfl | rfl | rfl <;> (simp only [tot, rowS, pw]; omega)
theorem tot_prod {a b : Nat → Int} (a3 : a 3 = 0) (a4 : a 4 = 0) (a5 : a 5 = 0) (b3 : b 3 = 0) (b4 : b 4 = 0) (b5 : b 5 = 0) : tot a b 3 = val6 a * val6 b := by
  simp only [tot, rowS, pw, val6, a3, a4, a5, b3, b4, b5]
  grind
/-- One step of the multiplication. -/
theorem mul_step {d : Nat → Int} {j : Nat} (hj : j < 6) (hd : Dig d) {p c t : Int} (p0 : 0 ≤ p) (p1 : p ≤ 999999998000000001) (c0 : 0 ≤ c) (c1 : c < 1000000000) (h : val6 d + c * pw j = t) :
    val6 (stD d j ((d j + p + c) % 1000000000)) + (d j + p + c) / 1000000000 * pw (j + 1) = t + p * pw j ∧ Dig (stD d j ((d j + p + c) % 1000000000)) ∧ 0 ≤ (d j + p + c) / 1000000000 ∧ (d j + p + c) / 1000000000 < 1000000000 := by
  have l := hd.lo j hj
  have u := hd.hi j hj
  refine ⟨?_, hd.set j _ (by omega) (by omega), by omega, by omega⟩
  rw [val6_set d j _ hj]
  have hdm : (d j + p + c) % 1000000000 = (d j + p + c) - 1000000000 * ((d j + p + c) / 1000000000) := by omega
  rw [hdm]
  generalize (d j + p + c) / 1000000000 = q
  generalize d j = x at *
  rcases lt6 hj with rfl | rfl | rfl | rfl | rfl | rfl <;> (simp only [pw] at h ⊢; omega)
end Go.Proofs.Ytpgoahbmeedghaa
