/- Plain functions: what the checks and the small functions of package interval, oscill, link compute. No program in sight. Plain facts on integer division. No program in sight. Long division in two steps. No program in sight. The Lean type of api.SeriesTerm. The first error of a list. No program in sight. -/
import Derived.IntWalk
set_option linter.unusedVariables false
set_option linter.unusedSimpArgs false
namespace Go.Proofs.YtcgnhnmigmdalaaGreatDoor
section
/-- interval.Check and ephemerisref2.SpanErr. -/
def spanErr (lo hi : Int) : Int :=
  if lo < -1000000000000000000 ∨ 1000000000000000000 < lo ∨ hi < -1000000000000000000 ∨ 1000000000000000000 < hi then 3 else if hi < lo then 9 else 0
/-- oscill.Times and ephemerisref2.TimesErr. -/
def timesErr (lo hi : Int) : Int := if lo < -100000000000000000 ∨ 100000000000000000 < hi then 3 else spanErr lo hi
theorem spanErr_zero {lo hi : Int} (h : spanErr lo hi = 0) : -1000000000000000000 ≤ lo ∧ lo ≤ hi ∧ hi ≤ 1000000000000000000 := by
  unfold spanErr at h; repeat' split at h
  all_goals omega
theorem timesErr_zero {lo hi : Int} (h : timesErr lo hi = 0) : -100000000000000000 ≤ lo ∧ lo ≤ hi ∧ hi ≤ 100000000000000000 := by
  unfold timesErr at h; split at h
  · omega
  · have := spanErr_zero h; omega
end
section
theorem tdiv_pos (a b : Int) (hb : 0 < b) (h : 0 ≤ a) : a.tdiv b = a / b ∧ a.tmod b = a % b :=
  ⟨Int.tdiv_eq_ediv_of_nonneg h, Int.tmod_eq_emod_of_nonneg h⟩
theorem tdiv_neg (a b : Int) (hb : 0 < b) (h : a < 0) : (a.tmod b = 0 → a.tdiv b = a / b ∧ a % b = 0) ∧ (a.tmod b ≠ 0 → a.tdiv b - 1 = a / b ∧ a.tmod b + b = a % b ∧ a.tmod b < 0) := by
  have h1 := Int.tmod_add_mul_tdiv a b
  have h2 := Int.emod_add_mul_ediv a b
  have h3 := Int.emod_nonneg a (show b ≠ 0 by omega)
  have h4 := Int.emod_lt_of_pos a hb
  have h5 : a.tmod b ≤ 0 := by
    have := Int.tmod_nonneg (a := -a) b (by omega)
    rw [Int.neg_tmod] at this; omega
  have h6 : -b < a.tmod b := by
    have := Int.tmod_lt_of_pos (-a) hb
    rw [Int.neg_tmod] at this; omega
  constructor
  · intro h0
    have : b * (a.tdiv b - a / b) = a % b := by rw [Int.mul_sub]; omega
    have hq : a.tdiv b - a / b = 0 := by
      rcases Int.lt_trichotomy (a.tdiv b - a / b) 0 with hq | hq | hq
      · have : b * (a.tdiv b - a / b) ≤ b * (-1) := Int.mul_le_mul_of_nonneg_left (by omega) (by omega)
        omega
      · exact hq
      · have : b * 1 ≤ b * (a.tdiv b - a / b) := Int.mul_le_mul_of_nonneg_left (by omega) (by omega)
        omega
    rw [hq] at this
    omega
  · intro h0
    have : b * (a.tdiv b - a / b) = a % b - a.tmod b := by rw [Int.mul_sub]; omega
    have hq : a.tdiv b - a / b = 1 := by
      rcases Int.lt_trichotomy (a.tdiv b - a / b) 1 with hq | hq | hq
      · have : b * (a.tdiv b - a / b) ≤ b * 0 := Int.mul_le_mul_of_nonneg_left (by omega) (by omega)
        omega
      · exact hq
      · have : b * 2 ≤ b * (a.tdiv b - a / b) := Int.mul_le_mul_of_nonneg_left (by omega) (by omega)
        omega
    rw [hq] at this
    omega
end
section
/-- One step: U below yn 2^32 and a digit. -/
theorem div_step {U yn u : Int} (h0 : 0 ≤ U) (hn : 1 ≤ yn) (hU : U < yn * 4294967296) (u0 : 0 ≤ u) (u1 : u ≤ 4294967295) :
    0 ≤ U / yn ∧ U / yn ≤ 4294967295 ∧ 0 ≤ U - U / yn * yn ∧ U - U / yn * yn < yn ∧
    U * 4294967296 + u - U / yn * (yn * 4294967296) = (U - U / yn * yn) * 4294967296 + u ∧ 0 ≤ U * 4294967296 + u - U / yn * (yn * 4294967296) ∧ U * 4294967296 + u - U / yn * (yn * 4294967296) < yn * 4294967296 := by
  have e1 := Int.emod_nonneg U (show yn ≠ 0 by omega)
  have e2 := Int.emod_lt_of_pos U (show 0 < yn by omega)
  have e3 := Int.emod_add_mul_ediv U yn
  have e4 := Int.ediv_nonneg h0 (show 0 ≤ yn by omega)
  have e5 : U / yn < 4294967296 := by
    apply Int.ediv_lt_of_lt_mul (by omega)
    rw [Int.mul_comm]; exact hU
  generalize hq : U / yn = q at *
  generalize hr : U % yn = r at *
  have e6 : q * yn = yn * q := Int.mul_comm q yn
  have e7 : q * (yn * 4294967296) = (yn * q) * 4294967296 := by rw [← Int.mul_assoc, e6]
  rw [e7, e6]
  generalize yn * q = m at *
  refine ⟨e4, by omega, by omega, by omega, by omega, by omega, by omega⟩
theorem div_twoU {hi lo y S T Y yn U L V : Int} (S1 : 1 ≤ S) (hST : S * T = 18446744073709551616) (hT : 1 ≤ T) (h1 : 0 ≤ hi) (h2 : hi < y) (yn1 : 1 ≤ yn)
    (l0 : 0 ≤ lo) (l1 : lo < 18446744073709551616) (hY : Y = y * S) (hYn : Y = yn * 4294967296) (hU : U = hi * S + lo / T) (hL : L = lo % T * S) (hV : V = U * 4294967296 + L / 4294967296 - U / yn * Y) :
    Y = yn * 4294967296 ∧ 1 ≤ yn ∧ 0 ≤ U ∧ U < Y ∧ 0 ≤ lo / T ∧ lo / T < S ∧ 0 ≤ L ∧ L < 18446744073709551616 ∧ lo * S = L + (lo / T) * 18446744073709551616 ∧
      0 ≤ U / yn ∧ U / yn ≤ 4294967295 ∧ 0 ≤ U - U / yn * yn ∧ U - U / yn * yn < yn ∧ 0 ≤ V ∧ V < Y ∧ 0 ≤ V / yn ∧ V / yn ≤ 4294967295 ∧ 0 ≤ V - V / yn * yn ∧ V - V / yn * yn < yn ∧
      0 ≤ V * 4294967296 + L % 4294967296 - V / yn * Y ∧ V * 4294967296 + L % 4294967296 - V / yn * Y < Y ∧
      U / yn * 4294967296 + V / yn = (hi * 18446744073709551616 + lo) / y ∧ V * 4294967296 + L % 4294967296 - V / yn * Y = S * ((hi * 18446744073709551616 + lo) % y) := by
  have a0 := Int.emod_nonneg lo (show T ≠ 0 by omega)
  have a1 := Int.emod_lt_of_pos lo (show 0 < T by omega)
  have a2 := Int.emod_add_mul_ediv lo T
  have a3 := Int.ediv_nonneg l0 (show 0 ≤ T by omega)
  have a4 : lo / T < S := by
    apply Int.ediv_lt_of_lt_mul (by omega)
    omega
  generalize lo / T = a at *
  generalize lo % T = b at *
  have hiS : 0 ≤ hi * S := Int.mul_nonneg h1 (by omega)
  have U0 : 0 ≤ U := by omega
  have UY : U < Y := by
    have : (hi + 1) * S ≤ y * S := Int.mul_le_mul_of_nonneg_right (by omega) (by omega)
    rw [Int.add_mul, Int.one_mul] at this
    omega
  have bS0 : 0 ≤ b * S := Int.mul_nonneg a0 (by omega)
  have bS1 : b * S < 18446744073709551616 := by
    have h := Int.mul_le_mul_of_nonneg_right (show b ≤ T - 1 by omega) (show 0 ≤ S by omega)
    rw [Int.sub_mul, Int.one_mul, Int.mul_comm T S, hST] at h
    omega
  have hloS : lo * S = L + a * 18446744073709551616 := by rw [hL, ← a2, ← hST]; grind
  have un1 : 0 ≤ L / 4294967296 ∧ L / 4294967296 ≤ 4294967295 := by omega
  have un0 : 0 ≤ L % 4294967296 ∧ L % 4294967296 ≤ 4294967295 := by omega
  have hLL : L = L / 4294967296 * 4294967296 + L % 4294967296 := by omega
  obtain ⟨p1, p2, p3, p4, p5, p6, p7⟩ := div_step (u := L / 4294967296) U0 yn1 (by omega) un1.1 un1.2
  rw [← hYn] at p5 p6 p7
  rw [← hV] at p5 p6 p7
  obtain ⟨q1, q2, q3, q4, q5, q6, q7⟩ := div_step (U := V) (u := L % 4294967296) p6 yn1 (by omega) un0.1 un0.2
  rw [← hYn] at q5 q6 q7
  have key : (hi * 18446744073709551616 + lo) * S = (V * 4294967296 + L % 4294967296 - V / yn * Y) + (U / yn * 4294967296 + V / yn) * (y * S) := by
    rw [← hY, hV]
    have : (hi * 18446744073709551616 + lo) * S = U * 18446744073709551616 + L := by rw [Int.add_mul, hloS, hU]; grind
    rw [this]
    generalize U / yn = q at *
    generalize (U * 4294967296 + L / 4294967296 - q * Y) / yn = r at *
    generalize L / 4294967296 = c at *
    generalize L % 4294967296 = d at *
    rw [hLL]; grind
  generalize hW : V * 4294967296 + L % 4294967296 - V / yn * Y = W at *
  generalize hQ : U / yn * 4294967296 + V / yn = Q at *
  generalize hN : hi * 18446744073709551616 + lo = N at *
  have hWS : W = S * (N - Q * y) := by
    have : W = N * S - Q * (y * S) := by omega
    rw [this]; grind
  have hr0 : 0 ≤ N - Q * y := by
    apply Int.le_of_mul_le_mul_left (a := S) _ (by omega)
    rw [← hWS]; omega
  have hr1 : N - Q * y < y := by
    apply Int.lt_of_mul_lt_mul_left (a := S) _ (by omega)
    rw [← hWS, Int.mul_comm S y, ← hY]; exact q7
  have hy : 0 < y := by omega
  have hQ' : Q = N / y := by
    have h3 : N = (N - Q * y) + y * Q := by rw [Int.mul_comm y Q]; omega
    rw [h3, Int.add_mul_ediv_left _ _ (by omega), Int.ediv_eq_zero_of_lt hr0 hr1, Int.zero_add]
  have hR' : N - Q * y = N % y := by
    have := Int.emod_add_mul_ediv N y
    rw [← hQ', Int.mul_comm] at this
    omega
  refine ⟨hYn, yn1, U0, UY, a3, a4, by omega, by omega, hloS, p1, p2, p3, p4, p6, p7, q1, q2, q3, q4, q6, q7, hQ', ?_⟩
  rw [hWS, hR']
end
section
structure Tm where
  amp : Int
  ph : Int
  rt : Int
instance : Inhabited Tm := ⟨⟨0, 0, 0⟩⟩
end
section
def fe {α : Type} (f : α → Int) (l : List α) : Int := l.foldl (fun e x => if e = 0 then f x else e) 0
theorem fe_take {α : Type} (l : List α) (k : Nat) (h : k < l.length) : l.take (k + 1) = l.take k ++ [l[k]] := by
  rw [List.take_succ_eq_append_getElem h]
theorem fe_snoc {α : Type} (f : α → Int) (l : List α) (k : Nat) (h : k < l.length) : fe f (l.take (k + 1)) = if fe f (l.take k) = 0 then f l[k] else fe f (l.take k) := by
  unfold fe; rw [fe_take l k h, List.foldl_append]; rfl
theorem fe_stay {α : Type} (f : α → Int) (l : List α) (k : Nat) (h : k ≤ l.length) (hk : fe f (l.take k) ≠ 0) : fe f l = fe f (l.take k) := by
  have key : ∀ n, k + n ≤ l.length → fe f (l.take (k + n)) = fe f (l.take k) := by
    intro n
    induction n with
    | zero => intro _; rfl
    | succ n ih =>
      intro hn
      rw [show k + (n + 1) = (k + n) + 1 from rfl, fe_snoc f l (k + n) (by omega), ih (by omega), if_neg hk]
  have := key (l.length - k) (by omega)
  rw [show k + (l.length - k) = l.length from by omega, List.take_of_length_le (Nat.le_refl _)] at this
  exact this
theorem fe_at {α : Type} (f : α → Int) (l : List α) (k : Nat) (h : k < l.length) (h0 : fe f (l.take k) = 0) (h1 : f l[k] ≠ 0) : fe f l = f l[k] := by
  have hs := fe_snoc f l k h
  rw [if_pos h0] at hs
  rw [fe_stay f l (k + 1) (by omega) (by rw [hs]; exact h1), hs]
theorem fe_zero {α : Type} {f : α → Int} {l : List α} (h : fe f l = 0) : ∀ k (hk : k < l.length), f l[k] = 0 := by
  intro k hk
  have h0 : ∀ j, j ≤ l.length → fe f (l.take j) = 0 := by
    intro j hj
    by_cases hz : fe f (l.take j) = 0
    · exact hz
    · rw [fe_stay f l j hj hz] at h; exact absurd h hz
  have := fe_snoc f l k hk
  rw [h0 (k + 1) (by omega), if_pos (h0 k (by omega))] at this
  exact this.symm
theorem fe_mem {α : Type} {f : α → Int} {l : List α} (h : fe f l = 0) (k : Nat) : fe f (l.take k) = 0 := by
  by_cases hk : k ≤ l.length
  · by_cases hz : fe f (l.take k) = 0
    · exact hz
    · rw [fe_stay f l k hk hz] at h; exact absurd h hz
  · rw [List.take_of_length_le (by omega)]; exact h
end
end Go.Proofs.YtcgnhnmigmdalaaGreatDoor
