/- Tightest differences by three nested loops over a matrix (Floyd and Warshall), in plain terms. No program in sight. -/
import Derived.Test.YtdpddidfdifbhaaPlainBound
import Derived.Test.YtdpddidfdifbhaaPlainFe
set_option linter.unusedVariables false
set_option linter.unusedSimpArgs false
namespace Go.Proofs.Ytdpddidfdifbhaa
/-- A sum over the first numbers. -/
def sumN (f : Nat → Int) : Nat → Int
  | 0 => 0
  | k + 1 => sumN f k + f k
theorem sumN_le {f g : Nat → Int} : ∀ k, (∀ m, m < k → f m ≤ g m) → sumN f k ≤ sumN g k
  | 0, _ => Int.le_refl _
  | k + 1, h => by
    have h1 := sumN_le k (fun m hm => h m (by omega))
    have h2 := h k (by omega)
    show sumN f k + f k ≤ sumN g k + g k
    omega
theorem sumN_add {f g h : Nat → Int} : ∀ k, (∀ m, m < k → f m + g m ≤ h m) → sumN f k + sumN g k ≤ sumN h k
  | 0, _ => Int.le_refl _
  | k + 1, hh => by
    have h1 := sumN_add k (fun m hm => hh m (by omega))
    have h2 := hh k (by omega)
    show sumN f k + f k + (sumN g k + g k) ≤ sumN h k + h k
    omega
theorem sumN_const (c : Int) : ∀ k, sumN (fun _ => c) k = c * k
  | 0 => by simp [sumN]
  | k + 1 => by
    show sumN (fun _ => c) k + c = c * ((k + 1 : Nat) : Int)
    rw [sumN_const c k, Int.natCast_succ, Int.mul_add, Int.mul_one]
theorem sumN_set {f g : Nat → Int} (b : Nat) : ∀ k, b < k → (∀ m, m < k → m ≠ b → g m = f m) → sumN g k = sumN f k + (g b - f b)
  | 0, h, _ => by omega
  | k + 1, h, hh => by
    show sumN g k + g k = sumN f k + f k + _
    by_cases e : b = k
    · subst e
      have : sumN g b = sumN f b := by
        have h1 := sumN_le (f := g) (g := f) b (fun m hm => by rw [hh m (by omega) (by omega)]; exact Int.le_refl _)
        have h2 := sumN_le (f := f) (g := g) b (fun m hm => by rw [hh m (by omega) (by omega)]; exact Int.le_refl _)
        omega
      omega
    · have h1 := sumN_set b k (by omega) (fun m hm => hh m (by omega))
      have h2 := hh k (by omega) (fun e' => e e'.symm)
      omega
def FAR : Int := 1000000000
/-- A matrix with one place turned. -/
def stM (D : Nat → Nat → Int) (i j : Nat) (v : Int) : Nat → Nat → Int := fun x y => if x = i ∧ y = j then v else D x y
def m0 : Nat → Nat → Int := fun i j => if i = j then 0 else FAR
def addE (D : Nat → Nat → Int) (i j : Nat) (w : Int) : Nat → Nat → Int := stM D i j (min (D i j) w)
def addC (D : Nat → Nat → Int) (c : Bd) : Nat → Nat → Int := addE (addE D c.a.toNat c.b.toNat c.hi) c.b.toNat c.a.toNat (-c.lo)
def mInit (l : List Bd) : Nat → Nat → Int := l.foldl addC m0
theorem mInit_snoc (l : List Bd) (k : Nat) (h : k < l.length) : mInit (l.take (k + 1)) = addC (mInit (l.take k)) l[k] := by
  unfold mInit; rw [fe_take l k h, List.foldl_append]; rfl
/-- One round of the outermost loop. -/
def nw (D : Nat → Nat → Int) (k : Nat) : Nat → Nat → Int := fun x y => if D x k < FAR ∧ D k y < FAR then min (D x y) (D x k + D k y) else D x y
def fw (l : List Bd) : Nat → Nat → Nat → Int
  | 0 => mInit l
  | k + 1 => nw (fw l k) k
/-- Valid constraints. -/
structure BdOk (n : Nat) (l : List Bd) : Prop where
  n1 : 1 ≤ n
  n12 : n ≤ 12
  len : l.length ≤ 40
  a0 : ∀ c ∈ l, 0 ≤ c.a
  an : ∀ c ∈ l, c.a < n
  b0 : ∀ c ∈ l, 0 ≤ c.b
  bn : ∀ c ∈ l, c.b < n
  ne : ∀ c ∈ l, c.a ≠ c.b
  lo : ∀ c ∈ l, -8000000 ≤ c.lo
  le : ∀ c ∈ l, c.lo ≤ c.hi
  hi : ∀ c ∈ l, c.hi ≤ 8000000
/-- The edges of constraints. -/
def Ed (l : List Bd) (a b : Nat) (w : Int) : Prop := ∃ c ∈ l, (c.a.toNat = a ∧ c.b.toNat = b ∧ w = c.hi) ∨ (c.b.toNat = a ∧ c.a.toNat = b ∧ w = -c.lo)
theorem Ed.bd {n : Nat} {l : List Bd} (hv : BdOk n l) {a b : Nat} {w : Int} (h : Ed l a b w) : a < n ∧ b < n ∧ a ≠ b ∧ -8000000 ≤ w ∧ w ≤ 8000000 := by
  obtain ⟨c, hc, h⟩ := h
  have h1 := hv.a0 c hc
  have h2 := hv.an c hc
  have h3 := hv.b0 c hc
  have h4 := hv.bn c hc
  have h5 := hv.ne c hc
  have h6 := hv.lo c hc
  have h7 := hv.le c hc
  have h8 := hv.hi c hc
  rcases h with ⟨rfl, rfl, rfl⟩ | ⟨rfl, rfl, rfl⟩ <;> omega
/-- What the matrix is like before the three loops. -/
structure Ini (E : Nat → Nat → Int → Prop) (D : Nat → Nat → Int) : Prop where
  dg : ∀ i, D i i = 0
  far : ∀ i j, D i j ≤ FAR
  snd : ∀ i j, i ≠ j → D i j < FAR → E i j (D i j)
  cmp : ∀ i j w, E i j w → D i j ≤ w
theorem ini_edge {E : Nat → Nat → Int → Prop} {D : Nat → Nat → Int} (h : Ini E D) {i j : Nat} {w : Int} (hij : i ≠ j) (hw : w ≤ 8000000) : Ini (fun a b v => E a b v ∨ (a = i ∧ b = j ∧ v = w)) (addE D i j w) := by
  have hF : FAR = 1000000000 := rfl
  refine ⟨fun x => ?_, fun x y => ?_, fun x y hxy hlt => ?_, fun x y v hv => ?_⟩
  · unfold addE stM
    rw [if_neg (by omega)]; exact h.dg x
  · unfold addE stM
    have := h.far x y
    split
    · rename_i q; obtain ⟨rfl, rfl⟩ := q; omega
    · exact this
  · unfold addE stM at hlt ⊢
    split
    · rename_i q; obtain ⟨rfl, rfl⟩ := q
      rw [if_pos ⟨rfl, rfl⟩] at hlt
      by_cases q : D x y ≤ w
      · rw [Int.min_eq_left q] at hlt ⊢
        exact .inl (h.snd x y hxy hlt)
      · rw [Int.min_eq_right (by omega)]
        exact .inr ⟨rfl, rfl, rfl⟩
    · rename_i q
      rw [if_neg q] at hlt
      exact .inl (h.snd x y hxy hlt)
  · unfold addE stM
    split
    · rename_i q; obtain ⟨rfl, rfl⟩ := q
      rcases hv with hv | ⟨_, _, rfl⟩
      · have := h.cmp x y v hv; omega
      · omega
    · rename_i q
      rcases hv with hv | ⟨rfl, rfl, rfl⟩
      · exact h.cmp x y v hv
      · exact absurd ⟨rfl, rfl⟩ q
theorem Ini.congr {E E' : Nat → Nat → Int → Prop} {D : Nat → Nat → Int} (h : Ini E D) (e : ∀ a b w, E a b w ↔ E' a b w) : Ini E' D :=
  ⟨h.dg, h.far, fun i j hij hlt => (e _ _ _).1 (h.snd i j hij hlt), fun i j w hw => h.cmp i j w ((e _ _ _).2 hw)⟩
theorem ini_fold : ∀ (l : List Bd) (E : Nat → Nat → Int → Prop) (D : Nat → Nat → Int), (∀ c ∈ l, c.a.toNat ≠ c.b.toNat ∧ c.hi ≤ 8000000 ∧ -c.lo ≤ 8000000) → Ini E D → Ini (fun a b w => E a b w ∨ Ed l a b w) (l.foldl addC D)
  | [], E, D, _, h => h.congr (fun a b w => by constructor <;> intro hh; exact .inl hh; rcases hh with hh | ⟨c, hc, _⟩; exact hh; simp at hc)
  | c :: l, E, D, hc, h => by
    obtain ⟨c1, c2, c3⟩ := hc c (by simp)
    have h1 := ini_edge (ini_edge h (i := c.a.toNat) (j := c.b.toNat) (w := c.hi) c1 c2) (i := c.b.toNat) (j := c.a.toNat) (w := -c.lo) (fun e => c1 e.symm) c3
    have h2 := ini_fold l _ _ (fun d hd => hc d (by simp [hd])) h1
    refine h2.congr (fun a b w => ?_)
    constructor
    · rintro (((hh | ⟨rfl, rfl, rfl⟩) | ⟨rfl, rfl, rfl⟩) | ⟨d, hd, hh⟩)
      · exact .inl hh
      · exact .inr ⟨c, by simp, .inl ⟨rfl, rfl, rfl⟩⟩
      · exact .inr ⟨c, by simp, .inr ⟨rfl, rfl, rfl⟩⟩
      · exact .inr ⟨d, by simp [hd], hh⟩
    · rintro (hh | ⟨d, hd, hh⟩)
      · exact .inl (.inl (.inl hh))
      · rcases List.mem_cons.1 hd with rfl | hd
        · rcases hh with ⟨rfl, rfl, rfl⟩ | ⟨rfl, rfl, rfl⟩
          · exact .inl (.inl (.inr ⟨rfl, rfl, rfl⟩))
          · exact .inl (.inr ⟨rfl, rfl, rfl⟩)
        · exact .inr ⟨d, hd, hh⟩
theorem ini_mInit {n : Nat} {l : List Bd} (hv : BdOk n l) : Ini (Ed l) (mInit l) := by
  have h0 : Ini (fun _ _ _ => False) m0 := by
    refine ⟨fun i => by simp [m0], fun i j => ?_, fun i j hij hlt => ?_, fun _ _ _ h => h.elim⟩
    · unfold m0; split <;> simp [FAR]
    · unfold m0 at hlt; rw [if_neg hij] at hlt; omega
  have h1 := ini_fold l _ _ (fun c hc => by
    have h1 := hv.a0 c hc
    have h3 := hv.b0 c hc
    have h5 := hv.ne c hc
    have h6 := hv.lo c hc
    have h7 := hv.le c hc
    have h8 := hv.hi c hc
    exact ⟨by omega, by omega, by omega⟩) h0
  exact h1.congr (fun a b w => by constructor; rintro (h | h); exact h.elim; exact h; intro h; exact .inr h)
/-- Is the way from i to j over m known? -/
def via (D : Nat → Nat → Int) (i j : Nat) : Nat → Int := fun m => if D i m < FAR ∧ D m j < FAR then 1 else 0
theorem via_pos {D : Nat → Nat → Int} {i j m : Nat} (h : D i m < FAR ∧ D m j < FAR) : via D i j m = 1 := by unfold via; rw [if_pos h]
theorem via_neg {D : Nat → Nat → Int} {i j m : Nat} (h : ¬ (D i m < FAR ∧ D m j < FAR)) : via D i j m = 0 := by unfold via; rw [if_neg h]
theorem via_01 (D : Nat → Nat → Int) (i j m : Nat) : 0 ≤ via D i j m ∧ via D i j m ≤ 1 := by unfold via; split <;> omega
theorem via_le (D : Nat → Nat → Int) (i j k : Nat) : sumN (via D i j) k ≤ k := by
  have := sumN_le (f := via D i j) (g := fun _ => 1) k (fun m _ => (via_01 D i j m).2)
  rw [sumN_const] at this; omega
/-- What the matrix is like after k rounds without a contradiction. -/
structure Good (n k : Nat) (D : Nat → Nat → Int) : Prop where
  dg : ∀ i, i < n → D i i = 0
  far : ∀ i j, i < n → j < n → D i j ≤ FAR
  tri : ∀ m i j, m < k → m < n → i < n → j < n → D i m < FAR → D m j < FAR → D i j ≤ D i m + D m j
  up : ∀ i j, i < n → j < n → D i j < FAR → D i j ≤ 8000000 * (sumN (via D i j) k + 1)
theorem Good.ub {n k : Nat} {D : Nat → Nat → Int} (h : Good n k D) (hk : k ≤ 12) {i j : Nat} (hi : i < n) (hj : j < n) (hf : D i j < FAR) : D i j ≤ 104000000 := by
  have h1 := h.up i j hi hj hf
  have h2 := via_le D i j k
  omega
theorem good_zero {n : Nat} {l : List Bd} (hv : BdOk n l) : Good n 0 (mInit l) := by
  have h := ini_mInit hv
  refine ⟨fun i _ => h.dg i, fun i j _ _ => h.far i j, fun m i j hm => by omega, fun i j hi hj hf => ?_⟩
  show mInit l i j ≤ 8000000 * (0 + 1)
  by_cases e : i = j
  · subst e; rw [h.dg]; omega
  · have := (h.snd i j e hf).bd hv; omega
theorem nw_le (D : Nat → Nat → Int) (k i j : Nat) : nw D k i j ≤ D i j := by unfold nw; split <;> omega
theorem nw_cases (D : Nat → Nat → Int) (k i j : Nat) : nw D k i j = D i j ∨ ((D i k < FAR ∧ D k j < FAR) ∧ nw D k i j = D i k + D k j ∧ D i k + D k j < D i j) := by
  unfold nw
  split
  · rename_i h
    by_cases q : D i j ≤ D i k + D k j
    · left; omega
    · right; exact ⟨h, by omega, by omega⟩
  · exact .inl rfl
theorem nw_via {D : Nat → Nat → Int} {k i j : Nat} (h1 : D i k < FAR) (h2 : D k j < FAR) : nw D k i j ≤ D i k + D k j := by unfold nw; rw [if_pos ⟨h1, h2⟩]; omega
theorem nw_row {n k : Nat} {D : Nat → Nat → Int} (h : Good n k D) (hk : k < n) (j : Nat) : nw D k k j = D k j := by
  have := h.dg k hk
  unfold nw; split <;> omega
theorem nw_col {n k : Nat} {D : Nat → Nat → Int} (h : Good n k D) (hk : k < n) (i : Nat) : nw D k i k = D i k := by
  have := h.dg k hk
  unfold nw; split <;> omega
theorem good_succ {n k : Nat} {D : Nat → Nat → Int} (h : Good n k D) (hn : n ≤ 12) (hk : k < n) (hneg : ∀ i, i < n → 0 ≤ nw D k i i) : Good n (k + 1) (nw D k) := by
  have hF : FAR = 1000000000 := rfl
  have ub := fun {i j : Nat} (hi : i < n) (hj : j < n) (hf : D i j < FAR) => h.ub (by omega) hi hj hf
  have fin1 : ∀ i j, i < n → j < n → D i k < FAR → D k j < FAR → nw D k i j < FAR := fun i j hi hj h1 h2 => by
    have := nw_via h1 h2
    have := ub hi hk h1
    have := ub hk hj h2
    omega
  have fin0 : ∀ i j, D i j < FAR → nw D k i j < FAR := fun i j h1 => by have := nw_le D k i j; omega
  refine ⟨fun i hi => ?_, fun i j hi hj => ?_, fun m i j hm hmn hi hj h1 h2 => ?_, fun i j hi hj hf => ?_⟩
  · have h1 := nw_le D k i i
    have h2 := hneg i hi
    have h3 := h.dg i hi
    omega
  · have h1 := nw_le D k i j
    have h2 := h.far i j hi hj
    omega
  · have hdk := h.dg k hk
    by_cases e : m = k
    · subst e
      rw [nw_col h hk] at h1 ⊢
      rw [nw_row h hk] at h2 ⊢
      exact nw_via h1 h2
    · have hm' : m < k := by omega
      have t := h.tri m
      have le := nw_le D k i j
      rcases nw_cases D k i m with c1 | ⟨⟨c1, c2⟩, c3, _⟩ <;> rcases nw_cases D k m j with d1 | ⟨⟨d1, d2⟩, d3, _⟩
      · rw [c1] at h1 ⊢; rw [d1] at h2 ⊢
        have := t i j hm' hmn hi hj h1 h2
        omega
      · rw [c1] at h1 ⊢
        have g1 := t i k hm' hmn hi hk h1 d1
        have u1 := ub hi hmn h1
        have u2 := ub hmn hk d1
        have := nw_via (D := D) (k := k) (i := i) (j := j) (by omega) d2
        omega
      · rw [d1] at h2 ⊢
        have g1 := t k j hm' hmn hk hj c2 h2
        have u1 := ub hk hmn c2
        have u2 := ub hmn hj h2
        have := nw_via (D := D) (k := k) (i := i) (j := j) c1 (by omega)
        omega
      · have g1 := t k k hm' hmn hk hk c2 d1
        have := nw_via (D := D) (k := k) (i := i) (j := j) c1 d2
        omega
  · have mono : sumN (via D i j) k ≤ sumN (via (nw D k) i j) k := sumN_le k (fun m hm => by
      by_cases q : D i m < FAR ∧ D m j < FAR
      · rw [via_pos q, via_pos ⟨fin0 _ _ q.1, fin0 _ _ q.2⟩]; exact Int.le_refl _
      · rw [via_neg q]; exact (via_01 _ _ _ _).1)
    have h01 := via_01 (nw D k) i j k
    show nw D k i j ≤ 8000000 * (sumN (via (nw D k) i j) k + via (nw D k) i j k + 1)
    by_cases q : D i j < FAR
    · have := h.up i j hi hj q
      have := nw_le D k i j
      omega
    · rcases nw_cases D k i j with c1 | ⟨⟨c1, c2⟩, c3, _⟩
      · omega
      · have u1 := h.up i k hi hk c1
        have u2 := h.up k j hk hj c2
        have v1 : via (nw D k) i j k = 1 := via_pos ⟨by rw [nw_col h hk]; exact c1, by rw [nw_row h hk]; exact c2⟩
        have add := sumN_add (f := via D i k) (g := via D k j) (h := via (nw D k) i j) k (fun m hm => by
          have hmn : m < n := by omega
          by_cases q1 : D i m < FAR ∧ D m k < FAR
          · have q2 : ¬ (D k m < FAR ∧ D m j < FAR) := fun q2 => by
              have := h.tri m i j hm hmn hi hj q1.1 q2.2
              have := ub hi hmn q1.1
              have := ub hmn hj q2.2
              omega
            rw [via_pos q1, via_neg q2, via_pos ⟨fin0 _ _ q1.1, fin1 m j hmn hj q1.2 c2⟩]; omega
          · by_cases q2 : D k m < FAR ∧ D m j < FAR
            · rw [via_neg q1, via_pos q2, via_pos ⟨fin1 i m hi hmn c1 q2.1, fin0 _ _ q2.2⟩]; omega
            · rw [via_neg q1, via_neg q2]; exact (via_01 _ _ _ _).1)
        omega
/-- No contradiction comes up in any round. -/
def FwOk (n : Nat) (l : List Bd) : Prop := ∀ k, k < n → ∀ i, i < n → 0 ≤ fw l (k + 1) i i
theorem good_fw {n : Nat} {l : List Bd} (hv : BdOk n l) : ∀ k, k ≤ n → (∀ m, m < k → ∀ i, i < n → 0 ≤ fw l (m + 1) i i) → Good n k (fw l k)
  | 0, _, _ => good_zero hv
  | k + 1, hk, h => good_succ (good_fw hv k (by omega) (fun m hm => h m (by omega))) hv.n12 (by omega) (h k (by omega))
theorem fw_low {n : Nat} {l : List Bd} (hv : BdOk n l) : ∀ k i j, -8000000 * 2 ^ k ≤ fw l k i j
  | 0, i, j => by
    have h := ini_mInit hv
    show -8000000 * 1 ≤ mInit l i j
    have hF : FAR = 1000000000 := rfl
    by_cases e : i = j
    · subst e; rw [h.dg]; omega
    · by_cases q : mInit l i j < FAR
      · have := (h.snd i j e q).bd hv; omega
      · omega
  | k + 1, i, j => by
    have h1 := fw_low hv k i j
    have h2 := fw_low hv k i k
    have h3 := fw_low hv k k j
    have hp : (2 : Int) ^ (k + 1) = 2 ^ k * 2 := by rw [Int.pow_succ]
    have hpos : (0 : Int) < 2 ^ k := Int.pow_pos (by omega)
    rw [hp]
    show _ ≤ nw (fw l k) k i j
    rcases nw_cases (fw l k) k i j with c | ⟨_, c, _⟩ <;> rw [c] <;> omega
theorem fw_low12 {n : Nat} {l : List Bd} (hv : BdOk n l) {k : Nat} (hk : k ≤ 12) (i j : Nat) : -40000000000 ≤ fw l k i j := by
  have h := fw_low hv k i j
  have h2 : (2 : Nat) ^ k ≤ 2 ^ 12 := Nat.pow_le_pow_right (by omega) hk
  have h3 : (2 : Nat) ^ 12 = 4096 := by decide
  have h4 : ((2 ^ k : Nat) : Int) = (2 : Int) ^ k := Int.natCast_pow 2 k
  omega
theorem fw_mono {l : List Bd} : ∀ k i j, fw l k i j ≤ mInit l i j
  | 0, _, _ => Int.le_refl _
  | k + 1, i, j => Int.le_trans (nw_le (fw l k) k i j) (fw_mono k i j)
/-- A fixed point of relaxation is below every difference that the matrix tells, as long as there is no contradiction. -/
theorem relaxed_le {n : Nat} {l : List Bd} (hv : BdOk n l) {d : Nat → Int} (hub : ∀ x, x < n → d x < FAR → d x ≤ 104000000) (hrel : ∀ a b w, Ed l a b w → d a < FAR → d b ≤ d a + w) :
    ∀ k, k ≤ n → (∀ m, m + 1 < k → ∀ i, i < n → 0 ≤ fw l (m + 1) i i) → ∀ x y, x < n → y < n → d x < FAR → fw l k x y < FAR → d y ≤ d x + fw l k x y
  | 0, _, _, x, y, hx, hy, h1, h2 => by
    have h := ini_mInit hv
    have h2' : mInit l x y < FAR := h2
    show d y ≤ d x + mInit l x y
    by_cases e : x = y
    · subst e; rw [h.dg]; omega
    · exact hrel x y _ (h.snd x y e h2') h1
  | k + 1, hk, hok, x, y, hx, hy, h1, h2 => by
    have hF : FAR = 1000000000 := rfl
    have ih := relaxed_le hv hub hrel k (by omega) (fun m hm => hok m (by omega))
    have g := good_fw hv k (by omega) (fun m hm => hok m (by omega))
    have h12 := hv.n12
    show d y ≤ d x + nw (fw l k) k x y
    have h2' : nw (fw l k) k x y < FAR := h2
    rcases nw_cases (fw l k) k x y with c | ⟨⟨c1, c2⟩, c3, _⟩
    · rw [c] at h2' ⊢; exact ih x y hx hy h1 h2'
    · rw [c3]
      have u1 := g.ub (by omega) hx (show k < n by omega) c1
      have e1 := ih x k hx (by omega) h1 c1
      have u2 := hub x hx h1
      have e2 := ih k y (by omega) hy (by omega) c2
      omega
/-- At the end: every difference satisfies all constraints. -/
theorem fw_relaxed {n : Nat} {l : List Bd} (hv : BdOk n l) (hok : FwOk n l) {i a b : Nat} {w : Int} (hi : i < n) (h : Ed l a b w) (hf : fw l n i a < FAR) : fw l n i b ≤ fw l n i a + w := by
  have g := good_fw hv n (Nat.le_refl _) (fun m hm => hok m hm)
  have hF : FAR = 1000000000 := rfl
  obtain ⟨h1, h2, h3, h4, h5⟩ := h.bd hv
  have e1 := fw_mono (l := l) n a b
  have e2 := (ini_mInit hv).cmp a b w h
  have := g.tri a i b h1 h1 hi h2 hf (by omega)
  omega
end Go.Proofs.Ytdpddidfdifbhaa
