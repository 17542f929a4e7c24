/- One more constraint at a tightest bound, or beyond it, in plain terms. No program in sight. -/
import Derived.Test.YtdpddidfdifbhaaPlainFw
import Derived.Test.YtdpddidfdifbhaaPlainFits
set_option linter.unusedVariables false
set_option linter.unusedSimpArgs false
namespace Go.Proofs.Ytdpddidfdifbhaa
theorem Ed.more {l : List Bd} {c : Bd} {a b : Nat} {w : Int} : Ed (l ++ [c]) a b w ↔ Ed l a b w ∨ (c.a.toNat = a ∧ c.b.toNat = b ∧ w = c.hi) ∨ (c.b.toNat = a ∧ c.a.toNat = b ∧ w = -c.lo) := by
  constructor
  · rintro ⟨d, hd, h⟩
    rcases List.mem_append.1 hd with hd | hd
    · exact .inl ⟨d, hd, h⟩
    · simp at hd; subst hd; exact .inr h
  · rintro (⟨d, hd, h⟩ | h)
    · exact ⟨d, List.mem_append_left _ hd, h⟩
    · exact ⟨c, by simp, h⟩
theorem Ed.back {l : List Bd} {a b : Nat} {w : Int} (h : Ed l a b w) : ∃ v, Ed l b a v := by
  obtain ⟨c, hc, h⟩ := h
  rcases h with ⟨h1, h2, _⟩ | ⟨h1, h2, _⟩
  · exact ⟨-c.lo, c, hc, .inr ⟨h2, h1, rfl⟩⟩
  · exact ⟨c.hi, c, hc, .inl ⟨h2, h1, rfl⟩⟩
/-- Numbers that satisfy all constraints rule a contradiction out. -/
theorem pot_ok {n : Nat} {l : List Bd} (hv : BdOk n l) {p : Nat → Int} (hb : ∀ x, x < n → p x ≤ 104000000) (hp : ∀ a b w, Ed l a b w → p b ≤ p a + w) : FwOk n l := by
  have hF : FAR = 1000000000 := rfl
  have key : ∀ k, k ≤ n → ∀ m, m < k → ∀ i, i < n → 0 ≤ fw l (m + 1) i i := by
    intro k
    induction k with
    | zero => intro _ m hm; omega
    | succ k ih =>
      intro hk m hm i hi
      by_cases e : m = k
      · subst e
        by_cases hf : fw l (m + 1) i i < FAR
        · have := relaxed_le hv (d := p) (fun x hx _ => hb x hx) (fun a b w h _ => hp a b w h) (m + 1) (by omega) (fun q hq j hj => ih (by omega) q (by omega) j hj) i i hi hi (by have := hb i hi; omega) hf
          omega
        · omega
      · exact ih (by omega) m (by omega) i hi
  exact fun k hk i hi => key n (Nat.le_refl _) k hk i hi
section
variable {n : Nat} {l : List Bd} {c : Bd} {i k : Nat} {q : Nat → Int}
/-- The bounds of the difference of two events, both known. -/
structure Two (n : Nat) (l : List Bd) (i k : Nat) : Prop where
  hi : i < n
  hk : k < n
  ne : i ≠ k
  f1 : fw l n i k < FAR
  f2 : fw l n k i < FAR
theorem fw_le_edge (hv : BdOk n l) {a b : Nat} {w : Int} (h : Ed l a b w) : fw l n a b ≤ w := by
  have e1 := fw_mono (l := l) n a b
  have e2 := (ini_mInit hv).cmp a b w h
  omega
/-- From one event on: known differences, and elsewhere any numbers that fit. -/
def joinP (l : List Bd) (n s : Nat) (q : Nat → Int) : Nat → Int := fun v => if fw l n s v < FAR then fw l n s v else q v
theorem joinP_ok (hv : BdOk n l) (hok : FwOk n l) (hq : ∀ a b w, Ed l a b w → q b ≤ q a + w) {s : Nat} (hs : s < n) : ∀ a b w, Ed l a b w → joinP l n s q b ≤ joinP l n s q a + w := by
  intro a b w h
  have hF : FAR = 1000000000 := rfl
  have g := good_fw hv n (Nat.le_refl _) (fun m hm => hok m hm)
  have n12 := hv.n12
  obtain ⟨e1, e2, e3, e4, e5⟩ := h.bd hv
  unfold joinP
  by_cases ha : fw l n s a < FAR
  · have r := fw_relaxed hv hok hs h ha
    have u := g.ub n12 hs e1 ha
    rw [if_pos ha, if_pos (by omega)]
    exact r
  · rw [if_neg ha]
    by_cases hb : fw l n s b < FAR
    · obtain ⟨v, hback⟩ := h.back
      obtain ⟨_, _, _, e6, e7⟩ := hback.bd hv
      have r := fw_relaxed hv hok hs hback hb
      have u := g.ub n12 hs e2 hb
      omega
    · rw [if_neg hb]; exact hq a b w h
theorem joinP_hi (hv : BdOk n l) (hok : FwOk n l) (hq : ∀ v, v < n → q v ≤ 104000000) {s : Nat} (hs : s < n) : ∀ v, v < n → joinP l n s q v ≤ 104000000 := by
  intro v hv'
  have g := good_fw hv n (Nat.le_refl _) (fun m hm => hok m hm)
  unfold joinP
  split
  · rename_i h; exact g.ub hv.n12 hs hv' h
  · exact hq v hv'
/-- A constraint at the greatest difference leaves a solution. -/
theorem at_hi (hv : BdOk n l) (hok : FwOk n l) (hv' : BdOk n (l ++ [c])) (T : Two n l i k) (hq : ∀ a b w, Ed l a b w → q b ≤ q a + w) (hq2 : ∀ v, v < n → q v ≤ 104000000) (ca : c.a = i) (cb : c.b = k) (cl : c.lo = fw l n i k) (ch : c.hi = fw l n i k) : FwOk n (l ++ [c]) := by
  have g := good_fw hv n (Nat.le_refl _) (fun m hm => hok m hm)
  have hF : FAR = 1000000000 := rfl
  have dg := g.dg i T.hi
  refine pot_ok hv' (p := joinP l n i q) (joinP_hi hv hok hq2 T.hi) (fun a b w h => ?_)
  rcases Ed.more.1 h with h | ⟨h1, h2, h3⟩ | ⟨h1, h2, h3⟩
  · exact joinP_ok hv hok hq T.hi a b w h
  · rw [ca] at h1; rw [cb] at h2
    simp at h1 h2
    subst h1 h2
    unfold joinP
    rw [if_pos T.f1, if_pos (by omega)]; omega
  · rw [cb] at h1; rw [ca] at h2
    simp at h1 h2
    subst h1 h2
    unfold joinP
    rw [if_pos T.f1, if_pos (by omega)]; omega
/-- So does one at the least. -/
theorem at_lo (hv : BdOk n l) (hok : FwOk n l) (hv' : BdOk n (l ++ [c])) (T : Two n l i k) (hq : ∀ a b w, Ed l a b w → q b ≤ q a + w) (hq2 : ∀ v, v < n → q v ≤ 104000000) (ca : c.a = i) (cb : c.b = k) (cl : c.lo = -fw l n k i) (ch : c.hi = -fw l n k i) : FwOk n (l ++ [c]) := by
  have g := good_fw hv n (Nat.le_refl _) (fun m hm => hok m hm)
  have hF : FAR = 1000000000 := rfl
  have dg := g.dg k T.hk
  refine pot_ok hv' (p := joinP l n k q) (joinP_hi hv hok hq2 T.hk) (fun a b w h => ?_)
  rcases Ed.more.1 h with h | ⟨h1, h2, h3⟩ | ⟨h1, h2, h3⟩
  · exact joinP_ok hv hok hq T.hk a b w h
  · rw [ca] at h1; rw [cb] at h2
    simp at h1 h2
    subst h1 h2
    unfold joinP
    rw [if_pos (by omega), if_pos T.f2]; omega
  · rw [cb] at h1; rw [ca] at h2
    simp at h1 h2
    subst h1 h2
    unfold joinP
    rw [if_pos T.f2, if_pos (by omega)]; omega
theorem edges_of (ca : c.a = i) (cb : c.b = k) : Ed (l ++ [c]) i k c.hi ∧ Ed (l ++ [c]) k i (-c.lo) := by
  constructor
  · exact Ed.more.2 (.inr (.inl ⟨by rw [ca]; simp, by rw [cb]; simp, rfl⟩))
  · exact Ed.more.2 (.inr (.inr ⟨by rw [cb]; simp, by rw [ca]; simp, rfl⟩))
/-- With it the difference is fixed. -/
theorem at_fix (hv' : BdOk n (l ++ [c])) (hok' : FwOk n (l ++ [c])) (hi : i < n) (hk : k < n) (ca : c.a = i) (cb : c.b = k) {d : Int} (d1 : -8000000 ≤ d) (d2 : d ≤ 8000000) (cl : c.lo = d) (ch : c.hi = d) : fw (l ++ [c]) n i k = d ∧ fw (l ++ [c]) n k i = -d := by
  have g := good_fw hv' n (Nat.le_refl _) (fun m hm => hok' m hm)
  have hF : FAR = 1000000000 := rfl
  obtain ⟨e1, e2⟩ := edges_of (l := l) ca cb
  have u1 := fw_le_edge hv' e1
  have u2 := fw_le_edge hv' e2
  rw [ch] at u1
  rw [cl] at u2
  have t := g.tri k i i hk hk hi hi (by omega) (by omega)
  have dg := g.dg i hi
  constructor <;> omega
/-- More constraints make no difference greater. -/
theorem fw_more (hv : BdOk n l) (hok : FwOk n l) (hv' : BdOk n (l ++ [c])) (hok' : FwOk n (l ++ [c])) {a b : Nat} (ha : a < n) (hb : b < n) (hf : fw l n a b < FAR) : fw (l ++ [c]) n a b ≤ fw l n a b := by
  have g := good_fw hv' n (Nat.le_refl _) (fun m hm => hok' m hm)
  have hF : FAR = 1000000000 := rfl
  have dg := g.dg a ha
  have := relaxed_le hv (d := fw (l ++ [c]) n a) (fun x hx h => g.ub hv.n12 ha hx h) (fun p q w h hp => fw_relaxed hv' hok' ha (Ed.more.2 (.inl h)) hp) n (Nat.le_refl _) (fun m hm j hj => hok m (by omega) j hj) a b ha hb (by omega) hf
  omega
/-- A constraint beyond the greatest difference is a contradiction. -/
theorem past_hi (hv : BdOk n l) (hok : FwOk n l) (hv' : BdOk n (l ++ [c])) (T : Two n l i k) (ca : c.a = i) (cb : c.b = k) (h : fw l n i k < c.lo) : ¬ FwOk n (l ++ [c]) := by
  intro hok'
  have g := good_fw hv' n (Nat.le_refl _) (fun m hm => hok' m hm)
  have hF : FAR = 1000000000 := rfl
  have e2 := fw_le_edge hv' (edges_of (l := l) ca cb).2
  have e1 := fw_more hv hok hv' hok' T.hi T.hk T.f1
  have c1 := hv'.lo c (by simp)
  have t := g.tri k i i T.hk T.hk T.hi T.hi (by have := T.f1; omega) (by omega)
  have dg := g.dg i T.hi
  omega
theorem past_lo (hv : BdOk n l) (hok : FwOk n l) (hv' : BdOk n (l ++ [c])) (T : Two n l i k) (ca : c.a = i) (cb : c.b = k) (h : c.hi < -fw l n k i) : ¬ FwOk n (l ++ [c]) := by
  intro hok'
  have g := good_fw hv' n (Nat.le_refl _) (fun m hm => hok' m hm)
  have hF : FAR = 1000000000 := rfl
  have e2 := fw_le_edge hv' (edges_of (l := l) ca cb).1
  have e1 := fw_more hv hok hv' hok' T.hk T.hi T.f2
  have c1 := hv'.hi c (by simp)
  have t := g.tri k i i T.hk T.hk T.hi T.hi (by omega) (by have := T.f2; omega)
  have dg := g.dg i T.hi
  omega
/-- What fits is within the differences. -/
theorem pot_le (hv : BdOk n l) (hok : FwOk n l) (hq : ∀ a b w, Ed l a b w → q b ≤ q a + w) (b1 : ∀ v, v < n → -10000 ≤ q v) (b2 : ∀ v, v < n → q v ≤ 10000) {a b : Nat} (ha : a < n) (hb : b < n) : q b - q a ≤ fw l n a b := by
  have hF : FAR = 1000000000 := rfl
  have x1 := b1 a ha
  have x2 := b2 a ha
  have x3 := b1 b hb
  have x4 := b2 b hb
  by_cases hf : fw l n a b < FAR
  · have := relaxed_le hv (d := q) (fun x hx _ => by have := b2 x hx; omega) (fun p q' w h _ => hq p q' w h) n (Nat.le_refl _) (fun m hm j hj => hok m (by omega) j hj) a b ha hb (by omega) hf
    omega
  · omega
/-- The bounds are in order, known or not. -/
theorem bounds_le (hv : BdOk n l) (hok : FwOk n l) (hq : ∀ a b w, Ed l a b w → q b ≤ q a + w) (b1 : ∀ v, v < n → -10000 ≤ q v) (b2 : ∀ v, v < n → q v ≤ 10000) (hi : i < n) (hk : k < n) : -fw l n k i ≤ fw l n i k := by
  have h1 := pot_le hv hok hq b1 b2 hi hk
  have h2 := pot_le hv hok hq b1 b2 hk hi
  omega
end
/-- A number modulo another one, as sAt tells it. -/
def sat (k n : Int) : Int := (k.tmod n + n) % n
theorem sat_bd {k n : Int} (h : 0 < n) : 0 ≤ sat k n ∧ sat k n < n := ⟨Int.emod_nonneg _ (by omega), Int.emod_lt_of_pos _ h⟩
/-- What sEvents makes of a constraint. -/
def evC (n : Int) (b : Bd) : Int := (sat b.a n + 1 + sat b.b (n - 1)) % n
def evD (n : Int) (ds : List Int) (b : Bd) : Int := (dayAt ds (evC n b)).tmod 10000 - (dayAt ds (sat b.a n)).tmod 10000
def evOne (n : Int) (ds : List Int) (b : Bd) : Bd := ⟨sat b.a n, evC n b, evD n ds b - sat b.lo 50, evD n ds b + sat b.hi 50⟩
def evN (ds : List Int) : Nat := min ds.length 8
def evs (ds : List Int) (l : List Bd) : List Bd := if evN ds < 2 then [] else (l.take 20).map (evOne (evN ds) ds)
theorem ne_next {a m n : Int} (h0 : 0 ≤ a) (h1 : a < n) (m0 : 0 ≤ m) (m1 : m < n - 1) : (a + 1 + m) % n ≠ a := by
  intro e
  by_cases h : a + 1 + m < n
  · rw [Int.emod_eq_of_lt (by omega) h] at e; omega
  · have : (a + 1 + m) % n = a + 1 + m - n := by
      have e2 : a + 1 + m = (a + 1 + m - n) + n := by omega
      have e3 : (a + 1 + m) % n = ((a + 1 + m - n) + n) % n := congrArg (· % n) e2
      rw [e3, Int.add_emod_right, Int.emod_eq_of_lt (by omega) (by omega)]
    omega
theorem tmod_bd (x : Int) : -9999 ≤ x.tmod 10000 ∧ x.tmod 10000 ≤ 9999 := by
  have h1 := Int.tmod_lt_of_pos x (show (0 : Int) < 10000 by omega)
  have h2 := Int.lt_tmod_of_pos x (show (0 : Int) < 10000 by omega)
  omega
def evQ (ds : List Int) (v : Nat) : Int := (dayAt ds v).tmod 10000
theorem evs_len (ds : List Int) (l : List Bd) : (evs ds l).length ≤ 20 := by
  unfold evs; split
  · simp
  · rw [List.length_map]; exact List.length_take_le _ _
theorem evs_mem {ds : List Int} {l : List Bd} {c : Bd} (h : c ∈ evs ds l) : 2 ≤ evN ds ∧ ∃ b, c = evOne (evN ds) ds b := by
  unfold evs at h
  split at h
  · simp at h
  · obtain ⟨b, _, rfl⟩ := List.mem_map.1 h; exact ⟨by omega, b, rfl⟩
theorem evOne_bd {n : Nat} (hn : 2 ≤ n) (ds : List Int) (b : Bd) : 0 ≤ (evOne n ds b).a ∧ (evOne n ds b).a < n ∧ 0 ≤ (evOne n ds b).b ∧ (evOne n ds b).b < n ∧ (evOne n ds b).a ≠ (evOne n ds b).b ∧ -20048 ≤ (evOne n ds b).lo ∧ (evOne n ds b).lo ≤ evD n ds b ∧ evD n ds b ≤ (evOne n ds b).hi ∧ (evOne n ds b).hi ≤ 20048 := by
  obtain ⟨a1, a2⟩ := sat_bd (k := b.a) (n := n) (by omega)
  obtain ⟨b1, b2⟩ := sat_bd (k := b.b) (n := n - 1) (by omega)
  obtain ⟨l1, l2⟩ := sat_bd (k := b.lo) (n := 50) (by omega)
  obtain ⟨h1, h2⟩ := sat_bd (k := b.hi) (n := 50) (by omega)
  have c1 := Int.emod_nonneg (sat b.a n + 1 + sat b.b (n - 1)) (show (n : Int) ≠ 0 by omega)
  have c2 := Int.emod_lt_of_pos (sat b.a n + 1 + sat b.b (n - 1)) (show (0 : Int) < n by omega)
  have ne := ne_next a1 a2 b1 b2
  have t1 := tmod_bd (dayAt ds (evC n b))
  have t2 := tmod_bd (dayAt ds (sat b.a n))
  have hd : evD n ds b = (dayAt ds (evC n b)).tmod 10000 - (dayAt ds (sat b.a n)).tmod 10000 := rfl
  refine ⟨a1, a2, c1, c2, fun e => ne e.symm, ?_, ?_, ?_, ?_⟩
  all_goals (first | show _ ≤ evD n ds b - sat b.lo 50 | show evD n ds b - sat b.lo 50 ≤ _ | show _ ≤ evD n ds b + sat b.hi 50 | show evD n ds b + sat b.hi 50 ≤ _)
  all_goals omega
theorem evs_ok {ds : List Int} {l : List Bd} (h2 : 2 ≤ evN ds) : BdOk (evN ds) (evs ds l) := by
  have h8 : evN ds ≤ 8 := Nat.min_le_right _ _
  have key : ∀ c ∈ evs ds l, 0 ≤ c.a ∧ c.a < (evN ds : Int) ∧ 0 ≤ c.b ∧ c.b < (evN ds : Int) ∧ c.a ≠ c.b ∧ -20048 ≤ c.lo ∧ c.lo ≤ c.hi ∧ c.hi ≤ 20048 := by
    intro c hc
    obtain ⟨_, b, rfl⟩ := evs_mem hc
    obtain ⟨k1, k2, k3, k4, k5, k6, k7, k8, k9⟩ := evOne_bd h2 ds b
    exact ⟨k1, k2, k3, k4, k5, k6, by omega, k9⟩
  have hl := evs_len ds l
  refine ⟨by omega, by omega, by omega, ?_, ?_, ?_, ?_, ?_, ?_, ?_, ?_⟩
  all_goals
    intro c hc
    have := key c hc
    omega
theorem evs_pot {ds : List Int} {l : List Bd} (h2 : 2 ≤ evN ds) : ∀ a b w, Ed (evs ds l) a b w → evQ ds b ≤ evQ ds a + w := by
  rintro a b w ⟨c, hc, h⟩
  obtain ⟨_, x, rfl⟩ := evs_mem hc
  obtain ⟨k1, k2, k3, k4, k5, k6, k7, k8, k9⟩ := evOne_bd h2 ds x
  have hd : evD (evN ds) ds x = (dayAt ds (evOne (evN ds) ds x).b).tmod 10000 - (dayAt ds (evOne (evN ds) ds x).a).tmod 10000 := rfl
  unfold evQ
  rcases h with ⟨h1, h2, h3⟩ | ⟨h1, h2, h3⟩
  · have e1 : ((a : Nat) : Int) = (evOne (evN ds) ds x).a := by omega
    have e2 : ((b : Nat) : Int) = (evOne (evN ds) ds x).b := by omega
    rw [e1, e2]; omega
  · have e1 : ((a : Nat) : Int) = (evOne (evN ds) ds x).b := by omega
    have e2 : ((b : Nat) : Int) = (evOne (evN ds) ds x).a := by omega
    rw [e1, e2]; omega
theorem evQ_bd (ds : List Int) (v : Nat) : -10000 ≤ evQ ds v ∧ evQ ds v ≤ 10000 := by
  have := tmod_bd (dayAt ds v); unfold evQ; omega
theorem evs_fw {ds : List Int} {l : List Bd} (h2 : 2 ≤ evN ds) : FwOk (evN ds) (evs ds l) :=
  pot_ok (evs_ok h2) (p := evQ ds) (fun x _ => by have := evQ_bd ds x; omega) (evs_pot h2)
end Go.Proofs.Ytdpddidfdifbhaa
