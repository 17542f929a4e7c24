/- Greatest differences from one event by relaxation, and that they are those of the matrix. No program in sight. -/
import Derived.Test.YtdpddidfdifbhaaPlainFw
set_option linter.unusedVariables false
set_option linter.unusedSimpArgs false
namespace Go.Proofs.Ytdpddidfdifbhaa
def stV (d : Nat → Int) (b : Nat) (v : Int) : Nat → Int := fun x => if x = b then v else d x
/-- One edge is relaxed. -/
def rle (s : (Nat → Int) × Bool) (a b : Nat) (w : Int) : (Nat → Int) × Bool := if s.1 a < FAR ∧ s.1 a + w < s.1 b then (stV s.1 b (s.1 a + w), true) else s
def rlx (s : (Nat → Int) × Bool) (c : Bd) : (Nat → Int) × Bool := rle (rle s c.a.toNat c.b.toNat c.hi) c.b.toNat c.a.toNat (-c.lo)
def rnd (l : List Bd) (d : Nat → Int) : (Nat → Int) × Bool := l.foldl rlx (d, false)
def it (l : List Bd) (i : Nat) : Nat → Nat → Int
  | 0 => fun x => if x = i then 0 else FAR
  | r + 1 => (rnd l (it l i r)).1
def dch (l : List Bd) (i r : Nat) : Bool := (rnd l (it l i r)).2
abbrev Edge := Nat × Nat × Int
def els (l : List Bd) : List Edge := l.flatMap fun c => [(c.a.toNat, c.b.toNat, c.hi), (c.b.toNat, c.a.toNat, -c.lo)]
def rl (s : (Nat → Int) × Bool) (e : Edge) : (Nat → Int) × Bool := rle s e.1 e.2.1 e.2.2
theorem rnd_els (l : List Bd) : ∀ s, l.foldl rlx s = (els l).foldl rl s := by
  induction l with
  | nil => intro s; rfl
  | cons c l ih =>
    intro s
    have e : els (c :: l) = (c.a.toNat, c.b.toNat, c.hi) :: (c.b.toNat, c.a.toNat, -c.lo) :: els l := by simp [els]
    rw [e, List.foldl_cons, List.foldl_cons, List.foldl_cons, ih]; rfl
theorem mem_els {l : List Bd} {a b : Nat} {w : Int} : (a, b, w) ∈ els l ↔ Ed l a b w := by
  unfold els Ed
  rw [List.mem_flatMap]
  constructor
  · rintro ⟨c, hc, h⟩
    refine ⟨c, hc, ?_⟩
    simp at h
    rcases h with ⟨h1, h2, h3⟩ | ⟨h1, h2, h3⟩
    · exact .inl ⟨h1.symm, h2.symm, h3⟩
    · exact .inr ⟨h1.symm, h2.symm, h3⟩
  · rintro ⟨c, hc, h⟩
    refine ⟨c, hc, ?_⟩
    rcases h with ⟨h1, h2, h3⟩ | ⟨h1, h2, h3⟩
    · simp [h1, h2, h3]
    · simp [h1, h2, h3]
theorem rl_cases (s : (Nat → Int) × Bool) (e : Edge) : ((s.1 e.1 < FAR ∧ s.1 e.1 + e.2.2 < s.1 e.2.1) ∧ rl s e = (stV s.1 e.2.1 (s.1 e.1 + e.2.2), true)) ∨ (¬ (s.1 e.1 < FAR ∧ s.1 e.1 + e.2.2 < s.1 e.2.1) ∧ rl s e = s) := by
  unfold rl rle
  split
  · rename_i h; exact .inl ⟨h, rfl⟩
  · rename_i h; exact .inr ⟨h, rfl⟩
theorem rl_le (s : (Nat → Int) × Bool) (e : Edge) (x : Nat) : (rl s e).1 x ≤ s.1 x := by
  rcases rl_cases s e with ⟨h, he⟩ | ⟨_, he⟩ <;> rw [he]
  · show stV s.1 e.2.1 (s.1 e.1 + e.2.2) x ≤ s.1 x
    unfold stV
    split
    · rename_i q; rw [q]; omega
    · exact Int.le_refl _
  · exact Int.le_refl _
theorem fold_le : ∀ (es : List Edge) (s : (Nat → Int) × Bool) (x : Nat), (es.foldl rl s).1 x ≤ s.1 x
  | [], _, _ => Int.le_refl _
  | e :: es, s, x => Int.le_trans (fold_le es (rl s e) x) (rl_le s e x)
theorem fold_false : ∀ (es : List Edge) (s : (Nat → Int) × Bool), (es.foldl rl s).2 = false → s.2 = false ∧ es.foldl rl s = s ∧ ∀ e ∈ es, ¬ (s.1 e.1 < FAR ∧ s.1 e.1 + e.2.2 < s.1 e.2.1)
  | [], s, h => ⟨h, rfl, by simp⟩
  | e :: es, s, h => by
    obtain ⟨h1, h2, h3⟩ := fold_false es (rl s e) h
    rcases rl_cases s e with ⟨g, he⟩ | ⟨g, he⟩
    · rw [he] at h1; exact absurd h1 (by simp)
    · rw [he] at h1 h2 h3
      refine ⟨h1, by rw [List.foldl_cons, he]; exact h2, fun e' hm => ?_⟩
      rcases List.mem_cons.1 hm with rfl | hm
      · exact g
      · exact h3 e' hm
theorem fold_stay : ∀ (es : List Edge) (s : (Nat → Int) × Bool), (∀ e ∈ es, ¬ (s.1 e.1 < FAR ∧ s.1 e.1 + e.2.2 < s.1 e.2.1)) → es.foldl rl s = s
  | [], _, _ => rfl
  | e :: es, s, h => by
    rcases rl_cases s e with ⟨g, _⟩ | ⟨_, he⟩
    · exact absurd g (h e (by simp))
    · rw [List.foldl_cons, he]; exact fold_stay es s (fun e' hm => h e' (by simp [hm]))
def finI (d : Nat → Int) : Nat → Int := fun m => if d m < FAR then 1 else 0
/-- Finite differences are not great. -/
structure Ub (n : Nat) (d : Nat → Int) : Prop where
  far : ∀ x, x < n → d x ≤ FAR
  ub : ∀ x, x < n → d x < FAR → d x ≤ 8000000 * (sumN (finI d) n - 1)
theorem finI_le (d : Nat → Int) (n : Nat) : sumN (finI d) n ≤ n := by
  have := sumN_le (f := finI d) (g := fun _ => 1) n (fun m _ => by unfold finI; split <;> omega)
  rw [sumN_const] at this; omega
theorem Ub.bd {n : Nat} {d : Nat → Int} (h : Ub n d) (hn : n ≤ 12) {x : Nat} (hx : x < n) (hf : d x < FAR) : d x ≤ 104000000 := by
  have h1 := h.ub x hx hf
  have h2 := finI_le d n
  omega
theorem ub_rl {n : Nat} {s : (Nat → Int) × Bool} {e : Edge} (hn : n ≤ 12) (h : Ub n s.1) (ha : e.1 < n) (hb : e.2.1 < n) (hw : e.2.2 ≤ 8000000) : Ub n (rl s e).1 := by
  have hF : FAR = 1000000000 := rfl
  rcases rl_cases s e with ⟨⟨g1, g2⟩, he⟩ | ⟨_, he⟩ <;> rw [he]
  · have u := h.ub e.1 ha g1
    have ubd := h.bd hn ha g1
    have fb := h.far e.2.1 hb
    have hset := sumN_set (f := finI s.1) (g := finI (stV s.1 e.2.1 (s.1 e.1 + e.2.2))) e.2.1 n hb (fun m _ hm => by unfold finI stV; rw [if_neg hm])
    have hnew : finI (stV s.1 e.2.1 (s.1 e.1 + e.2.2)) e.2.1 = 1 := by unfold finI stV; rw [if_pos rfl, if_pos (by omega)]
    rw [hnew] at hset
    have hold : finI s.1 e.2.1 = 0 ∨ finI s.1 e.2.1 = 1 := by unfold finI; split <;> simp
    refine ⟨fun x hx => ?_, fun x hx hf => ?_⟩
    · show stV s.1 e.2.1 (s.1 e.1 + e.2.2) x ≤ FAR
      unfold stV
      split
      · omega
      · exact h.far x hx
    · show stV s.1 e.2.1 (s.1 e.1 + e.2.2) x ≤ 8000000 * (sumN (finI (stV s.1 e.2.1 (s.1 e.1 + e.2.2))) n - 1)
      have hf' : stV s.1 e.2.1 (s.1 e.1 + e.2.2) x < FAR := hf
      rw [hset]
      unfold stV at hf' ⊢
      split
      · by_cases q : s.1 e.2.1 < FAR
        · have h1 : finI s.1 e.2.1 = 1 := by unfold finI; rw [if_pos q]
          have := h.ub e.2.1 hb q
          omega
        · have h1 : finI s.1 e.2.1 = 0 := by unfold finI; rw [if_neg q]
          omega
      · rename_i q
        rw [if_neg q] at hf'
        have := h.ub x hx hf'
        omega
  · exact h
theorem ub_fold {n : Nat} (hn : n ≤ 12) : ∀ (es : List Edge) (s : (Nat → Int) × Bool), (∀ e ∈ es, e.1 < n ∧ e.2.1 < n ∧ e.2.2 ≤ 8000000) → Ub n s.1 → Ub n (es.foldl rl s).1
  | [], _, _, h => h
  | e :: es, s, he, h => ub_fold hn es (rl s e) (fun e' hm => he e' (by simp [hm])) (ub_rl hn h (he e (by simp)).1 (he e (by simp)).2.1 (he e (by simp)).2.2)
theorem els_bd {n : Nat} {l : List Bd} (hv : BdOk n l) : ∀ e ∈ els l, e.1 < n ∧ e.2.1 < n ∧ e.1 ≠ e.2.1 ∧ -8000000 ≤ e.2.2 ∧ e.2.2 ≤ 8000000 := by
  rintro ⟨a, b, w⟩ he
  exact (mem_els.1 he).bd hv
theorem ub_it {n : Nat} {l : List Bd} (hv : BdOk n l) {i : Nat} (hi : i < n) : ∀ r, Ub n (it l i r)
  | 0 => by
    have hF : FAR = 1000000000 := rfl
    refine ⟨fun x hx => ?_, fun x hx hf => ?_⟩
    · show (if x = i then 0 else FAR) ≤ FAR
      split <;> omega
    · have hf' : (if x = i then 0 else FAR) < FAR := hf
      have hset := sumN_set (f := fun _ => 0) (g := finI (it l i 0)) i n hi (fun m _ hm => by
        show (if (if m = i then 0 else FAR) < FAR then (1 : Int) else 0) = 0
        rw [if_neg hm, if_neg (by omega)])
      have h1 : finI (it l i 0) i = 1 := by
        show (if (if i = i then 0 else FAR) < FAR then (1 : Int) else 0) = 1
        rw [if_pos rfl, if_pos (by omega)]
      rw [h1, sumN_const] at hset
      rw [hset]
      show (if x = i then 0 else FAR) ≤ _
      split
      · omega
      · rename_i q; rw [if_neg q] at hf'; omega
  | r + 1 => by
    show Ub n (rnd l (it l i r)).1
    unfold rnd; rw [rnd_els]
    exact ub_fold hv.n12 _ _ (fun e he => by have := els_bd hv e he; exact ⟨this.1, this.2.1, this.2.2.2.2⟩) (ub_it hv hi r)
theorem it_mono (l : List Bd) (i r x : Nat) : it l i (r + 1) x ≤ it l i r x := by
  show (rnd l (it l i r)).1 x ≤ _
  unfold rnd; rw [rnd_els]
  exact fold_le _ _ x
theorem it_self (l : List Bd) (i : Nat) : ∀ r, it l i r i ≤ 0
  | 0 => by show (if i = i then 0 else FAR) ≤ 0; rw [if_pos rfl]; omega
  | r + 1 => Int.le_trans (it_mono l i r i) (it_self l i r)
/-- A round without a change: a fixed point. -/
theorem it_fix {l : List Bd} {i r : Nat} (h : dch l i r = false) : it l i (r + 1) = it l i r ∧ ∀ a b w, Ed l a b w → it l i r a < FAR → it l i r b ≤ it l i r a + w := by
  unfold dch rnd at h
  rw [rnd_els] at h
  obtain ⟨_, h2, h3⟩ := fold_false _ _ h
  constructor
  · show (rnd l (it l i r)).1 = _
    unfold rnd; rw [rnd_els, h2]
  · intro a b w he hf
    have := h3 (a, b, w) (mem_els.2 he)
    have h4 : ¬ (it l i r a < FAR ∧ it l i r a + w < it l i r b) := this
    omega
theorem inv_fold {n : Nat} {D : Nat → Int} : ∀ (es : List Edge) (s : (Nat → Int) × Bool), (∀ e ∈ es, e.1 < n ∧ e.2.1 < n ∧ (D e.1 < FAR → D e.2.1 ≤ D e.1 + e.2.2)) → (∀ x, x < n → D x ≤ s.1 x) → ∀ x, x < n → D x ≤ (es.foldl rl s).1 x
  | [], _, _, h => h
  | e :: es, s, he, h => by
    refine inv_fold es (rl s e) (fun e' hm => he e' (by simp [hm])) (fun x hx => ?_)
    obtain ⟨ha, hb, hr⟩ := he e (by simp)
    rcases rl_cases s e with ⟨⟨g1, g2⟩, heq⟩ | ⟨_, heq⟩ <;> rw [heq]
    · show D x ≤ stV s.1 e.2.1 (s.1 e.1 + e.2.2) x
      have h1 := h e.1 ha
      have h2 := h x hx
      unfold stV
      split
      · rename_i q; rw [q]; have := hr (by omega); omega
      · exact h2
    · exact h x hx
theorem tight_fold {n : Nat} {D : Nat → Int} {a b : Nat} {w : Int} : ∀ (es : List Edge) (s : (Nat → Int) × Bool), (∀ e ∈ es, e.1 < n ∧ e.2.1 < n ∧ (D e.1 < FAR → D e.2.1 ≤ D e.1 + e.2.2)) → (∀ x, x < n → D x ≤ s.1 x) → (a, b, w) ∈ es → a < n → s.1 a = D a → D a < FAR → (es.foldl rl s).1 b ≤ D a + w
  | [], _, _, _, h, _, _, _ => by simp at h
  | e :: es, s, he, h, hm, han, ha, hf => by
    have hinv : ∀ x, x < n → D x ≤ (rl s e).1 x := fun x hx => inv_fold [e] s (fun e' hm' => he e' (by simp at hm'; simp [hm'])) h x hx
    have ha' : (rl s e).1 a = D a := by
      have h1 := rl_le s e a
      have h2 := hinv a han
      omega
    rcases List.mem_cons.1 hm with rfl | hm
    · have hb : (rl s (a, b, w)).1 b ≤ D a + w := by
        rcases rl_cases s (a, b, w) with ⟨_, heq⟩ | ⟨g, heq⟩ <;> rw [heq]
        · show stV s.1 b (s.1 a + w) b ≤ D a + w
          unfold stV; rw [if_pos rfl]; omega
        · have g' : ¬ (s.1 a < FAR ∧ s.1 a + w < s.1 b) := g
          omega
      exact Int.le_trans (fold_le es _ b) hb
    · exact tight_fold es (rl s e) (fun e' hm' => he e' (by simp [hm'])) hinv hm han ha' hf
section
variable {n : Nat} {l : List Bd} (hv : BdOk n l) (hok : FwOk n l)
include hv hok
theorem rel_edges {i : Nat} (hi : i < n) : ∀ e ∈ els l, e.1 < n ∧ e.2.1 < n ∧ (fw l n i e.1 < FAR → fw l n i e.2.1 ≤ fw l n i e.1 + e.2.2) := by
  rintro ⟨a, b, w⟩ he
  have h := els_bd hv _ he
  exact ⟨h.1, h.2.1, fun hf => fw_relaxed hv hok hi (mem_els.1 he) hf⟩
theorem good_n : Good n n (fw l n) := good_fw hv n (Nat.le_refl _) (fun m hm => hok m hm)
theorem it_ge {i : Nat} (hi : i < n) : ∀ r x, x < n → fw l n i x ≤ it l i r x
  | 0, x, hx => by
    have g := good_n hv hok
    show fw l n i x ≤ if x = i then 0 else FAR
    split
    · rename_i q; rw [q, g.dg i hi]; omega
    · exact g.far i x hi hx
  | r + 1, x, hx => by
    show fw l n i x ≤ (rnd l (it l i r)).1 x
    unfold rnd; rw [rnd_els]
    exact inv_fold _ _ (rel_edges hv hok hi) (it_ge hi r) x hx
/-- Where the relaxation ends, it tells what the matrix tells. -/
theorem it_eq {i r : Nat} (hi : i < n) (h : dch l i r = false) : ∀ x, x < n → it l i r x = fw l n i x := by
  intro x hx
  have hF : FAR = 1000000000 := rfl
  have g := good_n hv hok
  have u := ub_it hv hi r
  have h1 := it_ge hv hok hi r x hx
  have h2 := it_self l i r
  by_cases q : fw l n i x < FAR
  · have := relaxed_le hv (d := it l i r) (fun y hy hf => u.bd hv.n12 hy hf) (it_fix h).2 n (Nat.le_refl _) (fun m hm => hok m (by omega)) i x hi hx (by omega) q
    omega
  · have := u.far x hx
    omega
/-- A tight edge leads out of what is settled. -/
theorem tight_edge {i : Nat} (hi : i < n) {d : Nat → Int} (hd : ∀ x, x < n → fw l n i x ≤ d x) (hfar : ∀ x, x < n → d x ≤ FAR) (h0 : d i = fw l n i i) {y : Nat} (hy : y < n) (hne : d y ≠ fw l n i y) :
    ∃ a b w, Ed l a b w ∧ d a = fw l n i a ∧ fw l n i a < FAR ∧ d b ≠ fw l n i b ∧ fw l n i b = fw l n i a + w := by
  have hF : FAR = 1000000000 := rfl
  have g := good_n hv hok
  apply Classical.byContradiction
  intro hno
  have hstrict : ∀ a b w, Ed l a b w → d a = fw l n i a → fw l n i a < FAR → d b ≠ fw l n i b → fw l n i b < fw l n i a + w := fun a b w he h1 h2 h3 => by
    have h4 := fw_relaxed hv hok hi he h2
    by_cases e : fw l n i b = fw l n i a + w
    · exact absurd ⟨a, b, w, he, h1, h2, h3, e⟩ hno
    · omega
  have hub : ∀ x, x < n → fw l n i x < FAR → fw l n i x ≤ 104000000 := fun x hx hf => g.ub hv.n12 hi hx hf
  have hrl : ∀ k, k ≤ n → ∀ x y, x < n → y < n → fw l n i x < FAR → fw l k x y < FAR → fw l n i y ≤ fw l n i x + fw l k x y := fun k hk => relaxed_le hv hub (fun a b w he hf => fw_relaxed hv hok hi he hf) k hk (fun m hm => hok m (by omega))
  have key : ∀ k, k ≤ n → ∀ x y, x < n → y < n → d x = fw l n i x → fw l n i x < FAR → d y ≠ fw l n i y → fw l k x y < FAR → fw l n i y < fw l n i x + fw l k x y := by
    intro k
    induction k with
    | zero =>
      intro _ x y hx hy h1 h2 h3 h4
      have hini := ini_mInit hv
      have e : x ≠ y := fun e => h3 (by rw [← e]; exact h1)
      exact hstrict x y _ (hini.snd x y e h4) h1 h2 h3
    | succ k ih =>
      intro hk x y hx hy h1 h2 h3 h4
      have gk := good_fw hv k (by omega) (fun m hm => hok m (by omega))
      have h12 := hv.n12
      show fw l n i y < fw l n i x + nw (fw l k) k x y
      have h4' : nw (fw l k) k x y < FAR := h4
      rcases nw_cases (fw l k) k x y with c | ⟨⟨c1, c2⟩, c3, _⟩
      · rw [c] at h4' ⊢; exact ih (by omega) x y hx hy h1 h2 h3 h4'
      · rw [c3]
        have hkn : k < n := by omega
        have u1 := gk.ub (by omega) hx hkn c1
        have u2 := hub x hx h2
        have r1 := hrl k (by omega) x k hx hkn h2 c1
        by_cases e : d k = fw l n i k
        · have := ih (by omega) k y hkn hy e (by omega) h3 c2
          omega
        · have r2 := ih (by omega) x k hx hkn h1 h2 e c1
          have := hrl k (by omega) k y hkn hy (by omega) c2
          omega
  by_cases q : fw l n i y < FAR
  · have := key n (Nat.le_refl _) i y hi hy h0 (by rw [g.dg i hi]; omega) hne q
    rw [g.dg i hi] at this
    omega
  · have h1 := hd y hy
    have h2 := hfar y hy
    omega
def stl (d D : Nat → Int) : Nat → Int := fun m => if d m = D m then 1 else 0
omit hv hok in
theorem stl_pos {d D : Nat → Int} {m : Nat} (h : d m = D m) : stl d D m = 1 := by unfold stl; rw [if_pos h]
omit hv hok in
theorem stl_neg {d D : Nat → Int} {m : Nat} (h : d m ≠ D m) : stl d D m = 0 := by unfold stl; rw [if_neg h]
omit hv hok in
theorem stl_01 (d D : Nat → Int) (m : Nat) : 0 ≤ stl d D m ∧ stl d D m ≤ 1 := by unfold stl; split <;> omega
theorem settle {i : Nat} (hi : i < n) : ∀ r, (∀ q, q < r → dch l i q = true) → (r : Int) + 1 ≤ sumN (stl (it l i r) (fw l n i)) n
  | 0, _ => by
    have g := good_n hv hok
    have h0 : it l i 0 i = fw l n i i := by rw [g.dg i hi]; show (if i = i then 0 else FAR) = 0; rw [if_pos rfl]
    have hset := sumN_set (f := fun m => if m = i then 0 else stl (it l i 0) (fw l n i) m) (g := stl (it l i 0) (fw l n i)) i n hi (fun m _ hm => by simp [hm])
    have hnn := sumN_le (f := fun _ => 0) (g := fun m => if m = i then 0 else stl (it l i 0) (fw l n i) m) n (fun m _ => by
      show (0 : Int) ≤ if m = i then 0 else stl (it l i 0) (fw l n i) m
      split
      · exact Int.le_refl _
      · exact (stl_01 _ _ _).1)
    rw [sumN_const] at hnn
    rw [stl_pos h0] at hset
    simp at hset
    omega
  | r + 1, hr => by
    have hF : FAR = 1000000000 := rfl
    have ih := settle hi r (fun q hq => hr q (by omega))
    have hge := it_ge hv hok hi
    have g := good_n hv hok
    have hfar := (ub_it hv hi r).far
    have h0 : it l i r i = fw l n i i := by
      have h1 := hge r i hi
      have h2 := it_self l i r
      rw [g.dg i hi] at h1 ⊢
      omega
    have keep : ∀ m, m < n → it l i r m = fw l n i m → it l i (r + 1) m = fw l n i m := fun m hm h => by
      have h1 := hge (r + 1) m hm
      have h2 := it_mono l i r m
      omega
    have hne : ∃ y, y < n ∧ it l i r y ≠ fw l n i y := by
      apply Classical.byContradiction
      intro hno
      have hall : ∀ y, y < n → it l i r y = fw l n i y := fun y hy => Classical.byContradiction fun h => hno ⟨y, hy, h⟩
      have hst := fold_stay (els l) (it l i r, false) (fun e he => by
        obtain ⟨a1, a2, a3⟩ := rel_edges hv hok hi e he
        rintro ⟨b1, b2⟩
        have b1' : it l i r e.1 < FAR := b1
        have b2' : it l i r e.1 + e.2.2 < it l i r e.2.1 := b2
        rw [hall _ a1] at b1' b2'
        rw [hall _ a2] at b2'
        have := a3 b1'
        omega)
      have hc := hr r (by omega)
      unfold dch rnd at hc
      rw [rnd_els, hst] at hc
      exact absurd hc (by simp)
    obtain ⟨y, hy, hny⟩ := hne
    obtain ⟨a, b, w, he, h1, h2, h3, h4⟩ := tight_edge hv hok hi (hge r) hfar h0 hy hny
    obtain ⟨a1, a2, _⟩ := he.bd hv
    have hb : it l i (r + 1) b = fw l n i b := by
      have := tight_fold (D := fw l n i) (els l) (it l i r, false) (rel_edges hv hok hi) (hge r) (mem_els.2 he) a1 h1 h2
      have h5 : it l i (r + 1) b = ((els l).foldl rl (it l i r, false)).1 b := by
        show (rnd l (it l i r)).1 b = _
        unfold rnd; rw [rnd_els]
      have h6 := hge (r + 1) b a2
      omega
    have hle : sumN (stl (it l i r) (fw l n i)) n + 1 ≤ sumN (stl (it l i (r + 1)) (fw l n i)) n := by
      have hset := sumN_set (f := stl (it l i r) (fw l n i)) (g := fun m => if m = b then 1 else stl (it l i r) (fw l n i) m) b n a2 (fun m _ hm => by simp [hm])
      rw [stl_neg h3] at hset
      simp at hset
      have := sumN_le (f := fun m => if m = b then 1 else stl (it l i r) (fw l n i) m) (g := stl (it l i (r + 1)) (fw l n i)) n (fun m hm => by
        show (if m = b then 1 else stl (it l i r) (fw l n i) m) ≤ _
        split
        · rename_i q; rw [q, stl_pos hb]; omega
        · by_cases q : it l i r m = fw l n i m
          · rw [stl_pos q, stl_pos (keep m hm q)]; omega
          · rw [stl_neg q]; exact (stl_01 _ _ _).1)
      omega
    omega
/-- Without a contradiction the relaxation ends. -/
theorem it_ends {i : Nat} (hi : i < n) : ∃ r, r < n ∧ dch l i r = false := by
  apply Classical.byContradiction
  intro hno
  have h1 := settle hv hok hi n (fun q hq => by
    cases h : dch l i q with
    | true => rfl
    | false => exact absurd ⟨q, hq, h⟩ hno)
  have h2 := sumN_le (f := stl (it l i n) (fw l n i)) (g := fun _ => 1) n (fun m _ => (stl_01 _ _ _).2)
  rw [sumN_const] at h2
  omega
end
/-- With a contradiction the relaxation from some event never ends. -/
theorem it_never {n : Nat} {l : List Bd} (hv : BdOk n l) (hno : ¬ FwOk n l) : ∃ i, i < n ∧ ∀ r, dch l i r = true := by
  have hF : FAR = 1000000000 := rfl
  -- the first round with a contradiction
  have hfirst : ∃ k, k < n ∧ (∃ i, i < n ∧ fw l (k + 1) i i < 0) ∧ ∀ m, m < k → ∀ i, i < n → 0 ≤ fw l (m + 1) i i := by
    have key : ∀ k, k ≤ n → (∃ k', k' < k ∧ (∃ i, i < n ∧ fw l (k' + 1) i i < 0) ∧ ∀ m, m < k' → ∀ i, i < n → 0 ≤ fw l (m + 1) i i) ∨ ∀ m, m < k → ∀ i, i < n → 0 ≤ fw l (m + 1) i i := by
      intro k
      induction k with
      | zero => intro _; right; intro m hm; omega
      | succ k ih =>
        intro hk
        rcases ih (by omega) with ⟨k', h1, h2⟩ | h
        · exact .inl ⟨k', by omega, h2⟩
        · by_cases q : ∃ i, i < n ∧ fw l (k + 1) i i < 0
          · exact .inl ⟨k, by omega, q, h⟩
          · right
            intro m hm i hi
            by_cases e : m = k
            · subst e
              by_cases q2 : fw l (m + 1) i i < 0
              · exact absurd ⟨i, hi, q2⟩ q
              · omega
            · exact h m (by omega) i hi
    rcases key n (Nat.le_refl _) with ⟨k, h1, h2, h3⟩ | h
    · exact ⟨k, h1, h2, h3⟩
    · exact absurd h hno
  obtain ⟨k, hk, ⟨i, hi, hneg⟩, hpre⟩ := hfirst
  refine ⟨i, hi, fun r => ?_⟩
  cases h : dch l i r with
  | true => rfl
  | false =>
    have u := ub_it hv hi r
    have h2 := it_self l i r
    have := relaxed_le hv (d := it l i r) (fun y hy hf => u.bd hv.n12 hy hf) (it_fix h).2 (k + 1) (by omega) (fun m hm => hpre m (by omega)) i i hi hi (by omega) (by omega)
    omega
end Go.Proofs.Ytdpddidfdifbhaa
