/- What the law FigureBoxes finds, in plain Lean. -/
import Derived.Test.YtbcehnhiedbbbaaDoorPlainFbx
import Derived.Test.YtbcehnhiedbbbaaDoorWalkFbx
set_option linter.unusedVariables false
set_option linter.unusedSimpArgs false
namespace Go.Proofs.YtbcehnhiedbbbaaDoor
def leF (a b : Int × Int) : Prop := a.1 * b.2 ≤ b.1 * a.2
theorem leF_trans {a b c : Int × Int} (ha : 1 ≤ a.2) (hb : 1 ≤ b.2) (hc : 1 ≤ c.2) (h1 : leF a b) (h2 : leF b c) : leF a c := by
  unfold leF at *
  have e1 : a.1 * b.2 * c.2 ≤ b.1 * a.2 * c.2 := Int.mul_le_mul_of_nonneg_right h1 (by omega)
  have e2 : b.1 * c.2 * a.2 ≤ c.1 * b.2 * a.2 := Int.mul_le_mul_of_nonneg_right h2 (by omega)
  have e3 : a.1 * c.2 * b.2 ≤ c.1 * a.2 * b.2 := by grind
  exact Int.le_of_mul_le_mul_right e3 (by omega)
theorem sel_fold (le : Int × Int → Int × Int → Prop) (f : Int × Int → Int × Int → Int × Int) (ok : Int × Int → Prop) (ht : ∀ a b c, ok a → ok b → ok c → le a b → le b c → le a c) (hr : ∀ a, le a a) (hf : ∀ a b, ok a → ok b → (f a b = a ∧ le a b) ∨ (f a b = b ∧ le b a)) :
    ∀ (l : List (Int × Int)) (s : Int × Int), ok s → (∀ x ∈ l, ok x) → ok (l.foldl f s) ∧ le (l.foldl f s) s ∧ (∀ x ∈ l, le (l.foldl f s) x) ∧ (l.foldl f s = s ∨ l.foldl f s ∈ l)
  | [], s, hs, _ => ⟨hs, hr s, fun x hx => by simp at hx, .inl rfl⟩
  | p :: l, s, hs, hl => by
    have hp := hl p (by simp)
    have hl' : ∀ x ∈ l, ok x := fun x hx => hl x (by simp [hx])
    have hc : ok (f s p) ∧ le (f s p) s ∧ le (f s p) p ∧ (f s p = s ∨ f s p = p) := by
      rcases hf s p hs hp with ⟨e, h⟩ | ⟨e, h⟩
      · rw [e]; exact ⟨hs, hr s, h, .inl rfl⟩
      · rw [e]; exact ⟨hp, h, hr p, .inr rfl⟩
    obtain ⟨c0, c1, c2, c3⟩ := hc
    obtain ⟨r0, r1, r2, r3⟩ := sel_fold le f ok ht hr hf l (f s p) c0 hl'
    rw [List.foldl_cons]
    refine ⟨r0, ht _ _ _ r0 c0 hs r1 c1, ?_, ?_⟩
    · intro x hx
      rcases List.mem_cons.1 hx with rfl | hx
      · exact ht _ _ _ r0 c0 hp r1 c2
      · exact r2 x hx
    · rcases r3 with r3 | r3
      · rcases c3 with c3 | c3
        · exact .inl (r3.trans c3)
        · exact .inr (by rw [r3, c3]; simp)
      · exact .inr (by simp [r3])
def pX (p : Fp) : Int × Int := (p.xn, p.xd)
def pY (p : Fp) : Int × Int := (p.yn, p.yd)
def mnF (s p : Int × Int) : Int × Int := if ltF p.1 p.2 s.1 s.2 then p else s
def mxF (s p : Int × Int) : Int × Int := if ltF s.1 s.2 p.1 p.2 then p else s
theorem low_x (s p : Fp) : pX (low s p) = mnF (pX s) (pX p) := by unfold low lowY lowX mnF pX; split <;> split <;> rfl
theorem low_y (s p : Fp) : pY (low s p) = mnF (pY s) (pY p) := by
  unfold low lowY lowX mnF pY
  by_cases h : ltF p.xn p.xd s.xn s.xd = true <;> simp only [h, if_true, if_false, Bool.false_eq_true] <;> split <;> rfl
theorem high_x (s p : Fp) : pX (high s p) = mxF (pX s) (pX p) := by unfold high highY highX mxF pX; split <;> split <;> rfl
theorem high_y (s p : Fp) : pY (high s p) = mxF (pY s) (pY p) := by
  unfold high highY highX mxF pY
  by_cases h : ltF s.xn s.xd p.xn p.xd = true <;> simp only [h, if_true, if_false, Bool.false_eq_true] <;> split <;> rfl
theorem fold_map {α β : Type} (g : α → β) (f : α → α → α) (f' : β → β → β) (h : ∀ s p, g (f s p) = f' (g s) (g p)) : ∀ (l : List α) (s : α), g (l.foldl f s) = (l.map g).foldl f' (g s)
  | [], s => rfl
  | p :: l, s => by rw [List.foldl_cons, List.map_cons, List.foldl_cons, ← h]; exact fold_map g f f' h l (f s p)
theorem mn_sel (a b : Int × Int) (_ : 1 ≤ a.2) (_ : 1 ≤ b.2) : (mnF a b = a ∧ leF a b) ∨ (mnF a b = b ∧ leF b a) := by
  unfold mnF ltF leF
  by_cases h : b.1 * a.2 < a.1 * b.2
  · exact .inr ⟨by simp [h], by omega⟩
  · exact .inl ⟨by simp [h], by omega⟩
theorem mx_sel (a b : Int × Int) (_ : 1 ≤ a.2) (_ : 1 ≤ b.2) : (mxF a b = a ∧ leF b a) ∨ (mxF a b = b ∧ leF a b) := by
  unfold mxF ltF leF
  by_cases h : a.1 * b.2 < b.1 * a.2
  · exact .inr ⟨by simp [h], by omega⟩
  · exact .inl ⟨by simp [h], by omega⟩
theorem min_law (l : List (Int × Int)) (s : Int × Int) (hs : s ∈ l) (hl : ∀ x ∈ l, 1 ≤ x.2) : (∀ x ∈ l, leF (l.foldl mnF s) x) ∧ l.foldl mnF s ∈ l := by
  obtain ⟨_, _, r2, r3⟩ := sel_fold leF mnF (fun x => 1 ≤ x.2) (fun a b c ha hb hc => leF_trans ha hb hc) (fun a => Int.le_refl _) mn_sel l s (hl s hs) hl
  exact ⟨r2, by rcases r3 with r3 | r3; rw [r3]; exact hs; exact r3⟩
theorem max_law (l : List (Int × Int)) (s : Int × Int) (hs : s ∈ l) (hl : ∀ x ∈ l, 1 ≤ x.2) : (∀ x ∈ l, leF x (l.foldl mxF s)) ∧ l.foldl mxF s ∈ l := by
  obtain ⟨_, _, r2, r3⟩ := sel_fold (fun a b => leF b a) mxF (fun x => 1 ≤ x.2) (fun a b c ha hb hc h1 h2 => leF_trans hc hb ha h2 h1) (fun a => Int.le_refl _) mx_sel l s (hl s hs) hl
  exact ⟨r2, by rcases r3 with r3 | r3; rw [r3]; exact hs; exact r3⟩
def od (lo hi p : Fp) : Nat → Int
  | 0 => ordF lo.xn lo.xd p.xn p.xd
  | 1 => ordF p.xn p.xd hi.xn hi.xd
  | 2 => ordF lo.yn lo.yd p.yn p.yd
  | _ => ordF p.yn p.yd hi.yn hi.yd
def hitB (lo hi : Fp) (l : List Fp) (q : Nat) : Bool := l.any fun p => od lo hi p q == 0
theorem ordF_le {a b : Int × Int} (h : leF a b) : decide (0 < ordF a.1 a.2 b.1 b.2) = false := by
  unfold leF at h
  unfold ordF
  split
  · rfl
  · rw [if_neg (by omega)]; rfl
theorem ordF_same (n d : Int) : (ordF n d n d == 0) = true := by unfold ordF; rw [if_neg (Int.lt_irrefl _), if_neg (Int.lt_irrefl _)]; rfl
theorem hitB_nil (lo hi : Fp) (q : Nat) : hitB lo hi [] q = false := rfl
theorem hitB_snoc (lo hi p : Fp) (l : List Fp) (q : Nat) : hitB lo hi (l ++ [p]) q = (hitB lo hi l q || (od lo hi p q == 0)) := by unfold hitB; simp
theorem box_law {P : List Fp} (hne : P.length ≠ 0) (hok : ∀ p ∈ P, ptOk p) : (∀ p ∈ P, ∀ q, decide (0 < od (lows P) (highs P) p q) = false) ∧ ∀ q, hitB (lows P) (highs P) P q = true := by
  have hh : P.head! ∈ P := by cases P with
    | nil => exact absurd rfl hne
    | cons p l => exact List.mem_cons_self
  have hX : ∀ x ∈ P.map pX, 1 ≤ x.2 := fun x hx => by
    obtain ⟨p, hp, rfl⟩ := List.mem_map.1 hx
    exact (fcE_ok (hok p hp).1).1
  have hY : ∀ x ∈ P.map pY, 1 ≤ x.2 := fun x hx => by
    obtain ⟨p, hp, rfl⟩ := List.mem_map.1 hx
    exact (fcE_ok (hok p hp).2).1
  have l1 := min_law (P.map pX) (pX P.head!) (List.mem_map_of_mem hh) hX
  have l2 := min_law (P.map pY) (pY P.head!) (List.mem_map_of_mem hh) hY
  have l3 := max_law (P.map pX) (pX P.head!) (List.mem_map_of_mem hh) hX
  have l4 := max_law (P.map pY) (pY P.head!) (List.mem_map_of_mem hh) hY
  rw [← fold_map pX low mnF low_x] at l1
  rw [← fold_map pY low mnF low_y] at l2
  rw [← fold_map pX high mxF high_x] at l3
  rw [← fold_map pY high mxF high_y] at l4
  change (∀ x ∈ P.map pX, leF (pX (lows P)) x) ∧ pX (lows P) ∈ P.map pX at l1
  change (∀ x ∈ P.map pY, leF (pY (lows P)) x) ∧ pY (lows P) ∈ P.map pY at l2
  change (∀ x ∈ P.map pX, leF x (pX (highs P))) ∧ pX (highs P) ∈ P.map pX at l3
  change (∀ x ∈ P.map pY, leF x (pY (highs P))) ∧ pY (highs P) ∈ P.map pY at l4
  refine ⟨fun p hp q => ?_, fun q => ?_⟩
  · match q with
    | 0 => exact ordF_le (l1.1 _ (List.mem_map_of_mem hp))
    | 1 => exact ordF_le (l3.1 _ (List.mem_map_of_mem hp))
    | 2 => exact ordF_le (l2.1 _ (List.mem_map_of_mem hp))
    | q + 3 => exact ordF_le (l4.1 _ (List.mem_map_of_mem hp))
  · unfold hitB
    rw [List.any_eq_true]
    match q with
    | 0 =>
      obtain ⟨p, hp, e⟩ := List.mem_map.1 l1.2
      injection e with e1 e2
      exact ⟨p, hp, by show (ordF (lows P).xn (lows P).xd p.xn p.xd == 0) = true; rw [← e1, ← e2]; exact ordF_same _ _⟩
    | 1 =>
      obtain ⟨p, hp, e⟩ := List.mem_map.1 l3.2
      injection e with e1 e2
      exact ⟨p, hp, by show (ordF p.xn p.xd (highs P).xn (highs P).xd == 0) = true; rw [← e1, ← e2]; exact ordF_same _ _⟩
    | 2 =>
      obtain ⟨p, hp, e⟩ := List.mem_map.1 l2.2
      injection e with e1 e2
      exact ⟨p, hp, by show (ordF (lows P).yn (lows P).yd p.yn p.yd == 0) = true; rw [← e1, ← e2]; exact ordF_same _ _⟩
    | q + 3 =>
      obtain ⟨p, hp, e⟩ := List.mem_map.1 l4.2
      injection e with e1 e2
      exact ⟨p, hp, by show (ordF p.yn p.yd (highs P).yn (highs P).yd == 0) = true; rw [← e1, ← e2]; exact ordF_same _ _⟩
end Go.Proofs.YtbcehnhiedbbbaaDoor
