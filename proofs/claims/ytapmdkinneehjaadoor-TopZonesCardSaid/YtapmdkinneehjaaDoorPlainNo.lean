/- Notices in plain Lean: the error, the sum forwards and backwards, the text and its reading. No program in sight. -/
import Derived.Lib.ItoaNum
import Derived.Lib.ItoaLen
import Derived.Lib.AtoiAll
import Derived.Lib.AtoiAllCases
import Derived.Lib.AtoiTie
import Derived.Lib.IndexMore
import Derived.Lib.IndexLaws
set_option linter.unusedVariables false
set_option linter.unusedSimpArgs false
namespace Go.Proofs.YtapmdkinneehjaaDoor
/-- A byte that a notice may not hold. -/
def noB (c : UInt8) : Bool := decide (c.toNat < 32) || decide (126 < c.toNat)
def noBad : List UInt8 → Bool
  | [] => false
  | c :: l => noB c || noBad l
def noE (a n s : Int) (l : List UInt8) : Int :=
  if a < 0 ∨ 8 ≤ a ∨ n < 1 ∨ 2147483647 < n ∨ s < 0 ∨ 2147483647 ≤ s then 3 else if 200 < l.length then 2 else if noBad l = true then 4 else 0
/-- The loop of the sum. -/
def noF (h : Int) : List UInt8 → Int
  | [] => h
  | c :: l => noF ((h * 257 + (c.toNat : Int) + 1) % 2147483647) l
theorem noF_snoc (h : Int) (l : List UInt8) (c : UInt8) : noF h (l ++ [c]) = (noF h l * 257 + (c.toNat : Int) + 1) % 2147483647 := by
  induction l generalizing h with
  | nil => rfl
  | cons d l ih => exact ih _
def noH (key : Int) (l : List UInt8) : Int := (noF key l * 257 + key) % 2147483647
/-- The sum from the last byte on. -/
def noT (key : Int) : List UInt8 → Int × Int
  | [] => (key, 257)
  | c :: l => (((noT key l).1 + ((c.toNat : Int) + 1) * (noT key l).2) % 2147483647, (noT key l).2 * 257 % 2147483647)
theorem no_mod (x : Int) : ∃ q, x = x % 2147483647 + 2147483647 * q := ⟨x / 2147483647, by omega⟩
theorem noF_noT (key : Int) (l : List UInt8) : ∀ h, ∃ q, noF h l * 257 = h * (noT key l).2 + (noT key l).1 - key + 2147483647 * q := by
  induction l with
  | nil => intro h; exact ⟨0, by unfold noF noT; omega⟩
  | cons c l ih =>
    intro h
    unfold noF noT
    simp only
    obtain ⟨q, e⟩ := ih ((h * 257 + (c.toNat : Int) + 1) % 2147483647)
    generalize (noT key l).1 = T at *
    generalize (noT key l).2 = P at *
    obtain ⟨q1, e1⟩ := no_mod (h * 257 + (c.toNat : Int) + 1)
    obtain ⟨q2, e2⟩ := no_mod (T + ((c.toNat : Int) + 1) * P)
    obtain ⟨q3, e3⟩ := no_mod (P * 257)
    generalize (h * 257 + (c.toNat : Int) + 1) % 2147483647 = a at *
    generalize (T + ((c.toNat : Int) + 1) * P) % 2147483647 = b at *
    generalize P * 257 % 2147483647 = d at *
    generalize noF a l = F at *
    refine ⟨q - q1 * P + q2 + h * q3, ?_⟩
    clear ih
    grind
theorem noH_noT (key : Int) (l : List UInt8) : noH key l = ((noT key l).1 + key * (noT key l).2) % 2147483647 := by
  obtain ⟨q, e⟩ := noF_noT key l key
  unfold noH
  rw [e, show key * (noT key l).2 + (noT key l).1 - key + 2147483647 * q + key = (noT key l).1 + key * (noT key l).2 + 2147483647 * q by omega]
  omega
theorem noF_bd {key : Int} (k0 : 0 ≤ key) (k1 : key ≤ 1000000000) (l : List UInt8) : 0 ≤ noF key l ∧ noF key l < 2147483647 := by
  have h : ∀ (l : List UInt8) (h : Int), 0 ≤ h → h < 2147483647 → 0 ≤ noF h l ∧ noF h l < 2147483647 := by
    intro l
    induction l with
    | nil => intro h a b; exact ⟨a, b⟩
    | cons c l ih => intro h a b; unfold noF; exact ih _ (by omega) (by omega)
  exact h l key k0 (by omega)
theorem noT_bd {key : Int} (k0 : 0 ≤ key) (k1 : key ≤ 1000000000) (l : List UInt8) : 0 ≤ (noT key l).1 ∧ (noT key l).1 < 2147483647 ∧ 0 ≤ (noT key l).2 ∧ (noT key l).2 < 2147483647 := by
  cases l with
  | nil => unfold noT; simp only; omega
  | cons c l => unfold noT; simp only; omega
theorem noH_bd (key : Int) (l : List UInt8) : 0 ≤ noH key l ∧ noH key l < 2147483647 := by unfold noH; omega
/-- The text that is summed, and that which is written. -/
def noS (a n : Int) (l : List UInt8) : List UInt8 := Go.Lib.itoa a ++ [32] ++ Go.Lib.itoa n ++ [32] ++ l
def noW (a n s : Int) (l : List UInt8) : List UInt8 := Go.Lib.itoa a ++ [32] ++ Go.Lib.itoa n ++ [32] ++ Go.Lib.itoa s ++ [32] ++ l
/-- One word of a text and what is behind it: a number that is written as it must be, and a space. -/
def noR (l : List UInt8) : Option (Int × List UInt8) :=
  match Go.Lib.atoiAll (Go.Lib.cut l [32]).1 with
  | .ok k => if (Go.Lib.cut l [32]).2.2 = true ∧ Go.Lib.itoa k = (Go.Lib.cut l [32]).1 then some (k, (Go.Lib.cut l [32]).2.1) else none
  | _ => none
/-- What Read answers: author, number, sum, text, error. -/
structure NoR where
  a : Int
  n : Int
  s : Int
  t : List UInt8
  e : Int
def noRead (l : List UInt8) : NoR :=
  match noR l with
  | none => ⟨0, 0, 0, [], 4⟩
  | some (a, l1) => match noR l1 with
    | none => ⟨0, 0, 0, [], 4⟩
    | some (n, l2) => match noR l2 with
      | none => ⟨0, 0, 0, [], 4⟩
      | some (s, t) => if noE a n s t = 0 then ⟨a, n, s, t, 0⟩ else ⟨0, 0, 0, [], noE a n s t⟩
/-- The bytes of a numeral are digits. -/
theorem dec_dig (u : Nat) : ∀ c ∈ Go.Lib.decDigits u, 48 ≤ c.toNat ∧ c.toNat ≤ 57 := by
  induction u using Nat.strongRecOn with
  | _ u ih =>
    intro c hc
    have hb : ∀ k, k < 10 → 48 ≤ (UInt8.ofNat (48 + k)).toNat ∧ (UInt8.ofNat (48 + k)).toNat ≤ 57 := by
      intro k hk
      rw [UInt8.toNat_ofNat']
      omega
    rw [Go.Lib.decDigits] at hc
    by_cases h : u < 10
    · rw [dif_pos h] at hc
      simp only [List.mem_cons, List.not_mem_nil, or_false] at hc
      subst hc
      exact hb u h
    · rw [dif_neg h] at hc
      rcases List.mem_append.1 hc with hc | hc
      · exact ih (u / 10) (by omega) c hc
      · simp only [List.mem_cons, List.not_mem_nil, or_false] at hc
        subst hc
        exact hb _ (by omega)
theorem dec_ne (u : Nat) : Go.Lib.decDigits u ≠ [] := by
  intro h
  have := Go.Lib.decDigits_length u
  have := Go.Lib.nDigits_pos u
  rw [h] at *
  simp at *
  omega
theorem parse_app (l : List UInt8) (c : UInt8) (hc : 48 ≤ c.toNat ∧ c.toNat ≤ 57) : ∀ acc u, Go.Lib.parseUint10 acc l = .ok u → u < 1844674407370955161 → Go.Lib.parseUint10 acc (l ++ [c]) = .ok (u * 10 + (c.toNat - 48)) := by
  induction l with
  | nil =>
    intro acc u h hu
    simp only [Go.Lib.parseUint10] at h
    injection h with h
    subst h
    simp only [List.nil_append, Go.Lib.parseUint10]
    rw [if_pos hc, if_neg (by omega), if_neg (by omega)]
  | cons d l ih =>
    intro acc u h hu
    simp only [Go.Lib.parseUint10] at h
    simp only [List.cons_append, Go.Lib.parseUint10]
    split at h
    · rename_i hd
      rw [if_pos hd]
      split at h
      · cases h
      · rename_i h1
        rw [if_neg h1]
        split at h
        · cases h
        · rename_i h2
          rw [if_neg h2]
          exact ih _ u h hu
    · cases h
theorem parse_dec (u : Nat) (hu : u < 9223372036854775808) : Go.Lib.parseUint10 0 (Go.Lib.decDigits u) = .ok u := by
  induction u using Nat.strongRecOn with
  | _ u ih =>
    have hb : ∀ k, k < 10 → (UInt8.ofNat (48 + k)).toNat = 48 + k := by
      intro k hk
      rw [UInt8.toNat_ofNat']
      omega
    rw [Go.Lib.decDigits]
    by_cases h : u < 10
    · rw [dif_pos h]
      simp only [Go.Lib.parseUint10]
      rw [hb u h, if_pos (by omega), if_neg (by omega), if_neg (by omega)]
      congr 1
      omega
    · rw [dif_neg h]
      have := parse_app (Go.Lib.decDigits (u / 10)) (UInt8.ofNat (48 + u % 10)) (by rw [hb _ (by omega)]; omega) 0 (u / 10) (ih (u / 10) (by omega) (by omega)) (by omega)
      rw [this, hb _ (by omega)]
      congr 1
      omega
theorem atoi_itoa {k : Int} (h0 : 0 ≤ k) (h1 : k ≤ 9223372036854775807) : Go.Lib.atoiAll (Go.Lib.itoa k) = .ok k := by
  unfold Go.Lib.itoa
  rw [if_neg (by omega)]
  have hp := parse_dec k.toNat (by omega)
  have hd := dec_dig k.toNat
  have hn := dec_ne k.toNat
  generalize Go.Lib.decDigits k.toNat = l at *
  cases l with
  | nil => exact absurd rfl hn
  | cons c r =>
    have hc := hd c List.mem_cons_self
    rw [Go.Lib.atoiAll_plain c r (by omega) (by omega)]
    unfold Go.Lib.parseMag
    rw [if_neg (by simp), hp]
    unfold Go.Lib.signless
    simp only
    rw [if_neg (by omega)]
    congr 1
    omega
theorem ix_word (d rest : List UInt8) (h : ∀ c ∈ d, c ≠ 32) : Go.Lib.index (d ++ 32 :: rest) [32] = (d.length : Int) := by
  induction d with
  | nil => simp [Go.Lib.index, List.isPrefixOf]
  | cons c l ih =>
    have e := ih (fun x hx => h x (List.mem_cons_of_mem _ hx))
    have hc : ((32 : UInt8) == c) = false := by
      have := h c List.mem_cons_self
      exact beq_eq_false_iff_ne.2 (fun q => this q.symm)
    rw [List.cons_append, Go.Lib.index]
    rw [show ([32] : List UInt8).isPrefixOf (c :: (l ++ 32 :: rest)) = false by simp [List.isPrefixOf, hc], e]
    rw [if_neg (by decide), if_neg (by rw [beq_iff_eq]; omega)]
    simp
theorem cut_word (d rest : List UInt8) (h : ∀ c ∈ d, c ≠ 32) : Go.Lib.cut (d ++ 32 :: rest) [32] = (d, rest, true) := by
  unfold Go.Lib.cut
  rw [ix_word d rest h, if_pos (by omega)]
  simp
theorem itoa_dig {k : Int} (h0 : 0 ≤ k) : ∀ c ∈ Go.Lib.itoa k, c ≠ 32 := by
  unfold Go.Lib.itoa
  rw [if_neg (by omega)]
  intro c hc q
  have := dec_dig k.toNat c hc
  subst q
  exact absurd this.1 (by decide)
theorem noR_word {k : Int} (h0 : 0 ≤ k) (h1 : k ≤ 9223372036854775807) (rest : List UInt8) : noR (Go.Lib.itoa k ++ 32 :: rest) = some (k, rest) := by
  unfold noR
  rw [cut_word _ _ (itoa_dig h0)]
  simp only
  rw [atoi_itoa h0 h1]
  simp
theorem noR_inv {l r : List UInt8} {k : Int} (h : noR l = some (k, r)) : l = Go.Lib.itoa k ++ 32 :: r ∧ -9223372036854775808 ≤ k ∧ k ≤ 9223372036854775807 := by
  unfold noR at h
  split at h
  · rename_i v hv
    by_cases hc : (Go.Lib.cut l [32]).2.2 = true ∧ Go.Lib.itoa v = (Go.Lib.cut l [32]).1
    · rw [if_pos hc] at h
      injection h with h
      injection h with h1 h2
      subst h1
      refine ⟨?_, Go.Lib.atoiAll_bounds hv⟩
      obtain ⟨c1, c2⟩ := hc
      rw [c2, ← h2]
      unfold Go.Lib.cut at c1 ⊢
      by_cases hi : 0 ≤ Go.Lib.index l [32]
      · rw [if_pos hi]
        simp only
        rcases Go.Lib.index_spec l [32] with ⟨e1, _⟩ | ⟨i, e1, e2, e3, _⟩
        · omega
        · rw [e1]
          have g := Go.Lib.occAt_head (t := []) rfl e3
          have hlt : i < l.length := by
            rcases Nat.lt_or_ge i l.length with q | q
            · exact q
            · rw [List.getElem?_eq_none q] at g; cases g
          rw [List.getElem?_eq_getElem hlt] at g
          injection g with g
          have := List.take_append_drop i l
          rw [List.drop_eq_getElem_cons hlt, g] at this
          simpa using this.symm
      · rw [if_neg hi] at c1; cases c1
    · rw [if_neg hc] at h; cases h
  · cases h
theorem noE_ok {a n s : Int} {l : List UInt8} (h : noE a n s l = 0) : 0 ≤ a ∧ a < 8 ∧ 1 ≤ n ∧ n ≤ 2147483647 ∧ 0 ≤ s ∧ s < 2147483647 ∧ l.length ≤ 200 ∧ noBad l = false := by
  unfold noE at h
  by_cases c1 : a < 0 ∨ 8 ≤ a ∨ n < 1 ∨ 2147483647 < n ∨ s < 0 ∨ 2147483647 ≤ s
  · rw [if_pos c1] at h; cases h
  · rw [if_neg c1] at h
    by_cases c2 : 200 < l.length
    · rw [if_pos c2] at h; cases h
    · rw [if_neg c2] at h
      cases c3 : noBad l with
      | true => rw [if_pos c3] at h; cases h
      | false => exact ⟨by omega, by omega, by omega, by omega, by omega, by omega, by omega, rfl⟩
theorem noE_or (a n s : Int) (l : List UInt8) : noE a n s l = 0 ∨ noE a n s l = 2 ∨ noE a n s l = 3 ∨ noE a n s l = 4 := by
  unfold noE
  split
  · exact .inr (.inr (.inl rfl))
  · split
    · exact .inr (.inl rfl)
    · split
      · exact .inr (.inr (.inr rfl))
      · exact .inl rfl
/-- Reading inverts writing. -/
theorem read_write {a n s : Int} {l : List UInt8} (h : noE a n s l = 0) : noRead (noW a n s l) = ⟨a, n, s, l, 0⟩ := by
  obtain ⟨a0, a1, n0, n1, s0, s1, -, -⟩ := noE_ok h
  unfold noRead noW
  rw [show Go.Lib.itoa a ++ [32] ++ Go.Lib.itoa n ++ [32] ++ Go.Lib.itoa s ++ [32] ++ l = Go.Lib.itoa a ++ 32 :: (Go.Lib.itoa n ++ 32 :: (Go.Lib.itoa s ++ 32 :: l)) by simp]
  rw [noR_word a0 (by omega)]
  simp only
  rw [noR_word (by omega) (by omega)]
  simp only
  rw [noR_word s0 (by omega)]
  simp only
  rw [if_pos h]
/-- What is read is what is written. -/
theorem write_read {l : List UInt8} (h : (noRead l).e = 0) : noE (noRead l).a (noRead l).n (noRead l).s (noRead l).t = 0 ∧ noW (noRead l).a (noRead l).n (noRead l).s (noRead l).t = l := by
  unfold noRead at h ⊢
  cases h1 : noR l with
  | none => rw [h1] at h; cases h
  | some p =>
    obtain ⟨a, l1⟩ := p
    rw [h1] at h
    simp only at h ⊢
    cases h2 : noR l1 with
    | none => rw [h2] at h; cases h
    | some p =>
      obtain ⟨n, l2⟩ := p
      rw [h2] at h
      simp only at h ⊢
      cases h3 : noR l2 with
      | none => rw [h3] at h; cases h
      | some p =>
        obtain ⟨s, t⟩ := p
        rw [h3] at h
        simp only at h ⊢
        by_cases c : noE a n s t = 0
        · rw [if_pos c]
          refine ⟨c, ?_⟩
          rw [(noR_inv h1).1, (noR_inv h2).1, (noR_inv h3).1]
          unfold noW
          simp
        · rw [if_neg c] at h
          exact absurd h c
theorem read_bad {l : List UInt8} (h : (noRead l).e ≠ 0) : (noRead l).a = 0 ∧ (noRead l).n = 0 ∧ (noRead l).s = 0 ∧ (noRead l).t = [] ∧ ((noRead l).e = 2 ∨ (noRead l).e = 3 ∨ (noRead l).e = 4) := by
  unfold noRead at h ⊢
  cases h1 : noR l with
  | none => exact ⟨rfl, rfl, rfl, rfl, .inr (.inr rfl)⟩
  | some p =>
    obtain ⟨a, l1⟩ := p
    rw [h1] at h
    simp only at h ⊢
    cases h2 : noR l1 with
    | none => exact ⟨rfl, rfl, rfl, rfl, .inr (.inr rfl)⟩
    | some p =>
      obtain ⟨n, l2⟩ := p
      rw [h2] at h
      simp only at h ⊢
      cases h3 : noR l2 with
      | none => exact ⟨rfl, rfl, rfl, rfl, .inr (.inr rfl)⟩
      | some p =>
        obtain ⟨s, t⟩ := p
        rw [h3] at h
        simp only at h ⊢
        by_cases c : noE a n s t = 0
        · rw [if_pos c] at h; exact absurd rfl h
        · rw [if_neg c] at h ⊢
          exact ⟨rfl, rfl, rfl, rfl, by have := noE_or a n s t; simp only; omega⟩
end Go.Proofs.YtapmdkinneehjaaDoor
