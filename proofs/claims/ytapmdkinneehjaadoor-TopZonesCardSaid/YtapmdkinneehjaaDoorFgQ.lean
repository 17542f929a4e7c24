/- Cutting and splitting at a byte, in plain Lean. Reading fractions and figures, in plain Lean. What is read is what is written, and only that. -/
import Derived.Test.YtapmdkinneehjaaDoorPlainFc
import Derived.Lib.SplitLaws
set_option linter.unusedVariables false
set_option linter.unusedSimpArgs false
namespace Go.Proofs.YtapmdkinneehjaaDoor
section
theorem ixb_hit (c : UInt8) : ∀ (d rest : List UInt8), (∀ x ∈ d, x ≠ c) → Go.Lib.index (d ++ c :: rest) [c] = (d.length : Int)
  | [], rest, _ => by simp [Go.Lib.index, List.isPrefixOf]
  | b :: l, rest, h => by
    have e := ixb_hit c l rest (fun x hx => h x (List.mem_cons_of_mem _ hx))
    have hc : (c == b) = false := beq_eq_false_iff_ne.2 (fun q => h b List.mem_cons_self q.symm)
    rw [List.cons_append, Go.Lib.index]
    rw [show ([c] : List UInt8).isPrefixOf (b :: (l ++ c :: rest)) = false by simp [List.isPrefixOf, hc], e]
    rw [if_neg (by decide), if_neg (by rw [beq_iff_eq]; omega)]
    simp
theorem ixb_miss (c : UInt8) : ∀ (d : List UInt8), (∀ x ∈ d, x ≠ c) → Go.Lib.index d [c] = -1
  | [], _ => by rfl
  | b :: l, h => by
    have e := ixb_miss c l (fun x hx => h x (List.mem_cons_of_mem _ hx))
    have hc : (c == b) = false := beq_eq_false_iff_ne.2 (fun q => h b List.mem_cons_self q.symm)
    rw [Go.Lib.index]
    rw [show ([c] : List UInt8).isPrefixOf (b :: l) = false by simp [List.isPrefixOf, hc], e]
    rw [if_neg (by decide), if_pos (by decide)]
theorem cutb_hit (c : UInt8) (d rest : List UInt8) (h : ∀ x ∈ d, x ≠ c) : Go.Lib.cut (d ++ c :: rest) [c] = (d, rest, true) := by
  unfold Go.Lib.cut
  rw [ixb_hit c d rest h, if_pos (by omega)]
  simp
theorem cutb_miss (c : UInt8) (d : List UInt8) (h : ∀ x ∈ d, x ≠ c) : Go.Lib.cut d [c] = (d, [], false) := by
  unfold Go.Lib.cut
  rw [ixb_miss c d h, if_neg (by omega)]
theorem byte_cases (c : UInt8) : ∀ l : List UInt8, (∀ x ∈ l, x ≠ c) ∨ ∃ d rest, (∀ x ∈ d, x ≠ c) ∧ l = d ++ c :: rest
  | [] => .inl (by simp)
  | b :: l => by
    by_cases h : b = c
    · exact .inr ⟨[], l, by simp, by rw [h]; rfl⟩
    · rcases byte_cases c l with q | ⟨d, r, q, rfl⟩
      · exact .inl (by intro x hx; rcases List.mem_cons.1 hx with rfl | hx; exact h; exact q x hx)
      · exact .inr ⟨b :: d, r, by intro x hx; rcases List.mem_cons.1 hx with rfl | hx; exact h; exact q x hx, rfl⟩
theorem cutb_inv {c : UInt8} {l d rest : List UInt8} (h : Go.Lib.cut l [c] = (d, rest, true)) : l = d ++ c :: rest ∧ ∀ x ∈ d, x ≠ c := by
  rcases byte_cases c l with q | ⟨d', r, q, rfl⟩
  · rw [cutb_miss c l q] at h; cases h
  · rw [cutb_hit c d' r q] at h; cases h; exact ⟨rfl, q⟩
/-- The words of a line. -/
def spl : List UInt8 → List (List UInt8)
  | [] => [[]]
  | c :: l => if c = 32 then [] :: spl l else match spl l with
    | [] => [[c]]
    | x :: r => (c :: x) :: r
def jn : List (List UInt8) → List UInt8
  | [] => []
  | [x] => x
  | x :: y :: r => x ++ 32 :: jn (y :: r)
theorem spl_ne (l : List UInt8) : spl l ≠ [] := by
  cases l with
  | nil => simp [spl]
  | cons c l => unfold spl; split; simp; split <;> simp
theorem jn_spl : ∀ l : List UInt8, jn (spl l) = l
  | [] => rfl
  | c :: l => by
    have ih := jn_spl l
    have hn := spl_ne l
    unfold spl
    by_cases h : c = 32
    · rw [if_pos h, h]
      cases hs : spl l with
      | nil => exact absurd hs hn
      | cons x r => rw [hs] at ih; show [] ++ 32 :: jn (x :: r) = _; rw [ih]; rfl
    · rw [if_neg h]
      cases hs : spl l with
      | nil => exact absurd hs hn
      | cons x r =>
        rw [hs] at ih
        cases r with
        | nil => show c :: x = _; rw [show x = l from ih]
        | cons y r => show (c :: x) ++ 32 :: jn (y :: r) = _; rw [← ih]; rfl
theorem spl_miss : ∀ d : List UInt8, (∀ x ∈ d, x ≠ 32) → spl d = [d]
  | [], _ => rfl
  | b :: l, h => by
    rw [spl, if_neg (h b List.mem_cons_self), spl_miss l (fun x hx => h x (List.mem_cons_of_mem _ hx))]
theorem spl_hit : ∀ (d rest : List UInt8), (∀ x ∈ d, x ≠ 32) → spl (d ++ 32 :: rest) = d :: spl rest
  | [], rest, _ => by simp [spl]
  | b :: l, rest, h => by
    rw [List.cons_append, spl, if_neg (h b List.mem_cons_self), spl_hit l rest (fun x hx => h x (List.mem_cons_of_mem _ hx))]
theorem split_spl : ∀ l : List UInt8, Go.Lib.split l [32] = spl l := by
  have key : ∀ n (l : List UInt8), l.length ≤ n → Go.Lib.split l [32] = spl l := by
    intro n
    induction n with
    | zero =>
      intro l h
      cases l with
      | nil => rfl
      | cons c l => simp at h
    | succ n ih =>
      intro l hl
      rcases byte_cases 32 l with q | ⟨d, r, q, rfl⟩
      · rw [spl_miss l q]
        unfold Go.Lib.split
        rw [Go.Lib.count_one, List.count_eq_zero.2 (fun hm => q 32 hm rfl)]
        rfl
      · rw [spl_hit d r q, ← ih r (by simp at hl; omega)]
        unfold Go.Lib.split
        rw [Go.Lib.count_one, Go.Lib.count_one, List.count_append, List.count_eq_zero.2 (fun hm => q 32 hm rfl), List.count_cons_self, Nat.zero_add]
        rw [Go.Lib.splitK, ixb_hit 32 d r q, if_neg (by rw [beq_iff_eq]; omega)]
        simp
  exact fun l => key l.length l (Nat.le_refl _)
end
section
theorem dig_ne {u : Nat} {c : UInt8} (hc : c ∈ Go.Lib.decDigits u) : 48 ≤ c.toNat ∧ c.toNat ≤ 57 := dec_dig u c hc
theorem itoa_chars (k : Int) : ∀ c ∈ Go.Lib.itoa k, c ≠ 32 ∧ c ≠ 47 ∧ c ≠ 10 := by
  intro c hc
  have h : c.toNat = 45 ∨ (48 ≤ c.toNat ∧ c.toNat ≤ 57) := by
    unfold Go.Lib.itoa at hc
    split at hc
    · rcases List.mem_cons.1 hc with rfl | hc
      · exact .inl rfl
      · exact .inr (dec_dig _ c hc)
    · exact .inr (dec_dig _ c hc)
  refine ⟨?_, ?_, ?_⟩ <;> (rintro rfl; revert h; decide)
theorem atoi_itoaN {k : Int} (h0 : -9223372036854775807 ≤ k) (h1 : k ≤ 9223372036854775807) : Go.Lib.atoiAll (Go.Lib.itoa k) = .ok k := by
  by_cases h : 0 ≤ k
  · exact atoi_itoa h h1
  · unfold Go.Lib.itoa
    rw [if_pos (by omega), Go.Lib.atoiAll_minus]
    have hp := parse_dec k.natAbs (by omega)
    have hn := dec_ne k.natAbs
    unfold Go.Lib.parseMag
    rw [if_neg hn, hp]
    unfold Go.Lib.signed
    simp only
    rw [if_neg (by omega)]
    congr 1
    omega
/-- A whole number written as it must be. -/
def inR (w : List UInt8) : Option Int := match Go.Lib.atoiAll w with
  | .ok v => if Go.Lib.itoa v = w then some v else none
  | _ => none
theorem inR_itoa {k : Int} (h0 : -9223372036854775807 ≤ k) (h1 : k ≤ 9223372036854775807) : inR (Go.Lib.itoa k) = some k := by
  unfold inR
  rw [atoi_itoaN h0 h1]
  simp
theorem inR_inv {w : List UInt8} {k : Int} (h : inR w = some k) : Go.Lib.itoa k = w ∧ Go.Lib.atoiAll w = .ok k := by
  unfold inR at h
  split at h
  · rename_i v hv
    split at h
    · rename_i q
      injection h with h
      subst h
      exact ⟨q, hv⟩
    · cases h
  · cases h
theorem itoa_inj {a b : Int} (a0 : -9223372036854775807 ≤ a) (a1 : a ≤ 9223372036854775807) (b0 : -9223372036854775807 ≤ b) (b1 : b ≤ 9223372036854775807) (h : Go.Lib.itoa a = Go.Lib.itoa b) : a = b := by
  have x := inR_itoa a0 a1
  rw [h, inR_itoa b0 b1] at x
  injection x with x
  exact x.symm
/-- What strings.Cut at a stroke finds in the text of a fraction. -/
theorem cut_show (n d : Int) : Go.Lib.cut (showF n d) [47] = if d = 1 then (Go.Lib.itoa n, [], false) else (Go.Lib.itoa n, Go.Lib.itoa d, true) := by
  unfold showF
  by_cases h : d = 1
  · rw [if_pos h, if_pos h, List.append_nil]
    exact cutb_miss 47 _ (fun x hx => (itoa_chars n x hx).2.1)
  · rw [if_neg h, if_neg h]
    exact cutb_hit 47 _ _ (fun x hx => (itoa_chars n x hx).2.1)
theorem showF_inj {n d m e : Int} (h1 : fcE n d = 0) (h2 : fcE m e = 0) (h : showF n d = showF m e) : n = m ∧ d = e := by
  obtain ⟨d0, d1, n0, n1, -⟩ := fcE_ok h1
  obtain ⟨e0, e1, m0, m1, -⟩ := fcE_ok h2
  have x := cut_show n d
  rw [h, cut_show m e] at x
  by_cases p : d = 1
  · by_cases q : e = 1
    · rw [if_pos p, if_pos q] at x
      injection x with x1 x2
      exact ⟨(itoa_inj (by omega) (by omega) (by omega) (by omega) x1).symm, by omega⟩
    · rw [if_pos p, if_neg q] at x
      injection x with x1 x2
      injection x2 with x2 x3
      cases x3
  · by_cases q : e = 1
    · rw [if_neg p, if_pos q] at x
      injection x with x1 x2
      injection x2 with x2 x3
      cases x3
    · rw [if_neg p, if_neg q] at x
      injection x with x1 x2
      injection x2 with x2 x3
      exact ⟨(itoa_inj (by omega) (by omega) (by omega) (by omega) x1).symm, (itoa_inj (by omega) (by omega) (by omega) (by omega) x2).symm⟩
open Classical in
noncomputable def frR (w : List UInt8) : Option (Int × Int) := if h : ∃ p : Int × Int, fcE p.1 p.2 = 0 ∧ showF p.1 p.2 = w then some (Classical.choose h) else none
theorem frR_some {w : List UInt8} {n d : Int} (h : frR w = some (n, d)) : fcE n d = 0 ∧ showF n d = w := by
  unfold frR at h
  split at h
  · rename_i q
    injection h with h
    have := Classical.choose_spec q
    rw [h] at this
    exact this
  · cases h
theorem frR_none {w : List UInt8} (h : frR w = none) : ∀ n d, fcE n d = 0 → showF n d ≠ w := by
  intro n d h1 h2
  unfold frR at h
  rw [dif_pos ⟨(n, d), h1, h2⟩] at h
  cases h
theorem frR_show {n d : Int} (h : fcE n d = 0) : frR (showF n d) = some (n, d) := by
  cases hx : frR (showF n d) with
  | none => exact absurd rfl (frR_none hx n d h)
  | some p =>
    obtain ⟨m, e⟩ := p
    obtain ⟨h1, h2⟩ := frR_some hx
    obtain ⟨rfl, rfl⟩ := showF_inj h1 h h2
    rfl
noncomputable def ptR (ws : List (List UInt8)) : Option Fp := match ws with
  | [a, b] => match frR a, frR b with
    | some x, some y => some ⟨x.1, x.2, y.1, y.2⟩
    | _, _ => none
  | _ => none
def lnR : List (List UInt8) → Option (List Int)
  | [] => some []
  | w :: r => match inR w, lnR r with
    | some v, some q => some (v :: q)
    | _, _ => none
noncomputable def rdF : Nat → List UInt8 → List Fp → List (List Int) → Option (List Fp × List (List Int))
  | 0, _, P, L => some (P, L)
  | k + 1, s, P, L => if s = [] then some (P, L) else match Go.Lib.cut s [10] with
    | (line, rest, true) => match spl line with
      | w :: ws => if w = [112] ∧ L = [] then match ptR ws with
          | some p => rdF k rest (P ++ [p]) L
          | none => none
        else if w = [108] then match lnR ws with
          | some r => rdF k rest P (L ++ [r])
          | none => none
        else none
      | [] => none
    | (_, _, false) => none
theorem rdF_nil (k : Nat) (P : List Fp) (L : List (List Int)) : rdF k [] P L = some (P, L) := by cases k <;> simp [rdF]
theorem ptR_inv {ws : List (List UInt8)} {p : Fp} (h : ptR ws = some p) : fcE p.xn p.xd = 0 ∧ fcE p.yn p.yd = 0 ∧ ws = [showF p.xn p.xd, showF p.yn p.yd] := by
  unfold ptR at h
  split at h
  · rename_i a b
    split at h
    · rename_i x y hx hy
      injection h with h
      subst h
      obtain ⟨h1, h2⟩ := frR_some hx
      obtain ⟨h3, h4⟩ := frR_some hy
      exact ⟨h1, h3, by rw [h2, h4]⟩
    · cases h
  · cases h
theorem ptR_ok {p : Fp} (h : ptE p = 0) : ptR [showF p.xn p.xd, showF p.yn p.yd] = some p := by
  obtain ⟨h1, h2⟩ := ptE_zero h
  unfold ptR
  simp only
  rw [frR_show h1, frR_show h2]
theorem lnR_inv : ∀ {ws : List (List UInt8)} {r : List Int}, lnR ws = some r → ws = r.map Go.Lib.itoa
  | [], r, h => by injection h with h; subst h; rfl
  | w :: ws, r, h => by
    unfold lnR at h
    split at h
    · rename_i v q hv hq
      injection h with h
      subst h
      rw [List.map_cons, (inR_inv hv).1, ← lnR_inv hq]
    · cases h
theorem lnR_ok : ∀ {r : List Int}, (∀ n ∈ r, -9223372036854775807 ≤ n ∧ n ≤ 9223372036854775807) → lnR (r.map Go.Lib.itoa) = some r
  | [], _ => rfl
  | n :: r, h => by
    rw [List.map_cons, lnR, inR_itoa (h n (by simp)).1 (h n (by simp)).2, lnR_ok (fun m hm => h m (by simp [hm]))]
end
section
theorem jn_map (r : List Int) : ∀ w : List UInt8, jn (w :: r.map Go.Lib.itoa) = w ++ nmT r := by
  induction r with
  | nil => intro w; simp [jn, nmT]
  | cons n r ih =>
    intro w
    rw [List.map_cons]
    show w ++ 32 :: jn (Go.Lib.itoa n :: r.map Go.Lib.itoa) = _
    rw [ih]
    simp [nmT]
theorem lnT_line {ws : List (List UInt8)} {r : List Int} {line : List UInt8} (h : spl line = [108] :: ws) (hr : lnR ws = some r) : line ++ [10] = lnT r := by
  have := jn_spl line
  rw [h, lnR_inv hr, jn_map] at this
  rw [← this]
  unfold lnT
  simp
theorem ptT_line {ws : List (List UInt8)} {p : Fp} {line : List UInt8} (h : spl line = [112] :: ws) (hr : ptR ws = some p) : line ++ [10] = ptT p := by
  have := jn_spl line
  rw [h, (ptR_inv hr).2.2] at this
  rw [← this]
  unfold ptT
  simp [jn]
theorem rdF_sound : ∀ (k : Nat) (s : List UInt8) (P : List Fp) (L : List (List Int)) (P' : List Fp) (L' : List (List Int)), s.length ≤ k → rdF k s P L = some (P', L') → fgT P' L' = fgT P L ++ s
  | 0, s, P, L, P', L', hk, h => by
    have : s = [] := List.eq_nil_of_length_eq_zero (by omega)
    subst this
    injection h with h
    injection h with h1 h2
    rw [h1, h2, List.append_nil]
  | k + 1, s, P, L, P', L', hk, h => by
    unfold rdF at h
    by_cases h0 : s = []
    · rw [if_pos h0] at h
      injection h with h
      injection h with h1 h2
      rw [h1, h2, h0, List.append_nil]
    · rw [if_neg h0] at h
      rcases byte_cases 10 s with q | ⟨line, rest, q, rfl⟩
      · rw [cutb_miss 10 s q] at h
        cases h
      · rw [cutb_hit 10 line rest q] at h
        simp only at h
        have hl : rest.length ≤ k := by simp at hk; omega
        have he : line ++ 10 :: rest = (line ++ [10]) ++ rest := by simp
        split at h
        · rename_i w ws hs
          by_cases c1 : w = [112] ∧ L = []
          · rw [if_pos c1] at h
            obtain ⟨rfl, rfl⟩ := c1
            split at h
            · rename_i p hp
              rw [rdF_sound k rest _ _ P' L' hl h, he, ptT_line hs hp]
              unfold fgT
              simp
            · cases h
          · rw [if_neg c1] at h
            by_cases c2 : w = [108]
            · rw [if_pos c2] at h
              subst c2
              split at h
              · rename_i r hr
                rw [rdF_sound k rest _ _ P' L' hl h, he, lnT_line hs hr]
                unfold fgT
                simp
              · cases h
            · rw [if_neg c2] at h
              cases h
        · cases h
theorem showF_chars {n d : Int} : ∀ c ∈ showF n d, c ≠ 32 ∧ c ≠ 10 := by
  intro c hc
  unfold showF at hc
  rcases List.mem_append.1 hc with h | h
  · exact ⟨(itoa_chars n c h).1, (itoa_chars n c h).2.2⟩
  · split at h
    · cases h
    · rcases List.mem_cons.1 h with rfl | h
      · decide
      · exact ⟨(itoa_chars d c h).1, (itoa_chars d c h).2.2⟩
theorem spl_nm (r : List Int) : ∀ w : List UInt8, (∀ x ∈ w, x ≠ 32) → spl (w ++ nmT r) = w :: r.map Go.Lib.itoa := by
  induction r with
  | nil => intro w h; rw [show nmT [] = [] from rfl, List.append_nil, spl_miss w h]; rfl
  | cons n r ih =>
    intro w h
    rw [show nmT (n :: r) = 32 :: (Go.Lib.itoa n ++ nmT r) by simp [nmT], spl_hit w _ h, ih _ (fun x hx => (itoa_chars n x hx).1)]
    rfl
theorem nmT_chars (r : List Int) : ∀ c ∈ nmT r, c ≠ 10 := by
  intro c hc
  unfold nmT at hc
  obtain ⟨n, hn, h⟩ := List.mem_flatMap.1 hc
  rcases List.mem_cons.1 h with rfl | h
  · decide
  · exact (itoa_chars n c h).2.2
theorem rdF_pt {k : Nat} {p : Fp} {rest : List UInt8} {P : List Fp} (hp : ptE p = 0) : rdF (k + 1) (ptT p ++ rest) P [] = rdF k rest (P ++ [p]) [] := by
  have e : ptT p ++ rest = ([112, 32] ++ showF p.xn p.xd ++ [32] ++ showF p.yn p.yd) ++ 10 :: rest := by unfold ptT; simp
  have hc : ∀ x ∈ ([112, 32] ++ showF p.xn p.xd ++ [32] ++ showF p.yn p.yd), x ≠ 10 := by
    intro x hx
    simp only [List.mem_append, List.mem_cons, List.not_mem_nil, or_false] at hx
    rcases hx with (((rfl | rfl) | h) | rfl) | h
    · decide
    · decide
    · exact (showF_chars x h).2
    · decide
    · exact (showF_chars x h).2
  have hs : spl ([112, 32] ++ showF p.xn p.xd ++ [32] ++ showF p.yn p.yd) = [[112], showF p.xn p.xd, showF p.yn p.yd] := by
    rw [show ([112, 32] ++ showF p.xn p.xd ++ [32] ++ showF p.yn p.yd : List UInt8) = [112] ++ 32 :: (showF p.xn p.xd ++ 32 :: showF p.yn p.yd) by simp]
    rw [spl_hit [112] _ (by simp), spl_hit _ _ (fun x hx => (showF_chars x hx).1), spl_miss _ (fun x hx => (showF_chars x hx).1)]
  rw [rdF, if_neg (by rw [e]; simp), e, cutb_hit 10 _ rest hc]
  simp only
  rw [hs]
  simp only
  simp only [and_self, if_true]
  rw [ptR_ok hp]
theorem rdF_ln {k : Nat} {r : List Int} {rest : List UInt8} {P : List Fp} {L : List (List Int)} (hr : ∀ n ∈ r, -9223372036854775807 ≤ n ∧ n ≤ 9223372036854775807) : rdF (k + 1) (lnT r ++ rest) P L = rdF k rest P (L ++ [r]) := by
  have e : lnT r ++ rest = ([108] ++ nmT r) ++ 10 :: rest := by unfold lnT; simp
  have hc : ∀ x ∈ ([108] ++ nmT r : List UInt8), x ≠ 10 := by
    intro x hx
    rcases List.mem_append.1 hx with h | h
    · simp only [List.mem_cons, List.not_mem_nil, or_false] at h
      subst h; decide
    · exact nmT_chars r x h
  rw [rdF, if_neg (by rw [e]; simp), e, cutb_hit 10 _ rest hc]
  simp only
  rw [spl_nm r [108] (by simp)]
  simp only
  rw [if_neg (by simp), if_pos trivial, lnR_ok hr]
theorem ptT_pos (p : Fp) : 0 < (ptT p).length := by unfold ptT; simp
theorem lnT_pos (r : List Int) : 0 < (lnT r).length := by unfold lnT; simp
theorem rdF_lns : ∀ (R : List (List Int)) (k : Nat) (P : List Fp) (L : List (List Int)), (∀ r ∈ R, ∀ n ∈ r, -9223372036854775807 ≤ n ∧ n ≤ 9223372036854775807) → (R.flatMap lnT).length ≤ k → rdF k (R.flatMap lnT) P L = some (P, L ++ R)
  | [], k, P, L, _, _ => by rw [List.append_nil]; exact rdF_nil k P L
  | r :: R, k, P, L, h, hk => by
    have := lnT_pos r
    rw [List.flatMap_cons, List.length_append] at hk
    obtain ⟨j, rfl⟩ : ∃ j, k = j + 1 := ⟨k - 1, by omega⟩
    rw [List.flatMap_cons, rdF_ln (h r (by simp)), rdF_lns R j P (L ++ [r]) (fun q hq => h q (by simp [hq])) (by omega)]
    simp
theorem rdF_all : ∀ (Q : List Fp) (R : List (List Int)) (k : Nat) (P : List Fp), (∀ p ∈ Q, ptE p = 0) → (∀ r ∈ R, ∀ n ∈ r, -9223372036854775807 ≤ n ∧ n ≤ 9223372036854775807) → (fgT Q R).length ≤ k → rdF k (fgT Q R) P [] = some (P ++ Q, R)
  | [], R, k, P, _, hr, hk => by
    rw [show fgT [] R = R.flatMap lnT from rfl] at *
    rw [rdF_lns R k P [] hr hk]
    simp
  | p :: Q, R, k, P, hp, hr, hk => by
    have := ptT_pos p
    have e : fgT (p :: Q) R = ptT p ++ fgT Q R := by unfold fgT; simp
    rw [e, List.length_append] at hk
    obtain ⟨j, rfl⟩ : ∃ j, k = j + 1 := ⟨k - 1, by omega⟩
    rw [e, rdF_pt (hp p (by simp)), rdF_all Q R j (P ++ [p]) (fun q hq => hp q (by simp [hq])) hr (by omega)]
    simp
/-- What figure.Read finds in a text. -/
noncomputable def rd (s : List UInt8) : Option (List Fp × List (List Int)) := rdF s.length s [] []
theorem rd_sound {s : List UInt8} {P : List Fp} {L : List (List Int)} (h : rd s = some (P, L)) : fgT P L = s := by
  have := rdF_sound s.length s [] [] P L (Nat.le_refl _) h
  rw [this]
  rfl
theorem rd_text {P : List Fp} {L : List (List Int)} (h : fgE P L = 0) : rd (fgT P L) = some (P, L) := by
  obtain ⟨h60, h40, hp, hl⟩ := fgE_ok h
  have := rdF_all P L _ [] (fun p hp' => fe_mem0 hp hp') (fun r hr n hn => by have := (lnE_ok (fe_mem0 hl hr)).2.2 n hn; omega) (Nat.le_refl _)
  exact this
end
end Go.Proofs.YtapmdkinneehjaaDoor
