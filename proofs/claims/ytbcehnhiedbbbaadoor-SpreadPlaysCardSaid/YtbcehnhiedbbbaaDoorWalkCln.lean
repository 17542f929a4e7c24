/- The contracts of slices.Clone and slices.Equal at rows of notices. -/
import Derived.Test.YtbcehnhiedbbbaaDoorWalkNet
import Derived.Test.YtbcehnhiedbbbaaDoorWalkOwn
import Derived.Test.YtbcehnhiedbbbaaDoorFgI
import Derived.Lib.SliceRun
import Derived.Lib.EndianMore
import Derived.BigQuiet
set_option linter.unusedVariables false
set_option linter.unusedSimpArgs false
namespace Go.Proofs.YtbcehnhiedbbbaaDoor
open Go.RowKit
def ntC (t : Nt) : List Value := [.int .i64 t.au, .int .i64 t.no, .string t.tx, .int .i64 t.sm]
def ntCells (l : List Nt) : List Value := l.flatMap ntC
theorem ntCells_len (l : List Nt) : (ntCells l).length = l.length * 4 := by
  induction l with
  | nil => rfl
  | cons t l ih => rw [show ntCells (t :: l) = ntC t ++ ntCells l by simp [ntCells], List.length_append, ih]; simp [ntC]; omega
theorem ntCells_one (l : List Nt) : ∀ u ∈ ntCells l, u.oneCell' = true := by
  intro u hu
  obtain ⟨t, _, h⟩ := List.mem_flatMap.1 hu
  simp only [ntC, List.mem_cons, List.not_mem_nil, or_false] at h
  rcases h with rfl | rfl | rfl | rfl <;> rfl
theorem ntCells_at (l : List Nt) (k : Nat) (h : k < l.length) : ∀ j, j < 4 → (ntCells l)[k * 4 + j]? = (ntC l[k])[j]? := by
  induction l generalizing k with
  | nil => simp at h
  | cons t l ih =>
    intro j hj
    rw [show ntCells (t :: l) = ntC t ++ ntCells l by simp [ntCells]]
    cases k with
    | zero =>
      rw [List.getElem?_append_left (by simp [ntC]; omega)]
      simp
    | succ k =>
      rw [List.getElem?_append_right (by simp [ntC]; omega)]
      rw [show (k + 1) * 4 + j - (ntC t).length = k * 4 + j by simp [ntC]; omega]
      exact ih k (by simpa using h) j hj
/-- A row of notices that the call owns. -/
def NtRow (w : World) (B g c : Nat) (l : List Nt) : Prop := w.ownsRow B 23 4 (.slice (some ⟨g, 0, none⟩) l.length c) l.length (ntCells l)
theorem c_CloneN (B b c : Nat) (l : List Nt) (w : World) (hl : l.length ≤ 8) (hs : NtRow w B b c l) (hb : b < w.heap.size) :
    Calls Tryd.prog 47 #[.slice (some ⟨b, 0, none⟩) l.length c] w fun e w' => ∃ g cap, e = .returned (.slice (some ⟨g, 0, none⟩) l.length cap) ∧ w.heap.size ≤ g ∧ NtRow w' w.heap.size g cap l ∧ Below w.heap.size w w' := by
  have q := fun (w : World) (a : Option Addr) (n c n' c' : Nat) => Lib.run_eql_slice_nil (P := Tryd.prog) w _ _ a n c n' c' Tryd.underlying41
  obtain ⟨i0, hi, hz0, hz1, hz2⟩ := info_parts (show (Tryd.prog.info? 23).map (fun i => (i.zero, i.size, i.bytes)) = some (some (.agg #[.int .i64 0, .int .i64 0, .string ⟨#[]⟩, .int .i64 0]), 4, 40) by kernel_rfl)
  have HS := Lib.hid hs
  clear hs
  have hgen := sgen; have hgen2 := sgen2; have hgen3 := sgen3; go_enter Tryd.func47, Tryd.ntmps47
  go_wp2_with (at_builtin; refine wpList_append_own _ rfl _ _ 41 rfl w.heap.size 23 i0 (.agg #[.int .i64 0, .int .i64 0, .string ⟨#[]⟩, .int .i64 0]) 4 40 Tryd.underlying41 hi hz0 hz1 hz2 rfl (by decide) _ _ _ rfl (World.ownsRow_made w #[] 0 (Nat.le_refl _) (Nat.zero_le _) rfl) ⟨b, 0, none⟩ l.length c (ntCells l) rfl ?qc1 ?qc2 ?qc3 ?qc4 ?qc5 ?qc6 ?_)
  case qc1 => exact ntCells_len l
  case qc2 => exact fun j u hj => ((HS.out.alloc _).cells rfl) j u hj
  case qc3 => exact ntCells_one l
  case qc4 => unfold maxLen; omega
  case qc5 => omega
  case qc6 => simp
  intro v' w1 hown hgrow hnil
  have HOWN := Lib.hid hown; have HG := Lib.hid hgrow; have HN := Lib.hid hnil
  clear hown hgrow hnil
  go_wp2
  go_ret
  have ho : w1.ownsRow w.heap.size 23 4 v' l.length (ntCells l) := by simpa using HOWN.out
  have hbl : Below w.heap.size w w1 := ((Below.refl _ w).alloc (Nat.le_refl _) _).grown HG.out (by simp) (by intro k hk; simp [Value.ownBlock] at hk; omega)
  rcases own_form ho with ⟨rfl, h0⟩ | ⟨g, cap, rfl, -, -, g1, -⟩
  · exact absurd rfl (fun e => HN.out e)
  · exact ⟨g, cap, rfl, g1, ho, hbl⟩
def ntEq (t s : Nt) : Bool := (t.au == s.au) && ((t.no == s.no) && ((t.tx.toList == s.tx.toList) && (t.sm == s.sm)))
theorem eqNt (t s : Nt) : ∀ w, (Op.equalIn 10000 23 (.agg #[.int .i64 t.au, .int .i64 t.no, .string t.tx, .int .i64 t.sm]) (.agg #[.int .i64 s.au, .int .i64 s.no, .string s.tx, .int .i64 s.sm])).run Tryd.prog w = .ok (ntEq t s) w := by
  intro w
  unfold ntEq
  cases h1 : (t.au == s.au) <;> cases h2 : (t.no == s.no) <;> cases h3 : (t.tx.toList == s.tx.toList) <;> cases h4 : (t.sm == s.sm) <;> go_simp
theorem zipT (l l' : List Nt) (h : ∀ j (h1 : j < l.length) (h2 : j < l'.length), ntEq l[j] l'[j] = true) : ((l.zip l').all fun p => ntEq p.1 p.2) = true := by
  rw [List.all_eq_true]
  intro p hp
  obtain ⟨j, hj, rfl⟩ := List.getElem_of_mem hp
  rw [List.getElem_zip]
  have hz : j < l.length ∧ j < l'.length := by rw [List.length_zip] at hj; omega
  exact h j hz.1 hz.2
theorem zipF (l l' : List Nt) (k : Nat) (h1 : k < l.length) (h2 : k < l'.length) (h : ntEq l[k] l'[k] = false) : ((l.zip l').all fun p => ntEq p.1 p.2) = false := by
  cases hz : ((l.zip l').all fun p => ntEq p.1 p.2) with
  | false => rfl
  | true =>
    rw [List.all_eq_true] at hz
    have hk : k < (l.zip l').length := by rw [List.length_zip]; omega
    have := hz _ (List.getElem_mem hk)
    rw [List.getElem_zip] at this
    dsimp only at this
    rw [h] at this
    cases this
theorem c_EqualN (B B' b c b' c' : Nat) (l l' : List Nt) (w : World) (hl : l.length = l'.length) (h8 : l.length ≤ 8) (hs : NtRow w B b c l) (hs' : NtRow w B' b' c' l') :
    Calls Tryd.prog 49 #[.slice (some ⟨b, 0, none⟩) l.length c, .slice (some ⟨b', 0, none⟩) l'.length c'] w fun e w' => e = .returned (.bool ((l.zip l').all fun p => ntEq p.1 p.2)) ∧ Below w.heap.size w w' := by
  have HS := Lib.hid hs
  have HS2 := Lib.hid hs'
  clear hs hs'
  rw [← hl]
  have HLn := Lib.hid hl
  clear hl
  have g : ((l.length : Int) != (l.length : Int)) = false := by simp
  have hgen := sgen; have hgen2 := sgen2; have hgen3 := sgen3; go_enter Tryd.func49, Tryd.ntmps49
  go_wp2_with fail
  go_loopg [13] l.length (fun gk i wr => ∃ k : Nat, gk + k = l.length ∧ i = .int .i64 k ∧ (∀ j (h1 : j < l.length) (h2 : j < l'.length), j < k → ntEq l[j] l'[j] = true) ∧ Below w.heap.size w wr)
  case atStart => exact ⟨0, by omega, rfl, fun j _ _ h => absurd h (Nat.not_lt_zero j), Below.refl _ _⟩
  case round =>
    obtain ⟨k, hk, rfl, hpre, hbel⟩ := hrel
    have HPre := Lib.hid hpre
    clear hpre
    by_cases hlt : k < l.length
    · have hlt' : k < l'.length := by have := HLn.out; omega
      have ho := own_below HS.out hbel
      have ho' := own_below HS2.out hbel
      have cl := fun j (hj : j < 4) => (ho.cells rfl) (k * 4 + j)
      have cl' := fun j (hj : j < 4) => (ho'.cells rfl) (k * 4 + j)
      have p0 := ntCells_at l k hlt
      have p0' := ntCells_at l' k hlt'
      have c0 := cl 0 (by decide) _ (p0 0 (by decide))
      have c1 := cl 1 (by decide) _ (p0 1 (by decide))
      have c2 := cl 2 (by decide) _ (p0 2 (by decide))
      have c3 := cl 3 (by decide) _ (p0 3 (by decide))
      have d0 := cl' 0 (by decide) _ (p0' 0 (by decide))
      have d1 := cl' 1 (by decide) _ (p0' 1 (by decide))
      have d2 := cl' 2 (by decide) _ (p0' 2 (by decide))
      have d3 := cl' 3 (by decide) _ (p0' 3 (by decide))
      rw [Addr.add_lit, Nat.zero_add] at c0 c1 c2 c3 d0 d1 d2 d3
      have ix1 := @ix_Nt (some ⟨b, 0, none⟩) b 0 l.length c k rfl hlt
      have ix2 := @ix_Nt (some ⟨b', 0, none⟩) b' 0 l.length c' k rfl hlt
      simp only [Nat.zero_add] at ix1 ix2
      simp only [Nat.add_zero] at c0 d0
      have heq := eqNt l[k] l'[k]
      clear cl cl' p0 p0' ho ho'
      cases he : ntEq l[k] l'[k] with
      | false =>
        rw [he] at heq
        have HZ := Lib.hid (zipF l l' k hlt hlt' he)
        clear he
        generalize l[k] = t at *
        generalize l'[k] = s at *
        go_upto_region 6 with fail
        go_quiet (fail)
        go_wp2_with fail
        go_ret
        rw [HZ.out]
        refine ⟨rfl, ?_⟩
        exact belz
      | true =>
        rw [he] at heq
        have HZ := Lib.hid he
        clear he
        generalize ht : l[k] = t at *
        generalize hs : l'[k] = s at *
        have Ht := Lib.hid ht
        have Hs := Lib.hid hs
        clear ht hs
        go_upto_region 6 with fail
        go_quiet (fail)
        go_wp2_with fail
        go_roundg (l.length - (k + 1))
        case measure => omega
        case rel =>
          refine ⟨k + 1, by omega, by go_num, fun j h1 h2 h3 => ?_, by exact belz⟩
          by_cases hj : j < k
          · exact HPre.out j h1 h2 hj
          · obtain rfl : j = k := by omega
            rw [Ht.out, Hs.out]; exact HZ.out
    · obtain rfl : k = l.length := by omega
      go_wp2_with fail
      go_ret
      rw [zipT l l' (fun j h1 h2 => HPre.out j h1 h2 h1)]
      exact ⟨rfl, hbel⟩
end Go.Proofs.YtbcehnhiedbbbaaDoor
