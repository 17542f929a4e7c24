/- The contract of notice.Read at a written text; the walk through the law NoticeWrites. -/
import Derived.Test.YtapmdkinneehjaaDoorWalkNoS
set_option linter.unusedVariables false
set_option linter.unusedSimpArgs false
namespace Go.Proofs.YtapmdkinneehjaaDoor
open Go.RowKit
/-- The library's variable that strings.Cut reads. -/
structure NMx (w : World) : Prop where
  lt : 0 < w.heap.size
  c : ∃ m : Int, w.cell? ⟨0, 0, none⟩ = some (.int .i64 m)
theorem NMx.below {w w' : World} (h : NMx w) (hb : Below w.heap.size w w') : NMx w' := by
  obtain ⟨lt, m, c⟩ := h
  exact ⟨Nat.lt_of_lt_of_le lt hb.size, m, (hb.cell (p := ⟨0, 0, none⟩) lt).trans c⟩
theorem c_Cut (s : ByteArray) (w : World) (hM : NMx w) (hs : s.size < 4294967281) {x y : List UInt8} {b : Bool} (h : Go.Lib.cut s.data.toList [32] = (x, y, b)) :
    Calls Tryd.prog 16 #[.string s, .string ⟨#[32]⟩] w fun e w' => e = .returned (.tuple #[.string (strB x), .string (strB y), .bool b]) ∧ Below w.heap.size w w' := by
  obtain ⟨lt, m, c⟩ := hM
  have hc := Tryd.strings_Cut s ⟨#[32]⟩ m w hs c
  rw [show (⟨#[32]⟩ : ByteArray).data.toList = [32] from rfl, h] at hc
  exact hc.mono fun e w' ⟨h1, n, h2⟩ => ⟨h1, by rw [h2]; exact below_drewN (Below.refl _ _) _⟩
/-- The steps of reading one word. -/
structure WdC (S W S1 : ByteArray) (k : Int) : Prop where
  c : ∀ w, NMx w → Calls Tryd.prog 16 #[.string S, .string ⟨#[32]⟩] w fun e w' => e = .returned (.tuple #[.string W, .string S1, .bool true]) ∧ Below w.heap.size w w'
  a : ∀ w, Calls Tryd.prog 39 #[.string W] w fun e w' => e = .returned (.tuple #[.int .i64 k, .nilIface]) ∧ Below w.heap.size w w'
  i : ∀ w, NTab w → Calls Tryd.prog 14 #[.int .i64 k] w fun e w' => e = .returned (.string W) ∧ Below w.heap.size w w'
theorem wdC {k : Int} {rest : List UInt8} (h0 : 0 ≤ k) (h1 : k ≤ 2147483647) (hl : rest.length ≤ 300) : WdC (strB (Go.Lib.itoa k ++ 32 :: rest)) (strB (Go.Lib.itoa k)) (strB rest) k := by
  have li := Go.Lib.itoa_length_le k (by omega) (by omega)
  refine ⟨fun w hM => c_Cut _ w hM ?_ ?_, fun w => ?_, fun w hT => c_Itoa k w hT (by omega) (by omega)⟩
  · show (List.toArray _).size < _
    simp; omega
  · rw [strB_l]; exact cut_word _ _ (itoa_dig h0)
  · have := Tryd.strconv_Atoi_ok (strB (Go.Lib.itoa k)) (by show (List.toArray _).size ≤ _; simp; omega) k (by rw [strB_l]; exact atoi_itoa h0 (by omega)) w
    refine this.mono ?_
    rintro e w' ⟨h, rfl | ⟨t, rfl⟩⟩
    · exact ⟨h, Below.refl _ _⟩
    · exact ⟨h, Go.Joins.below_bytesWorld _ _ _ _ (Nat.le_refl _)⟩
end Go.Proofs.YtapmdkinneehjaaDoor
