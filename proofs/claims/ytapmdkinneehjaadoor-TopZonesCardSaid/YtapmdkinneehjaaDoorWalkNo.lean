/- Contracts of strconv.Itoa, Digits, notice.Check and NoticeErr. -/
import Derived.Test.YtapmdkinneehjaaDoorWalkBase
import Derived.Test.YtapmdkinneehjaaDoorPlainNo
import Derived.Test.YtapmdkinneehjaaDoorShelf
import Derived.Lib.AppendIntMem
import Derived.Lib.ConvBytes
import Derived.Laws.IdiomStrings
import Derived.Deep.LoopGhost
set_option linter.unusedVariables false
set_option linter.unusedSimpArgs false
namespace Go.Proofs.YtapmdkinneehjaaDoor
open Go.RowKit
/-- The library's table of powers of ten, as the program's text lays it. -/
structure NTab (w : World) : Prop where
  lt : 1 < w.heap.size
  t : Go.Lib.TabIs Tryd.prog w "internal/strconv.uint64pow10" .u64 Go.Lib.pow10Tab
theorem NTab.below {w w' : World} (h : NTab w) (hb : Below w.heap.size w w') : NTab w' :=
  ⟨Nat.lt_of_lt_of_le h.lt hb.size, var?_below hb (by kernel_rfl) h.lt h.t⟩
theorem c_Itoa (n : Int) (w : World) (hT : NTab w) (h0 : -9223372036854775808 ≤ n) (h1 : n ≤ 9223372036854775807) :
    Calls Tryd.prog 14 #[.int .i64 n] w fun e w' => e = .returned (.string ⟨(Go.Lib.itoa n).toArray⟩) ∧ Below w.heap.size w w' :=
  (Tryd.strconv_Itoa n h0 h1 w hT.t).mono fun e w' ⟨h, k, os, e'⟩ => ⟨h, by rw [e']; exact Go.Lib.below_grow _ w (Nat.le_refl _) k os⟩
/-- A byte of a string. -/
theorem str_ix (T : ByteArray) (k : Nat) (c : UInt8) (h : T.data.toList[k]? = some c) (w : World) : (Instr.index 9 (.string T) (.int .i64 (k : Int))).run Tryd.prog w = .ok (.int .u8 (c.toNat : Int)) w := by
  rw [run_index_string (P := Tryd.prog) (w := w) 9 T .i64 (k : Int) Tryd.underlying9]
  have hk : k < T.size := by
    rcases Nat.lt_or_ge k T.data.toList.length with q | q
    · simpa using q
    · rw [List.getElem?_eq_none q] at h; cases h
  rw [dif_pos ⟨by omega, by exact_mod_cast hk⟩]
  have e : T[(k : Int).toNat]'(by simpa using hk) = c := by
    rw [List.getElem?_eq_getElem (by simpa using hk)] at h
    injection h
  rw [e]
theorem drop_one {l : List UInt8} {k : Nat} (h : k < l.length) : ∃ c, l[k]? = some c ∧ l.drop k = c :: l.drop (k + 1) :=
  ⟨l[k], List.getElem?_eq_getElem h, List.drop_eq_getElem_cons h⟩
theorem str_len (T : ByteArray) : T.data.toList.length = T.size := Array.length_toList
/-- A notice in memory. -/
structure NoAt (w : World) (b : Nat) (a n : Int) (T : ByteArray) (s : Int) : Prop where
  lt : b < w.heap.size
  c0 : w.cell? ⟨b, 0, none⟩ = some (.int .i64 a)
  c1 : w.cell? ⟨b, 1, none⟩ = some (.int .i64 n)
  c2 : w.cell? ⟨b, 2, none⟩ = some (.string T)
  c3 : w.cell? ⟨b, 3, none⟩ = some (.int .i64 s)
theorem noE_six {a n s : Int} (l : List UInt8) (h : a < 0 ∨ 8 ≤ a ∨ n < 1 ∨ 2147483647 < n ∨ s < 0 ∨ 2147483647 ≤ s) : noE a n s l = 3 := by unfold noE; rw [if_pos h]
end Go.Proofs.YtapmdkinneehjaaDoor
