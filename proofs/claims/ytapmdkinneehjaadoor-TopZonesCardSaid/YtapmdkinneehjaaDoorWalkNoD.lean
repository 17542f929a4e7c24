/- The contract of notice.Read at any text; the walk through the law NoticeReads. -/
import Derived.Test.YtapmdkinneehjaaDoorWalkNoC
set_option linter.unusedVariables false
set_option linter.unusedSimpArgs false
namespace Go.Proofs.YtapmdkinneehjaaDoor
open Go.RowKit
/-- The library's errors, as the program's text lays them. -/
structure NEr (w : World) : Prop where
  ls : 2 < w.heap.size
  s : ∃ tp p, w.var? Tryd.prog "strconv.ErrSyntax" = some #[.iface tp p]
  lr : 3 < w.heap.size
  r : ∃ tp p, w.var? Tryd.prog "strconv.ErrRange" = some #[.iface tp p]
theorem NEr.below {w w' : World} (h : NEr w) (hb : Below w.heap.size w w') : NEr w' := by
  obtain ⟨ls, ⟨t1, p1, h1⟩, lr, ⟨t2, p2, h2⟩⟩ := h
  exact ⟨Nat.lt_of_lt_of_le ls hb.size, ⟨t1, p1, var?_below hb (by kernel_rfl) ls h1⟩, Nat.lt_of_lt_of_le lr hb.size, ⟨t2, p2, var?_below hb (by kernel_rfl) lr h2⟩⟩
/-- What Atoi answers: a number without an error, or some error. -/
theorem c_AtoiOk (s : ByteArray) (w : World) (hs : s.size ≤ 281474976710656) {v : Int} (h : Go.Lib.atoiAll s.data.toList = .ok v) :
    Calls Tryd.prog 39 #[.string s] w fun e w' => e = .returned (.tuple #[.int .i64 v, .nilIface]) ∧ Below w.heap.size w w' := by
  refine (Tryd.strconv_Atoi_ok s (by omega) v h w).mono ?_
  rintro e w' ⟨h, rfl | ⟨t, rfl⟩⟩
  · exact ⟨h, Below.refl _ _⟩
  · exact ⟨h, Go.Joins.below_bytesWorld _ _ _ _ (Nat.le_refl _)⟩
theorem c_AtoiErr (s : ByteArray) (w : World) (hE : NEr w) (hs : s.size ≤ 281474976710656) (h : ∀ v, Go.Lib.atoiAll s.data.toList ≠ .ok v) :
    Calls Tryd.prog 39 #[.string s] w fun e w' => ∃ (v : Int) (tp : TypeId) (p : Value), e = .returned (.tuple #[.int .i64 v, .iface tp p]) ∧ Below w.heap.size w w' := by
  obtain ⟨ls, ⟨t1, p1, h1⟩, lr, ⟨t2, p2, h2⟩⟩ := hE
  cases ha : Go.Lib.atoiAll s.data.toList with
  | ok v => exact absurd ha (h v)
  | «syntax» => exact (Tryd.strconv_Atoi_syntax_var s hs ha t1 p1 w h1).mono fun e w' ⟨N, e1, _, _, hb⟩ => ⟨_, _, _, e1, hb⟩
  | range => exact (Tryd.strconv_Atoi_range_var s hs ha t2 p2 w h2).mono fun e w' ⟨N, e1, _, _, hb⟩ => ⟨_, _, _, e1, hb⟩
theorem c_AtoiAny (s : ByteArray) (w : World) (hE : NEr w) (hs : s.size ≤ 281474976710656) :
    Calls Tryd.prog 39 #[.string s] w fun e w' => ∃ (v : Int) (ev : Value), e = .returned (.tuple #[.int .i64 v, ev]) ∧ Below w.heap.size w w' := by
  cases ha : Go.Lib.atoiAll s.data.toList with
  | ok v => exact (c_AtoiOk s w hs ha).mono fun e w' ⟨h1, h2⟩ => ⟨_, _, h1, h2⟩
  | «syntax» => exact (c_AtoiErr s w hE hs (by intro v; rw [ha]; intro q; cases q)).mono fun e w' ⟨v, tp, p, h1, h2⟩ => ⟨_, _, h1, h2⟩
  | range => exact (c_AtoiErr s w hE hs (by intro v; rw [ha]; intro q; cases q)).mono fun e w' ⟨v, tp, p, h1, h2⟩ => ⟨_, _, h1, h2⟩
/-- A word that is no number written as it must be, or that no space ends. -/
inductive WdB (S : ByteArray) : Prop where
  | no (W R : ByteArray) (c : ∀ w, Calls Tryd.prog 16 #[.string S, .string ⟨#[32]⟩] w fun e w' => e = .returned (.tuple #[.string W, .string R, .bool false]) ∧ Below w.heap.size w w')
      (a : ∀ w, NEr w → Calls Tryd.prog 39 #[.string W] w fun e w' => ∃ (v : Int) (ev : Value), e = .returned (.tuple #[.int .i64 v, ev]) ∧ Below w.heap.size w w')
  | er (W R : ByteArray) (c : ∀ w, Calls Tryd.prog 16 #[.string S, .string ⟨#[32]⟩] w fun e w' => e = .returned (.tuple #[.string W, .string R, .bool true]) ∧ Below w.heap.size w w')
      (a : ∀ w, NEr w → Calls Tryd.prog 39 #[.string W] w fun e w' => ∃ (v : Int) (tp : TypeId) (p : Value), e = .returned (.tuple #[.int .i64 v, .iface tp p]) ∧ Below w.heap.size w w')
  | ne (W R V : ByteArray) (k : Int) (c : ∀ w, Calls Tryd.prog 16 #[.string S, .string ⟨#[32]⟩] w fun e w' => e = .returned (.tuple #[.string W, .string R, .bool true]) ∧ Below w.heap.size w w')
      (a : ∀ w, Calls Tryd.prog 39 #[.string W] w fun e w' => e = .returned (.tuple #[.int .i64 k, .nilIface]) ∧ Below w.heap.size w w')
      (i : ∀ w, NTab w → Calls Tryd.prog 14 #[.int .i64 k] w fun e w' => e = .returned (.string V) ∧ Below w.heap.size w w') (h : V ≠ W)
theorem strB_inj {x y : List UInt8} (h : strB x = strB y) : x = y := by
  have := congrArg (fun b : ByteArray => b.data.toList) h
  simpa [strB_l] using this
theorem cut_len (l : List UInt8) : (Go.Lib.cut l [32]).1.length ≤ l.length ∧ (Go.Lib.cut l [32]).2.1.length ≤ l.length := by
  unfold Go.Lib.cut
  split
  · simp only [List.length_take, List.length_drop]; omega
  · simp
theorem strB_size (l : List UInt8) : (strB l).size = l.length := by unfold strB; show (List.toArray l).size = _; simp
/-- A word is bad, or good. -/
theorem wd_cases (l : List UInt8) (hl : l.length ≤ 140737488351232) : (noR l = none ∧ WdB (strB l)) ∨ ∃ k r, noR l = some (k, r) ∧ r.length ≤ l.length ∧ WdC (strB l) (strB (Go.Lib.itoa k)) (strB r) k := by
  obtain ⟨q1, q2⟩ := cut_len l
  have hc := fun w => c_CutA (strB l) w (by rw [strB_size]; omega)
  rw [strB_l] at hc
  have hz : (strB (Go.Lib.cut l [32]).1).size ≤ 281474976710656 := by rw [strB_size]; omega
  have aAny := fun w h => c_AtoiAny (strB (Go.Lib.cut l [32]).1) w h hz
  have aErr := fun w h => c_AtoiErr (strB (Go.Lib.cut l [32]).1) w h hz
  have aOk := fun w v => c_AtoiOk (strB (Go.Lib.cut l [32]).1) w hz (v := v)
  rw [strB_l] at aErr aOk
  unfold noR
  generalize (Go.Lib.cut l [32]).1 = W at *
  generalize (Go.Lib.cut l [32]).2.1 = R at *
  generalize (Go.Lib.cut l [32]).2.2 = b at *
  cases b with
  | false =>
    left
    refine ⟨?_, .no _ _ hc aAny⟩
    cases ha : Go.Lib.atoiAll W <;> simp
  | true =>
    cases ha : Go.Lib.atoiAll W with
    | «syntax» => exact .inl ⟨rfl, .er _ _ hc (fun w h => aErr w h (by intro v; rw [ha]; intro q; cases q))⟩
    | range => exact .inl ⟨rfl, .er _ _ hc (fun w h => aErr w h (by intro v; rw [ha]; intro q; cases q))⟩
    | ok v =>
      have vb := Go.Lib.atoiAll_bounds ha
      by_cases he : Go.Lib.itoa v = W
      · right
        refine ⟨v, R, by simp [he], q2, ⟨fun w _ => ?_, fun w => ?_, fun w hT => c_Itoa v w hT vb.1 vb.2⟩⟩
        · rw [he]; exact hc w
        · rw [he]; exact aOk w v ha
      · left
        exact ⟨by simp [he], .ne _ _ (strB (Go.Lib.itoa v)) v hc (fun w => aOk w v ha) (fun w hT => c_Itoa v w hT vb.1 vb.2) (fun q => he (strB_inj q))⟩
end Go.Proofs.YtapmdkinneehjaaDoor
