/- The contract of slices.ContainsFunc at the keys of spread.New. The contract of spread.New: the errors that come before the net is made. A region that draws its order and ends in a forced row: while its head is under way a condition on the world is kept, and a weaker one to the end. A net in the making: the rows of notices, one by one. The contract of spread.New: the net that it makes before the edges are read. -/
import Derived.Test.YtbcehnhiedbbbaaDoorFgI
import Derived.Test.YtbcehnhiedbbbaaDoorWalkBase
import Derived.BigQuiet
import Derived.Deep.LoopGhost
import Derived.Test.YtbcehnhiedbbbaaDoorSpA
import Derived.StillTail
import Derived.Deep.RegionHeld
import Derived.Lib.Hide
import Derived.Test.YtbcehnhiedbbbaaDoorSpC
import Derived.Test.YtbcehnhiedbbbaaDoorShelf
import Derived.Deep.OwnRows
import Derived.Deep.RegionWith
import Derived.Deep.DeepCutAuto
set_option linter.unusedVariables false
set_option linter.unusedSimpArgs false
namespace Go.Proofs.YtbcehnhiedbbbaaDoor
section
open Go.RowKit
def badK (x : Int) : Bool := decide (x < 1) || decide (1000000000 < x)
theorem c_badK (x : Int) (w : World) : Calls Tryd.prog 45 #[.int .i64 x] w fun e w' => e = .returned (.bool (badK x)) ∧ w = w' := by
  unfold badK
  by_cases h1 : x < 1
  · have d := decide_eq_true h1
    rw [d, Bool.true_or]
    have hgen := sgen; have hgen2 := sgen2; have hgen3 := sgen3; go_enter Tryd.func45, Tryd.ntmps45
    go_wp2
    go_ret
    exact ⟨rfl, rfl⟩
  · have d := decide_eq_false h1
    rw [d, Bool.false_or]
    have hgen := sgen; have hgen2 := sgen2; have hgen3 := sgen3; go_enter Tryd.func45, Tryd.ntmps45
    go_wp2
    go_ret
    exact ⟨rfl, rfl⟩
theorem anyF (K : List Int) (h : ∀ j (h : j < K.length), badK K[j] = false) : K.any badK = false := by
  cases hz : K.any badK with
  | false => rfl
  | true =>
    obtain ⟨x, hx, hb⟩ := List.any_eq_true.1 hz
    obtain ⟨j, hj, rfl⟩ := List.getElem_of_mem hx
    rw [h j hj] at hb
    cases hb
theorem anyT (K : List Int) (j : Nat) (h : j < K.length) (hb : badK K[j] = true) : K.any badK = true := List.any_eq_true.2 ⟨_, List.getElem_mem h, hb⟩
theorem c_IndexK (a : Option Addr) (c : Nat) (K : List Int) (w : World) (hs : IntSlice w a K) (h8 : K.length ≤ 8) :
    Calls Tryd.prog 70 #[.slice a K.length c, .func (.func 45) #[] #[]] w fun e w' => (∃ x, e = .returned (.int .i64 x) ∧ K.any badK = decide (0 ≤ x)) ∧ w = w' := by
  have HS := Lib.hid hs
  clear hs
  have hgen := sgen; have hgen2 := sgen2; have hgen3 := sgen3; go_enter Tryd.func70, Tryd.ntmps70
  go_wp2_with fail
  go_loopg [8] K.length (fun gk i wr => ∃ k : Nat, gk + k = K.length ∧ i = .int .i64 k ∧ (∀ j (h : j < K.length), j < k → badK K[j] = false) ∧ w = wr)
  case atStart => exact ⟨0, by omega, rfl, fun j _ h => absurd h (Nat.not_lt_zero j), rfl⟩
  case round =>
    obtain ⟨k, hk, rfl, hpre, rfl⟩ := hrel
    have HP := Lib.hid hpre
    clear hpre
    by_cases hlt : k < K.length
    · obtain ⟨bb, off, ha, hb1, c0⟩ := HS.out k hlt
      have ix1 := @ix_Int a bb off K.length c k ha hlt
      clear ha
      have hk1 := fun w1 => c_badK K[k] w1
      cases hb : badK K[k] with
      | true =>
        rw [hb] at hk1
        have HK := Lib.hid hk1
        have HT := Lib.hid (anyT K k hlt hb)
        clear hb hk1
        generalize K[k] = x at *
        go_wp2_with (go_at_call 45; (refine (HK.out _).mono ?_); rintro e w' ⟨rfl, rfl⟩)
        go_ret
        exact ⟨⟨_, rfl, by rw [HT.out]; exact (decide_eq_true (by omega)).symm⟩, rfl⟩
      | false =>
        rw [hb] at hk1
        have HK := Lib.hid hk1
        have HB := Lib.hid hb
        clear hb hk1
        generalize hx : K[k] = x at *
        have HX := Lib.hid hx
        clear hx
        go_wp2_with (go_at_call 45; (refine (HK.out _).mono ?_); rintro e w' ⟨rfl, rfl⟩)
        go_roundg (K.length - (k + 1))
        case measure => omega
        case rel =>
          refine ⟨k + 1, by omega, by go_num, fun j h1 h2 => ?_, rfl⟩
          by_cases hj : j < k
          · exact HP.out j h1 hj
          · obtain rfl : j = k := by omega
            rw [HX.out]; exact HB.out
    · obtain rfl : k = K.length := by omega
      go_wp2_with fail
      go_ret
      exact ⟨⟨_, rfl, anyF K (fun j h => HP.out j h h)⟩, rfl⟩
theorem c_ContainsK (a : Option Addr) (c : Nat) (K : List Int) (w : World) (hs : IntSlice w a K) (h8 : K.length ≤ 8) :
    Calls Tryd.prog 44 #[.slice a K.length c, .func (.func 45) #[] #[]] w fun e w' => e = .returned (.bool (K.any badK)) ∧ w = w' := by
  have HS := Lib.hid hs
  clear hs
  have hgen := sgen; have hgen2 := sgen2; have hgen3 := sgen3; go_enter Tryd.func44, Tryd.ntmps44
  go_wp2_with (go_at_call 70; (refine (c_IndexK a c K _ (HS.out.below (Nat.le_refl _) (by exact belz)) h8).mono ?_); rintro e w' ⟨⟨x, rfl, hx⟩, rfl⟩; have HX := Lib.hid hx; clear hx)
  go_ret
  exact ⟨by rw [HX.out]; rfl, rfl⟩
end
section
open Go.RowKit
theorem c_New_large (ka ea : Option Addr) (kc ec : Nat) (K : List Int) (E : List Ed) (nd : Int) (w : World) (h : 8 < K.length ∨ 12 < nd ∨ 40 < E.length) :
    Calls Tryd.prog 21 #[.slice ka K.length kc, .int .i64 nd, .slice ea E.length ec] w fun e w' => e = .returned (.tuple #[.pointer none, .int .i64 2]) ∧ Below w.heap.size w w' := by
  by_cases h1 : 8 < K.length
  · have d1 := decide_eq_true (show (8 : Int) < (K.length : Int) by omega)
    have hgen := sgen; have hgen2 := sgen2; have hgen3 := sgen3; go_enter Tryd.func21, Tryd.ntmps21
    go_wp2
    go_ret2
    exact ⟨rfl, Below.refl _ _⟩
  · have d1 := decide_eq_false (show ¬ (8 : Int) < (K.length : Int) by omega)
    by_cases h2 : 12 < nd
    · have d2 := decide_eq_true h2
      have hgen := sgen; have hgen2 := sgen2; have hgen3 := sgen3; go_enter Tryd.func21, Tryd.ntmps21
      go_wp2
      go_ret2
      exact ⟨rfl, Below.refl _ _⟩
    · have d2 := decide_eq_false h2
      have d3 := decide_eq_true (show (40 : Int) < (E.length : Int) by omega)
      have hgen := sgen; have hgen2 := sgen2; have hgen3 := sgen3; go_enter Tryd.func21, Tryd.ntmps21
      go_wp2
      go_ret2
      exact ⟨rfl, Below.refl _ _⟩
theorem c_New_form (ka ea : Option Addr) (kc ec : Nat) (K : List Int) (E : List Ed) (nd : Int) (w : World) (h8 : K.length ≤ 8) (h12 : nd ≤ 12) (h40 : E.length ≤ 40) (hn : nd < 1) :
    Calls Tryd.prog 21 #[.slice ka K.length kc, .int .i64 nd, .slice ea E.length ec] w fun e w' => e = .returned (.tuple #[.pointer none, .int .i64 8]) ∧ Below w.heap.size w w' := by
  have d1 := decide_eq_false (show ¬ (8 : Int) < (K.length : Int) by omega)
  have d2 := decide_eq_false (show ¬ 12 < nd by omega)
  have d3 := decide_eq_false (show ¬ (40 : Int) < (E.length : Int) by omega)
  have d4 := decide_eq_true hn
  have hgen := sgen; have hgen2 := sgen2; have hgen3 := sgen3; go_enter Tryd.func21, Tryd.ntmps21
  go_wp2
  go_ret2
  exact ⟨rfl, Below.refl _ _⟩
theorem c_New_arg (ka ea : Option Addr) (kc ec : Nat) (K : List Int) (E : List Ed) (nd : Int) (w : World) (hs : IntSlice w ka K) (h8 : K.length ≤ 8) (h12 : nd ≤ 12) (h40 : E.length ≤ 40) (hn : 1 ≤ nd) (hk : K.any badK = true) :
    Calls Tryd.prog 21 #[.slice ka K.length kc, .int .i64 nd, .slice ea E.length ec] w fun e w' => e = .returned (.tuple #[.pointer none, .int .i64 1]) ∧ Below w.heap.size w w' := by
  have d1 := decide_eq_false (show ¬ (8 : Int) < (K.length : Int) by omega)
  have d2 := decide_eq_false (show ¬ 12 < nd by omega)
  have d3 := decide_eq_false (show ¬ (40 : Int) < (E.length : Int) by omega)
  have d4 := decide_eq_false (show ¬ nd < 1 by omega)
  have HS := Lib.hid hs
  clear hs
  have hgen := sgen; have hgen2 := sgen2; have hgen3 := sgen3; go_enter Tryd.func21, Tryd.ntmps21
  go_wp2_with (go_at_call 44; (refine (c_ContainsK ka kc K _ HS.out h8).mono ?_); rintro e w' ⟨rfl, rfl⟩)
  go_ret2
  exact ⟨rfl, Below.refl _ _⟩
end
section
section
variable {P : Program} {ops : Array Oper} {Q : Exit → Act → World → Prop} {md : Region.Mode} {S S0 : World → Prop} {n g : Nat} {L0 : Array Bool}
/-- Every operation of the head that is not listed at the start is waited for by a later one up to n; the tail is a chain. -/
def hdB (md : Region.Mode) (ops : Array Oper) (n : Nat) (L0 : Array Bool) : Bool :=
  Region.noSelect ops && decide (n < ops.size) && Region.chainB md ops n && ((List.range n).all fun i => L0.getD i false || (List.range (n + 1)).any fun j => decide (i < j) && Region.waitsFor md ops j i)
/-- A listing that is closed under what its operations wait for, and holds none of the tail. -/
def closedB (md : Region.Mode) (ops : Array Oper) (n : Nat) (L : Array Bool) : Bool :=
  decide (L.size = ops.size) && ((List.range ops.size).all fun j => !(L.getD j false) || (match ops[j]? with | some o => o.after.toList.all fun e => !(Region.binds md e) || L.getD e.on false | none => true)) && ((List.range ops.size).all fun t => decide (t < n) || !(L.getD t true))
structure HdInv (md : Region.Mode) (ops : Array Oper) (n : Nat) (L0 listed : Array Bool) : Prop where
  inv : HeadInv md ops n listed
  sub : ∀ i, L0.getD i false = true → listed.getD i false = true
theorem hdInv_start (h : closedB md ops n L0 = true) : HdInv md ops n L0 L0 := by
  simp only [closedB, Bool.and_eq_true, decide_eq_true_eq] at h
  obtain ⟨⟨h1, h2⟩, h3⟩ := h
  refine ⟨⟨h1, fun j oj hj hl e he hb => ?_, fun t ht hts => ?_⟩, fun i h => h⟩
  · have hjs : j < ops.size := (Array.getElem?_eq_some_iff.1 hj).1
    have h4 := List.all_eq_true.1 h2 j (List.mem_range.2 hjs)
    rw [hl, hj] at h4
    simp only [Bool.not_true, Bool.false_or] at h4
    have h5 := List.all_eq_true.1 h4 e (by simpa using he)
    rw [hb] at h5
    simpa using h5
  · have h4 := List.all_eq_true.1 h3 t (List.mem_range.2 hts)
    simp only [Bool.or_eq_true, decide_eq_true_eq] at h4
    rcases h4 with h4 | h4
    · omega
    · simpa using h4
theorem HdInv.set {i : Nat} {listed : Array Bool} (h : HdInv md ops n L0 listed) (hi : i ∈ Region.ready md ops listed) (hin : i < n) : HdInv md ops n L0 (listed.setIfInBounds i true) :=
  ⟨h.inv.set hi hin, fun k hk => getD_set_true (h.sub k hk)⟩
/-- While an operation of the head is left none of the tail may come up. -/
theorem hd_waits {listed : Array Bool} (hB : hdB md ops n L0 = true) (h : HdInv md ops n L0 listed) :
    ∀ (d i : Nat), n - i = d → i < n → listed.getD i true = false → ∀ t, n ≤ t → t ∉ Region.ready md ops listed := by
  simp only [hdB, Bool.and_eq_true, decide_eq_true_eq] at hB
  obtain ⟨⟨⟨_, hn⟩, hc⟩, hs⟩ := hB
  intro d
  induction d using Nat.strongRecOn with
  | _ d ih =>
    intro i hd hi hun t ht hr
    obtain ⟨_, ot, hot, hall⟩ := mem_ready.1 hr
    have htlt : t < ops.size := (Array.getElem?_eq_some_iff.1 hot).1
    by_cases htn : t = n
    · subst htn
      have h1 := List.all_eq_true.1 hs i (List.mem_range.2 hi)
      simp only [Bool.or_eq_true] at h1
      rcases h1 with h1 | h1
      · have h2 := h.sub i h1
        rw [getD_both hun] at h2
        cases h2
      · obtain ⟨j, hj, hj2⟩ := List.any_eq_true.1 h1
        simp only [Bool.and_eq_true, decide_eq_true_eq] at hj2
        obtain ⟨oj, hoj, e, he, hb, hon⟩ := Region.waitsFor_spec hj2.2
        have hjle : j ≤ t := by have := List.mem_range.1 hj; omega
        by_cases hjt : j = t
        · subst hjt
          have : oj = ot := Option.some.inj (hoj.symm.trans hot)
          subst this
          have h2 := hall e he hb
          rw [hon, getD_both hun] at h2
          cases h2
        · cases hl : listed.getD j false with
          | true =>
            have h2 := h.inv.closed j oj hoj hl e he hb
            rw [hon, getD_both hun] at h2
            cases h2
          | false =>
            have hjs : j < listed.size := by rw [h.inv.size]; omega
            exact ih (t - j) (by omega) j rfl (by omega) (getD_in hjs hl) t (Nat.le_refl _) hr
    · have h1 := List.all_eq_true.1 hc t (List.mem_range.2 htlt)
      simp only [Bool.or_eq_true, decide_eq_true_eq] at h1
      rcases h1 with h1 | h1
      · omega
      · obtain ⟨o', ho', e, he, hb, hon⟩ := Region.waitsFor_spec h1
        have : o' = ot := Option.some.inj (ho'.symm.trans hot)
        subst this
        have h2 := hall e he hb
        rw [hon, getD_both (h.inv.tail (t - 1) (by omega) (by omega))] at h2
        cases h2
/-- The head: every operation below n, in whatever order; S holds behind each; then the tail. -/
def wpHd (P : Program) (md : Region.Mode) (ops : Array Oper) (Q : Exit → Act → World → Prop) (S0 S : World → Prop) (n g : Nat) (L0 : Array Bool) : Nat → Array Bool → Act → World → Prop
  | 0, listed, a, w => HdInv md ops n L0 listed → (∀ j ∈ Region.ready md ops listed, n ≤ j) ∧ wpAnyH P md ops Q S0 g listed a w
  | f + 1, listed, a, w => HdInv md ops n L0 listed → Region.ready md ops listed ≠ [] ∧ ∀ i ∈ Region.ready md ops listed, i < n ∧ wpOp P ops Q i (fun a' w' => S w' ∧ wpHd P md ops Q S0 S n g L0 f (listed.setIfInBounds i true) a' w') a w
theorem wpAnyH_of_hd (h0 : ∀ w, S w → S0 w) : ∀ (f : Nat) (listed : Array Bool) (a : Act) (w : World), HdInv md ops n L0 listed → wpHd P md ops Q S0 S n g L0 f listed a w → wpAnyH P md ops Q S0 (f + g) listed a w
  | 0, _, _, _, inv, h => by rw [Nat.zero_add]; exact (h inv).2
  | f + 1, listed, a, w, inv, h => by
    have h2 := h inv
    rw [show f + 1 + g = (f + g) + 1 by omega]
    exact ⟨fun h3 => absurd h3 h2.1, fun i hi => wpOp_mono (fun a' w' h' => ⟨h0 w' h'.1, wpAnyH_of_hd h0 f _ a' w' (inv.set hi (h2.2 i hi).1) h'.2⟩) (h2.2 i hi).2⟩
theorem wpHd_first {i : Nat} {oi : Oper} {v : Value} (hi : ops[i]? = some oi) (hsel : ∀ (j : Nat) (o : Oper) cs b, ops[j]? = some o → o.op ≠ .select cs b)
    (hQ : ∀ c a w, Q (.panic c) (a.put oi.dst v) w → Q (.panic c) a w) (hB : hdB md ops n L0 = true) (hin : i < n) :
    ∀ (f : Nat) (listed : Array Bool) (a : Act) (w : World),
      (∀ j oj, ops[j]? = some oj → j ≠ i → listed.getD j true = false → (∀ e ∈ oj.after, Region.binds md e = true → e.on ≠ i) → oi.apart ops oj = true) →
      i ∈ Region.ready md ops listed → YieldsIf P ops S oi v a → S w →
      wpHd P md ops Q S0 S n g L0 f (listed.setIfInBounds i true) (a.put oi.dst v) w → wpHd P md ops Q S0 S n g L0 (f + 1) listed a w := by
  intro f
  induction f with
  | zero =>
    intro listed a w _ hr hy hS H inv
    have H2 := H (inv.set hr hin)
    refine ⟨fun h => (by rw [h] at hr; cases hr), fun j hj => ?_⟩
    by_cases hji : j = i
    · subst hji
      exact ⟨hin, hy.wpOp hi hS ⟨hS, H⟩⟩
    · have hun := (mem_ready.1 hr).1
      have hjn : j < n := by
        rcases Nat.lt_or_ge j n with h | h
        · exact h
        · exact absurd hj (hd_waits hB inv _ i rfl hin hun j h)
      have := H2.1 j (ready_mono hj hji)
      omega
  | succ f ih =>
    intro listed a w hfree hr hy hS H inv
    have hun := (mem_ready.1 hr).1
    have H2 := H (inv.set hr hin)
    refine ⟨fun h => (by rw [h] at hr; cases hr), fun j hj => ?_⟩
    have hjn : j < n := by
      rcases Nat.lt_or_ge j n with h | h
      · exact h
      · exact absurd hj (hd_waits hB inv _ i rfl hin hun j h)
    refine ⟨hjn, ?_⟩
    by_cases hji : j = i
    · subst hji; exact hy.wpOp hi hS ⟨hS, H⟩
    · have h1 := (H2.2 j (ready_mono hj hji)).2
      obtain ⟨hjun, oj, hoj, hall⟩ := mem_ready.1 hj
      have hnot : ∀ e ∈ oj.after, Region.binds md e = true → e.on ≠ i := fun e he hb heq => by
        have h3 := hall e he hb
        rw [heq, getD_both hun] at h3
        cases h3
      have h2 := wpOp_putIf hoj (hfree j oj hoj hji hjun hnot) (fun cs b => hsel i oi cs b hi) (fun cs b => hsel j oj cs b hoj) hQ hy h1
      have hfree' : ∀ k ok, ops[k]? = some ok → k ≠ i → (listed.setIfInBounds j true).getD k true = false →
          (∀ e ∈ ok.after, Region.binds md e = true → e.on ≠ i) → oi.apart ops ok = true := fun k ok hk hki hun2 hno => by
        refine hfree k ok hk hki ?_ hno
        by_cases hjk : j = k
        · subst hjk; exact hjun
        · rw [getD_set_ne true hjk] at hun2; exact hun2
      refine wpOp_mono (fun a' w' h3 => ⟨h3.2.1, ih (listed.setIfInBounds j true) a' w' hfree' (ready_mono hr (Ne.symm hji)) h3.1 h3.2.1 ?_⟩) h2
      rw [Array.setIfInBounds_comm _ _ hji]
      exact h3.2.2
/-- Number i of the head is taken first: it yields v wherever S holds. -/
theorem wpHd_take {i : Nat} {oi : Oper} {v : Value} {f : Nat} {listed : Array Bool} {a : Act} {w : World} (hi : ops[i]? = some oi)
    (hB : hdB md ops n L0 = true) (hin : i < n)
    (hf : Region.free md ops listed i = true) (hr : (Region.ready md ops listed).contains i = true)
    (hQ : ∀ c a w, Q (.panic c) (a.put oi.dst v) w → Q (.panic c) a w) (hy : YieldsIf P ops S oi v a) (hS : S w)
    (h : wpHd P md ops Q S0 S n g L0 f (listed.setIfInBounds i true) (a.put oi.dst v) w) : wpHd P md ops Q S0 S n g L0 (f + 1) listed a w := by
  have hs : Region.noSelect ops = true := by
    simp only [hdB, Bool.and_eq_true] at hB
    exact hB.1.1.1
  exact wpHd_first hi (Region.noSelect_spec hs) hQ hB hin f listed a w (Region.free_spec hi hf) (by simpa using hr) hy hS h
/-- What may come up. -/
def AllHd (P : Program) (md : Region.Mode) (ops : Array Oper) (Q : Exit → Act → World → Prop) (S0 S : World → Prop) (n g : Nat) (L0 : Array Bool) (f : Nat) (listed : Array Bool) (a : Act) (w : World) (rs : List Nat) : Prop :=
  ∀ i ∈ rs, wpOp P ops Q i (fun a' w' => S w' ∧ wpHd P md ops Q S0 S n g L0 f (listed.setIfInBounds i true) a' w') a w
theorem AllHd.nil {f : Nat} {listed : Array Bool} {a : Act} {w : World} : AllHd P md ops Q S0 S n g L0 f listed a w [] := fun _ h => by cases h
theorem AllHd.cons {f : Nat} {listed : Array Bool} {a : Act} {w : World} {i : Nat} {o : Oper} {rs : List Nat} (ho : ops[i]? = some o)
    (h : ∀ K' : Act → World → Prop, RowKit.Hid (∀ a w, S w → (S w → wpHd P md ops Q S0 S n g L0 f (listed.setIfInBounds i true) a w) → K' a w) → if Region.wanted o (yielded ops a.tmps) = true then Oper.wp P o a w K' Q else K' (a.put o.dst undef) w)
    (hs : AllHd P md ops Q S0 S n g L0 f listed a w rs) : AllHd P md ops Q S0 S n g L0 f listed a w (i :: rs) := fun j hj => by
  rcases List.mem_cons.1 hj with rfl | hj
  · exact wpOp_step ho (fun K' hK => h K' (Lib.hid (fun a w hS hW => hK a w ⟨hS, hW hS⟩)))
  · exact hs j hj
theorem wpHd_ready {rs : List Nat} {f : Nat} {listed : Array Bool} {a : Act} {w : World} (hr : Region.ready md ops listed = rs) (hne : rs ≠ []) (hlt : rs.all (fun i => decide (i < n)) = true)
    (h : AllHd P md ops Q S0 S n g L0 f listed a w rs) : wpHd P md ops Q S0 S n g L0 (f + 1) listed a w := fun _ =>
  ⟨fun h0 => hne (hr ▸ h0), fun i hi => ⟨by have := List.all_eq_true.1 hlt i (hr ▸ hi); simpa using this, h i (hr ▸ hi)⟩⟩
/-- The head is done. -/
theorem wpHd_tail {listed : Array Bool} {a : Act} {w : World} (hr : ((Region.ready md ops listed).all fun j => decide (n ≤ j)) = true)
    (h : wpAnyH P md ops Q S0 g listed a w) : wpHd P md ops Q S0 S n g L0 0 listed a w := fun _ => ⟨fun j hj => by simpa using List.all_eq_true.1 hr j hj, h⟩
/-- From here on: the head under S, then the tail. -/
theorem wpAnyH_head {f : Nat} {a : Act} {w : World} (n g : Nat) (S : World → Prop) (h0 : ∀ w, S w → S0 w) (hB : closedB md ops n L0 = true) (hS : S w)
    (h : S w → wpHd P md ops Q S0 S n g L0 f L0 a w) : wpAnyH P md ops Q S0 (f + g) L0 a w := wpAnyH_of_hd h0 f L0 a w (hdInv_start hB) (h hS)
end
end
section
open Go.RowKit
def zNt : Nt := ⟨0, 0, ⟨#[]⟩, 0⟩
def zCs : Array Value := #[.int .i64 0, .int .i64 0, .string ⟨#[]⟩, .int .i64 0]
theorem made_row (n : Nat) (h : n ≤ 8) : (madeCells zCs (n * 4)).toList = ntCells (List.replicate n zNt) := by
  rcases (show n = 0 ∨ n = 1 ∨ n = 2 ∨ n = 3 ∨ n = 4 ∨ n = 5 ∨ n = 6 ∨ n = 7 ∨ n = 8 by omega) with rfl | rfl | rfl | rfl | rfl | rfl | rfl | rfl | rfl <;> kernel_rfl
theorem made_NtRow (w : World) (B n : Nat) (hB : B ≤ w.heap.size) (h : n ≤ 8) : NtRow (w.alloc (.cells (madeCells zCs (n * 4)) 23)) B w.heap.size n (List.replicate n zNt) := by
  have := World.ownsRow_lit (e := 23) (size := 4) w (madeCells zCs (n * 4)) n hB (by unfold maxLen; omega) (size_madeCells _ _)
  rw [made_row n h] at this
  unfold NtRow
  rw [List.length_replicate]
  exact this
structure RwAt (w wr : World) (nb ob : Nat) (vk vh : Value) (K : List Int) (nd : Nat) (f : Nat → List Int) (xs : List Value) (i : Nat) (rb : List (Nat × Nat)) : Prop where
  net : NwAt wr w.heap.size nb ob vk vh K nd f xs
  held : wr.ownsRow w.heap.size 41 1 vh i (rbV K.length rb)
  rows : RowsAt wr w.heap.size K.length (List.replicate i (List.replicate K.length zNt)) rb
  below : Below w.heap.size w wr
  nbB : w.heap.size ≤ nb
section
variable {w wr w' : World} {nb ob : Nat} {vk vh : Value} {K : List Int} {nd : Nat} {f : Nat → List Int} {xs : List Value} {i : Nat} {rb : List (Nat × Nat)}
theorem RwAt.kept (h : RwAt w wr nb ob vk vh K nd f xs i rb) (hb : Below wr.heap.size wr w') : RwAt w w' nb ob vk vh K nd f xs i rb :=
  ⟨h.net.kept hb, own_below h.held hb, h.rows.below hb, h.below.trans (hb.mono h.below.size), h.nbB⟩
theorem RwAt.step (h : RwAt w wr nb ob vk vh K nd f xs i rb) {g : Nat} (hr : NtRow wr w.heap.size g K.length (List.replicate K.length zNt)) (hne : ∀ p ∈ rb, p.1 ≠ g) {v : Value}
    (ho : w'.ownsRow w.heap.size 41 1 v (i + 1) (rbV K.length rb ++ [.slice (some ⟨g, 0, none⟩) K.length K.length])) (hg : wr.grownBy w' vh.ownBlock) :
    RwAt w (w'.setCell ⟨nb, 2, none⟩ v) nb ob vk v K nd f xs (i + 1) (rb ++ [(g, K.length)]) := by
  obtain ⟨⟨c0, c1, c2, f2, ⟨cur, hc⟩, hk, hn, hrw, ak, ap⟩, hh, hrs, hbl, hnb⟩ := h
  have hb := type_apart hh hg hc (by decide)
  have hc' := hb.trans hc
  have k0 : w'.cell? ⟨nb, 0, none⟩ = some vk := (World.cell?_of_block (a := ⟨nb, 0, none⟩) hb).trans c0
  have k1 : w'.cell? ⟨nb, 1, none⟩ = some (.slice (some ⟨ob, 0, none⟩) nd nd) := (World.cell?_of_block (a := ⟨nb, 1, none⟩) hb).trans c1
  have k2 : w'.cell? ⟨nb, 2, none⟩ = some vh := (World.cell?_of_block (a := ⟨nb, 2, none⟩) hb).trans c2
  have kf : w'.frozen? ⟨nb, 2, none⟩ = false := (World.frozen?_of_block (a := ⟨nb, 2, none⟩) hb).trans f2
  have hnlt : nb < w'.heap.size := (Array.getElem?_eq_some_iff.1 hc').1
  have st : ∀ {e : TypeId} {sz n : Nat} {u : Value} {ys : List Value}, w'.ownsRow w.heap.size e sz u n ys → e ≠ 97 → (w'.setCell ⟨nb, 2, none⟩ v).ownsRow w.heap.size e sz u n ys := fun hu he => own_set hu hc' he 2 v
  refine ⟨⟨?_, ?_, ?_, ?_, setCell_type hc' 2 v, st (own_grown hk hh (by decide) hg) (by decide), st (own_grown hn hh (by decide) hg) (by decide), fun j hj => ?_, ak, ap⟩, st (by rw [rbV_snoc]; exact ho) (by decide), ?_, ?_, hnb⟩
  · go_simp
  · go_simp
  · go_simp
  · go_simp
  · obtain ⟨u, hu, hou⟩ := hrw j hj
    exact ⟨u, hu, st (own_grown hou hh (by decide) hg) (by decide)⟩
  · rw [List.replicate_succ']
    refine RowsAt.snoc ⟨hrs.len, fun k h1 h2 => ⟨(hrs.row k h1 h2).1, ?_⟩, hrs.apart⟩ (by simp) ?_ hne
    · exact st (own_grown (hrs.row k h1 h2).2 hh (by decide) hg) (by decide)
    · exact st (own_grown hr hh (by decide) hg) (by decide)
  · exact (hbl.grown hg hbl.size (fun k hk => (own_lt hh k hk).1)).setCell hnb v
/-- All rows are made: the net. -/
theorem RwAt.net_all (h : RwAt w wr nb ob vk vh K nd f xs nd rb) : NetAt wr w.heap.size nb vk (.slice (some ⟨ob, 0, none⟩) nd nd) vh K ((List.range nd).map f) (List.replicate nd (List.replicate K.length zNt)) rb := by
  obtain ⟨⟨c0, c1, c2, f2, ty, hk, hn, hrw, ak, ap⟩, hh, hrs, hbl, hnb⟩ := h
  refine ⟨c0, c1, c2, f2, ty, hk, ⟨xs, by simpa using hn, fun k hk => ?_⟩, hrs.len, by rw [List.length_replicate]; exact hh, fun k h1 h2 => ?_, hrs.apart⟩
  · have hkd : k < nd := by simpa using hk
    obtain ⟨v, hv, ho⟩ := hrw k hkd
    refine ⟨v, hv, ?_⟩
    simpa using ho
  · exact hrs.row k h1 h2
end
end
section
open Go.RowKit
theorem info_intN : (Tryd.prog.info? 3).map (fun i => (i.zero, i.size, i.bytes)) = some (some (.int .i64 0), 1, 8) := by kernel_rfl
theorem info_intsN : (Tryd.prog.info? 39).map (fun i => (i.zero, i.size, i.bytes)) = some (some (.slice none 0 0), 1, 24) := by kernel_rfl
/-- slices.Clone at numbers, whatever slice comes in. -/
theorem c_CloneK (a : Option Addr) (c : Nat) (K : List Int) (w : World) (hs : IntSlice w a K) (h8 : K.length ≤ 8) :
    Calls Tryd.prog 46 #[.slice a K.length c] w fun e w' => ∃ v, e = .returned v ∧ w'.ownsRow w.heap.size 3 1 v K.length (icells K) ∧ Below w.heap.size w w' := by
  cases a with
  | none =>
    have hK : K = [] := by
      cases K with
      | nil => rfl
      | cons x K => obtain ⟨b, off, e, _⟩ := hs 0 (by simp); cases e
    subst hK
    exact (Tryd.slices_Clone_int_nil 0 c w).mono fun e w' ⟨h1, h2⟩ => ⟨_, h1, by rw [h2]; exact World.ownsRow_nil _ _ _ _, by rw [h2]; exact Below.refl _ _⟩
  | some a =>
    cases K with
    | nil => exact (Tryd.slices_Clone_int_zero a c w).mono fun e w' ⟨v, h1, h2, _, h4⟩ => ⟨v, h1, h2, h4⟩
    | cons x K =>
      obtain ⟨b, off, e, _⟩ := hs 0 (by simp)
      injection e with e
      subst e
      refine (Tryd.slices_Clone_int b off (x :: K).length c (x :: K) w (Nat.le_refl _) (by omega) (fun j hj => ?_)).mono fun e w' ⟨v, h1, h2, _, h4⟩ => ⟨v, h1, ?_, h4⟩
      · obtain ⟨b2, off2, e2, _, hc⟩ := hs j hj
        injection e2 with e2
        injection e2 with e2 e3
        subst e2 e3
        rw [hc, List.getD_eq_getElem?_getD, List.getElem?_eq_getElem hj]
        rfl
      · rw [List.take_of_length_le (Nat.le_refl _)] at h2
        exact h2
theorem NwAt.made {w : World} {B nb ob nd : Nat} {vk : Value} {K : List Int} (hn : w.heap[nb]? = some (.cells #[vk, .slice (some ⟨ob, 0, none⟩) nd nd, .slice none 0 0] 97 (0, 0))) (ho : w.heap[ob]? = some (.cells (madeCells #[.slice none 0 0] nd) 39 (0, 0))) (hB : B ≤ ob) (hk : w.ownsRow B 3 1 vk K.length (icells K)) (hnd : nd ≤ 12) :
    NwAt w B nb ob vk (.slice none 0 0) K nd (fun _ => []) (List.replicate nd (.slice none 0 0)) := by
  have hl := toList_madeCells_one (.slice none 0 0) nd
  have hsz : (madeCells #[Value.slice none 0 0] nd).size = nd := by rw [← Array.length_toList, hl, List.length_replicate]
  refine ⟨?_, ?_, ?_, ?_, ⟨_, hn⟩, hk, ⟨by simp, .inr ⟨ob, nd, _, rfl, hB, ho, Nat.le_refl _, by unfold maxLen; omega, by rw [hsz, Nat.mul_one], ?_⟩⟩, fun i hi => ⟨.slice none 0 0, by simp [hi], World.ownsRow_nil _ _ _ _⟩, fun i v hv b hb => ?_, fun i j v u _ hv _ b hb => ?_⟩
  · rw [cell_of_row w nb 0 _ _ (0, 0) hn]; rfl
  · rw [cell_of_row w nb 1 _ _ (0, 0) hn]; rfl
  · rw [cell_of_row w nb 2 _ _ (0, 0) hn]; rfl
  · exact frozen_of_row w nb 2 _ _ hn
  · rw [hl, Nat.mul_one, List.take_of_length_le (by simp)]
  · rw [List.getElem?_replicate] at hv
    split at hv
    · injection hv with hv; subst hv; cases hb
    · cases hv
  · rw [List.getElem?_replicate] at hv
    split at hv
    · injection hv with hv; subst hv; cases hb
    · cases hv
end
end Go.Proofs.YtbcehnhiedbbbaaDoor
