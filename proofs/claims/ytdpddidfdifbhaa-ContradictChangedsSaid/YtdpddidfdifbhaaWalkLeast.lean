/- The contract of contradict.Least. -/
import Derived.Test.YtdpddidfdifbhaaWalkImp
import Derived.Test.YtdpddidfdifbhaaPlainLeast
set_option linter.unusedVariables false
set_option linter.unusedSimpArgs false
namespace Go.Proofs.Ytdpddidfdifbhaa
open Go.RowKit
theorem c_fails_wo (n : Nat) (a : Option Addr) (c k : Nat) (l : List Bd) (w : World) (hk : k < l.length) (he : chErr n l = 0) (hc : l.length ≤ c) (hs : BdSlice w a (wo l k)) :
    Calls Try.prog 54 #[.int .i64 n, .slice a (l.length - 1) c] w fun e w' => e = .returned (.bool (!(okB n (wo l k)))) ∧ Below w.heap.size w w' := by
  have h := c_fails n a c (wo l k) w (by rw [wo_length l k hk]; omega) (chErr_wo he hk) hs
  rw [wo_length l k hk] at h
  exact h
theorem BdOwn.grown {w w' : World} {g : Nat} {l : List Bd} {row : Option Nat} (h : BdOwn w g l) (hg : w.grownBy w' row) (hr : ∀ q, row = some q → ∃ cur, w.heap[q]? = some (.cells cur 3 (0, 0))) : BdOwn w' g l := by
  have hb : w'.heap[g]? = w.heap[g]? := hg.block g h.lt (fun e => by
    obtain ⟨c1, h1⟩ := hr g e.symm
    obtain ⟨c2, h2⟩ := h.ty
    rw [h1] at h2
    simp at h2)
  refine ⟨Nat.lt_of_lt_of_le h.lt hg.size, fun t ht => ?_, ?_, fun o => ?_⟩
  · rw [World.cell?_of_block (a := ⟨g, t, none⟩) hb]; exact h.cell t ht
  · obtain ⟨c2, h2⟩ := h.ty
    exact ⟨c2, hb.trans h2⟩
  · rw [World.frozen?_of_block (a := ⟨g, o, none⟩) hb]; exact h.fr o
theorem c_Least_bad (n : Int) (a : Option Addr) (cap : Nat) (l : List Bd) (w : World) (hc : l.length ≤ cap) (he : chErr n l ≠ 0) (hs : BdSlice w a l) :
    Calls Try.prog 34 #[.int .i64 n, .slice a l.length cap] w fun e w' => e = .returned (.tuple #[.slice none 0 0, .int .i64 (chErr n l)]) ∧ Below w.heap.size w w' := by
  have h1 : (chErr n l != 0) = true := by simp [he]
  have hgen := sgen; have hgen2 := sgen2; have hgen3 := sgen3; go_enter Try.func34, Try.ntmps34
  go_wp2_with (go_at_call 29; (refine (c_chCheck _ _ _ l _ hc hs).mono ?_); rintro e w1 ⟨rfl, hb⟩; have hz := hb.size; (try simp only [World.size_alloc, World.size_setCell, World.size_drew, World.heap_drewN] at hz); (try have h_w_0 : w.heap.size < w1.heap.size := by omega); (try have e_w_0 : ¬ w.heap.size = w1.heap.size := by omega); (try have d_w_0 : ¬ w1.heap.size = w.heap.size := by omega); (try (refine bcUse (n := w.heap.size) hb ?_ ?_; (focus ((try simp only [World.size_alloc, World.size_setCell, World.size_drew, World.heap_drewN]); omega)); intro _ _)))
  go_ret2
  refine ⟨rfl, ?_⟩
  (repeat' (first | (with_reducible exact Below.refl _ _) | (with_reducible assumption) | (with_reducible refine Below.call ?_ ?_ (by with_reducible assumption)) | (with_reducible refine Below.alloc ?_ ?_ _) | (with_reducible refine Below.drew ?_) | (with_reducible refine below_drewN ?_ _) | (with_reducible refine Below.setCell ?_ ?_ _) | (with_reducible exact Nat.le_refl _) | omega | (simp only [World.size_alloc, World.size_setCell, World.size_drew, World.heap_drewN] at *; omega)))
theorem c_Least_none (n : Nat) (a : Option Addr) (cap : Nat) (l : List Bd) (w : World) (hc : l.length ≤ cap) (he : chErr n l = 0) (hok : okB n l = true) (hs : BdSlice w a l) :
    Calls Try.prog 34 #[.int .i64 n, .slice a l.length cap] w fun e w' => e = .returned (.tuple #[.slice none 0 0, .int .i64 6]) ∧ Below w.heap.size w w' := by
  have hC := fun w1 hs1 => c_chCheck n a cap l w1 hc hs1
  rw [he] at hC
  have HC := Lib.hid hC
  have hF := fun w1 hs1 => c_fails n a cap l w1 hc he hs1
  rw [hok] at hF
  have HF := Lib.hid hF
  clear hC hF he hok
  have hgen := sgen; have hgen2 := sgen2; have hgen3 := sgen3; go_enter Try.func34, Try.ntmps34
  go_wp2_with (first | (go_at_call 29; (with_reducible refine (HC.out _ hs).mono ?_); rintro e w1 ⟨rfl, hb⟩; have hz := hb.size; (try simp only [World.size_alloc, World.size_setCell, World.size_drew, World.heap_drewN] at hz); (try have h_w_0 : w.heap.size < w1.heap.size := by omega); (try have e_w_0 : ¬ w.heap.size = w1.heap.size := by omega); (try have d_w_0 : ¬ w1.heap.size = w.heap.size := by omega); (try (refine bcUse (n := w.heap.size) hb ?_ ?_; (focus ((try simp only [World.size_alloc, World.size_setCell, World.size_drew, World.heap_drewN]); omega)); intro _ _))) | (go_at_call 54; (refine (HF.out _ (hs.below (Nat.le_refl _) (by (repeat' (first | (with_reducible exact Below.refl _ _) | (with_reducible assumption) | (with_reducible refine Below.call ?_ ?_ (by with_reducible assumption)) | (with_reducible refine Below.alloc ?_ ?_ _) | (with_reducible refine Below.drew ?_) | (with_reducible refine below_drewN ?_ _) | (with_reducible refine Below.setCell ?_ ?_ _) | (with_reducible exact Nat.le_refl _) | omega | (simp only [World.size_alloc, World.size_setCell, World.size_drew, World.heap_drewN] at *; omega)))))).mono ?_); rintro e w2 ⟨rfl, hb⟩; have hz := hb.size; (try simp only [World.size_alloc, World.size_setCell, World.size_drew, World.heap_drewN] at hz); (try have h_w_0 : w.heap.size < w2.heap.size := by omega); (try have e_w_0 : ¬ w.heap.size = w2.heap.size := by omega); (try have d_w_0 : ¬ w2.heap.size = w.heap.size := by omega); (try (refine bcUse (n := w.heap.size) hb ?_ ?_; (focus ((try simp only [World.size_alloc, World.size_setCell, World.size_drew, World.heap_drewN]); omega)); intro _ _)); (try have h_w1_0 : w1.heap.size < w2.heap.size := by omega); (try have e_w1_0 : ¬ w1.heap.size = w2.heap.size := by omega); (try have d_w1_0 : ¬ w2.heap.size = w1.heap.size := by omega); (try (refine bcUse (n := w1.heap.size) hb ?_ ?_; (focus ((try simp only [World.size_alloc, World.size_setCell, World.size_drew, World.heap_drewN]); omega)); intro _ _))))
  go_ret2
  refine ⟨rfl, ?_⟩
  (repeat' (first | (with_reducible exact Below.refl _ _) | (with_reducible assumption) | (with_reducible refine Below.call ?_ ?_ (by with_reducible assumption)) | (with_reducible refine Below.alloc ?_ ?_ _) | (with_reducible refine Below.drew ?_) | (with_reducible refine below_drewN ?_ _) | (with_reducible refine Below.setCell ?_ ?_ _) | (with_reducible exact Nat.le_refl _) | omega | (simp only [World.size_alloc, World.size_setCell, World.size_drew, World.heap_drewN] at *; omega)))
def natCells (O : List Nat) : List Value := O.map fun (k : Nat) => Value.int .i64 (k : Int)
/-- A slice that owns the numbers of a list. -/
def LeastIs (n : Nat) (l : List Bd) (w : World) (e : Ending) (w' : World) : Prop := ∃ v, e = .returned (.tuple #[v, .int .i64 0]) ∧ w'.ownsRow w.heap.size 3 1 v (kp n l l.length).length (natCells (kp n l l.length)) ∧ Below w.heap.size w w'
set_option maxRecDepth 100000 in
set_option maxHeartbeats 2000000 in
theorem c_Least_ok (n : Nat) (b off cap : Nat) (l : List Bd) (w : World) (hc : l.length ≤ cap) (he : chErr n l = 0) (hno : okB n l = false) (hs : BdSlice w (some ⟨b, off, none⟩) l) (hb : b < w.heap.size) :
    Calls Try.prog 34 #[.int .i64 n, .slice (some ⟨b, off, none⟩) l.length cap] w (LeastIs n l w) := by
  have hC := fun w1 hs1 => c_chCheck n (some ⟨b, off, none⟩) cap l w1 hc hs1
  rw [he] at hC
  have HC := Lib.hid hC
  have hF := fun w1 hs1 => c_fails n (some ⟨b, off, none⟩) cap l w1 hc he hs1
  rw [hno] at hF
  have HF := Lib.hid hF
  have h40 := (chErr_parts he).2.1
  obtain ⟨i0, hi0, hz0, hz1, hz2⟩ := info_parts info_intE
  have HE := Lib.hid he
  have h40z : (l.length : Int) ≤ 40 := by omega
  clear hC hF he hno
  have hgen := sgen; have hgen2 := sgen2; have hgen3 := sgen3; go_enter Try.func34, Try.ntmps34
  go_wp2_with (first | (go_at_call 29; (with_reducible refine (HC.out _ hs).mono ?_); rintro e w1 ⟨rfl, hb⟩; have hz := hb.size; (try simp only [World.size_alloc, World.size_setCell, World.size_drew, World.heap_drewN] at hz); (try have h_w_0 : w.heap.size < w1.heap.size := by omega); (try have e_w_0 : ¬ w.heap.size = w1.heap.size := by omega); (try have d_w_0 : ¬ w1.heap.size = w.heap.size := by omega); (try (refine bcUse (n := w.heap.size) hb ?_ ?_; (focus ((try simp only [World.size_alloc, World.size_setCell, World.size_drew, World.heap_drewN]); omega)); intro _ _))) | (go_at_call 54; (refine (HF.out _ (hs.below (Nat.le_refl _) (by (repeat' (first | (with_reducible exact Below.refl _ _) | (with_reducible assumption) | (with_reducible refine Below.call ?_ ?_ (by with_reducible assumption)) | (with_reducible refine Below.alloc ?_ ?_ _) | (with_reducible refine Below.drew ?_) | (with_reducible refine below_drewN ?_ _) | (with_reducible refine Below.setCell ?_ ?_ _) | (with_reducible exact Nat.le_refl _) | omega | (simp only [World.size_alloc, World.size_setCell, World.size_drew, World.heap_drewN] at *; omega)))))).mono ?_); rintro e w2 ⟨rfl, hb⟩; have hz := hb.size; (try simp only [World.size_alloc, World.size_setCell, World.size_drew, World.heap_drewN] at hz); (try have h_w_0 : w.heap.size < w2.heap.size := by omega); (try have e_w_0 : ¬ w.heap.size = w2.heap.size := by omega); (try have d_w_0 : ¬ w2.heap.size = w.heap.size := by omega); (try (refine bcUse (n := w.heap.size) hb ?_ ?_; (focus ((try simp only [World.size_alloc, World.size_setCell, World.size_drew, World.heap_drewN]); omega)); intro _ _)); (try have h_w1_0 : w1.heap.size < w2.heap.size := by omega); (try have e_w1_0 : ¬ w1.heap.size = w2.heap.size := by omega); (try have d_w1_0 : ¬ w2.heap.size = w1.heap.size := by omega); (try (refine bcUse (n := w1.heap.size) hb ?_ ?_; (focus ((try simp only [World.size_alloc, World.size_setCell, World.size_drew, World.heap_drewN]); omega)); intro _ _))))
  have hbw2 : Below w.heap.size w w2 := by (repeat' (first | (with_reducible exact Below.refl _ _) | (with_reducible assumption) | (with_reducible refine Below.call ?_ ?_ (by with_reducible assumption)) | (with_reducible refine Below.alloc ?_ ?_ _) | (with_reducible refine Below.drew ?_) | (with_reducible refine below_drewN ?_ _) | (with_reducible refine Below.setCell ?_ ?_ _) | (with_reducible exact Nat.le_refl _) | omega | (simp only [World.size_alloc, World.size_setCell, World.size_drew, World.heap_drewN] at *; omega)))
  have hzw2 := hbw2.size
  refine (c_Clone b off cap l _ (by omega) (hs.below (Nat.le_refl _) hbw2) (by omega)).mono ?_
  rintro e w3 ⟨g0, cap0, rfl, g1, g2, g3, g4, hb3⟩
  have hbw3 : Below w.heap.size w w3 := hbw2.trans (hb3.mono hzw2)
  have hzw3 := hb3.size
  have G4 := Lib.hid (show BdOwn w3 g0 (lf n l 0) by rw [lf_zero]; exact g4)
  clear g4
  go_wp2_with fail
  go_loopg [7, 8, 9, 26] l.length (fun gk x7 x8 x9 x26 wr => ∃ (i g c : Nat), gk + i = l.length ∧ x7 = .slice (some ⟨g, 0, none⟩) (lf n l i).length c ∧ (lf n l i).length ≤ c ∧ c ≤ maxLen ∧ BdOwn wr g (lf n l i) ∧ wr.ownsRow w.heap.size 3 1 x8 (kp n l i).length (natCells (kp n l i)) ∧ x9 = .int .i64 (kp n l i).length ∧ x26 = .int .i64 i ∧ Below w.heap.size w wr)
  case atStart => exact ⟨0, g0, cap0, by omega, by rw [lf_zero], by rw [lf_zero]; exact g2, g3, G4.out, World.ownsRow_nil _ _ _ _, rfl, rfl, hbw3⟩
  case round =>
    obtain ⟨i, g, c, hi, rfl, c1, c2, hown, hrow, rfl, rfl, hbel⟩ := hrel
    have hsz := hbel.size
    have HO := Lib.hid hrow
    clear hrow
    by_cases hlt : i < l.length
    · have hiz : (i : Int) < (l.length : Int) := by omega
      obtain ⟨L, hL⟩ : ∃ L, L = lf n l i := ⟨_, rfl⟩
      obtain ⟨m, hm⟩ : ∃ m, m = (kp n l i).length := ⟨_, rfl⟩
      have hlen := lf_length n l i (by omega)
      have hkl := (kp_lt n l i).2
      have hat := lf_at n l i hlt
      have heL : chErr n L = 0 := chErr_sub HE.out (by rw [hL]; omega) (by rw [hL]; exact lf_mem (by omega))
      have HY := Lib.hid (fun h => kp_yes (n := n) (l := l) hlt h)
      have HN := Lib.hid (fun h => kp_no (n := n) (l := l) hlt h)
      rw [← hL, ← hm] at hat
      rw [← hL] at hown c1
      have hl41 : L.length ≤ 41 := by rw [hL]; omega
      have hm40 : m ≤ 40 := by omega
      rw [← hL, ← hm]
      have HL := Lib.hid hL; have HM := Lib.hid hm
      have hg := hown.lt
      have HOW := Lib.hid hown
      have HW := Lib.hid (c_without g 0 c m L wr hat hl41 hown.slice hown.lt)
      have HFW := Lib.hid (fun w1 a c hc hs => c_fails_wo n a c m L w1 hat heL hc hs)
      have ew : IntKind.i64.wrap ((m : Int) + 1) = (m : Int) + 1 := IntWalk.i64_in _ (by omega)
      clear hL hm hown heL hlen
      go_wp2_with fail
      refine HW.out.mono ?_
      rintro e w4 ⟨g2, cap2, rfl, q1, q2, q3, q4, hb4⟩
      have hz4 := hb4.size
      have Q4 := Lib.hid q4
      clear q4
      go_wp2_with fail
      refine (HFW.out _ _ _ q2 Q4.out.slice).mono ?_
      rintro e w5 ⟨rfl, hb5⟩
      have hz5 := hb5.size
      have hb45 : Below wr.heap.size wr w5 := hb4.trans (hb5.mono hz4)
      have hbw5 : Below w.heap.size w w5 := hbel.trans (hb45.mono hsz)
      obtain ⟨r, hr⟩ : ∃ r, okB n (wo L m) = r := ⟨_, rfl⟩
      rw [hr]
      have HR := Lib.hid hr
      clear hr
      cases r
      · have N := HN.out (by rw [← HL.out, ← HM.out]; exact HR.out)
        have hle : (lf n l (i + 1)).length = L.length - 1 := by rw [N.2, ← HL.out, ← HM.out]; exact wo_length L m hat
        have hB : BdOwn w5 g2 (lf n l (i + 1)) := by rw [N.2, ← HL.out, ← HM.out]; exact Q4.out.below hb5
        have hO := HO.out
        have HN' := Lib.hid N
        have HLE := Lib.hid hle; have HB := Lib.hid hB
        clear N hle hB hO
        go_wp2_with fail
        go_roundg (l.length - (i + 1))
        case measure => go_light; omega
        case rel =>
          refine ⟨i + 1, g2, cap2, by omega, by rw [HLE.out], by rw [HLE.out]; omega, q3, HB.out, ?_, ?_, by go_num, hbw5⟩
          · rw [HN'.out.1]; exact own_below HO.out hb45
          · rw [HN'.out.1, ← HM.out]
      · have N := HY.out (by rw [← HL.out, ← HM.out]; exact HR.out)
        have HN' := Lib.hid N
        clear N
        have HO5 := Lib.hid (own_below HO.out hb45)
        go_wp2_with (at_builtin; refine wpList_append_own _ rfl (.tmp 36) (.tmp 38) 38 rfl w.heap.size 3 i0 (.int .i64 0) 1 8 Try.underlying38 hi0 hz0 hz1 hz2 rfl (by decide) _ (kp n l i).length _ rfl (HO5.out.alloc _) ⟨w5.heap.size, 0, none⟩ 1 1 [.int .i64 i] rfl rfl ?_ ?_ ?_ ?_ ?_ ?_)
        any_goals first | (unfold maxLen; omega) | omega | (show Value.oneCell' _ = true; rfl) | (intro u hu; simp at hu; subst hu; rfl) | (simp; omega) | (intro j u hj; match j, hj with | 0, hj => simp at hj; subst hj; simp only [Addr.add]; go_simp)
        intro v' w6 hown' hgrow _
        have hb6 : Below w.heap.size w w6 := by
          refine Below.grown (hbw5.alloc (by omega) _) hgrow (by simp; omega) ?_
          intro q hq
          exact (HO5.out.lt q hq).1
        have hB6 : Hid (BdOwn w6 g L) := Lib.hid (BdOwn.grown ((HOW.out.below hb45).below ((Below.refl w5.heap.size w5).alloc (Nat.le_refl _) _)) hgrow (fun q hq => own_block (HO5.out.alloc _) hq))
        have HO6 : Hid (w6.ownsRow w.heap.size 3 1 v' (kp n l (i + 1)).length (natCells (kp n l (i + 1)))) := Lib.hid (by
          rw [HN'.out.1, List.length_append]
          unfold natCells
          rw [List.map_append]
          exact hown')
        clear hgrow hown'
        go_wp2_with fail
        go_roundg (l.length - (i + 1))
        case measure => go_light; omega
        case rel =>
          refine ⟨i + 1, g, c, by omega, by rw [HN'.out.2, ← HL.out], by rw [HN'.out.2, ← HL.out]; exact c1, c2, by rw [HN'.out.2, ← HL.out]; exact hB6.out, HO6.out, ?_, by go_num, hb6⟩
          rw [HN'.out.1, List.length_append, HM.out]
          simp
    · obtain rfl : i = l.length := by omega
      clear hown
      go_wp2_with fail
      go_ret2
      exact ⟨_, rfl, HO.out, hbel⟩
end Go.Proofs.Ytdpddidfdifbhaa
