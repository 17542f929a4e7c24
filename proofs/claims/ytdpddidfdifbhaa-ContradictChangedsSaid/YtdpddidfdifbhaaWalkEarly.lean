/- The contract of chron.Early. -/
import Derived.Test.YtdpddidfdifbhaaWalkTig
import Derived.Test.YtdpddidfdifbhaaIxInt1
set_option linter.unusedVariables false
set_option linter.unusedSimpArgs false
namespace Go.Proofs.Ytdpddidfdifbhaa
open Go.RowKit
theorem ix_Row {a : Option Addr} {b off len cap k : Nat} (ha : a = some ⟨b, off, none⟩) (hk : k < len) : ∀ w, (Instr.indexAt 49 (.slice a len cap) (.int .i64 k)).run Try.prog w = .ok (.pointer (some ⟨b, off + k, none⟩)) w := by
  intro w
  subst ha
  have h1 : (k : Int) < (len : Int) := by omega
  go_simp
theorem ix_SpE {a : Option Addr} {b off len cap k : Nat} (ha : a = some ⟨b, off, none⟩) (hk : k < len) : ∀ w, (Instr.indexAt 22 (.slice a len cap) (.int .i64 k)).run Try.prog w = .ok (.pointer (some ⟨b, off + k * 2, none⟩)) w := by
  intro w
  subst ha
  have h1 : (k : Int) < (len : Int) := by omega
  go_simp
/-- The least days, as far as they are known. -/
def eDays (n : Nat) (D : Nat → Nat → Int) (ev : Nat) (d : Int) : List Int := (List.range n).map fun k => d - D k ev
theorem eDays_length (n : Nat) (D : Nat → Nat → Int) (ev : Nat) (d : Int) : (eDays n D ev d).length = n := by simp [eDays]
theorem eDays_get (n : Nat) (D : Nat → Nat → Int) (ev : Nat) (d : Int) (k : Nat) (h : k < (eDays n D ev d).length) : (eDays n D ev d)[k] = d - D k ev := by simp [eDays]
theorem eDays_snoc (n : Nat) (D : Nat → Nat → Int) (ev : Nat) (d : Int) (k : Nat) (h : k < n) : (eDays n D ev d).take (k + 1) = (eDays n D ev d).take k ++ [d - D k ev] := by
  rw [fe_take (eDays n D ev d) k (by rw [eDays_length]; exact h), eDays_get]
theorem info_intE : (Try.prog.info? 3).map (fun i => (i.zero, i.size, i.bytes)) = some (some (.int .i64 0), 1, 8) := by kernel_rfl
/-- Whatever Tightest has to complain of, Early hands on. -/
theorem c_early_bad (n ev d x : Int) (a : Option Addr) (len cap : Nat) (w : World) (hx : x ≠ 0)
    (HT : Hid (Calls Try.prog 28 #[.int .i64 n, .slice a len cap] w fun e w' => e = .returned (.tuple #[.slice none 0 0, .int .i64 x]) ∧ Below w.heap.size w w')) :
    Calls Try.prog 32 #[.int .i64 n, .slice a len cap, .int .i64 ev, .int .i64 d] w fun e w' => e = .returned (.tuple #[.slice none 0 0, .int .i64 x]) ∧ Below w.heap.size w w' := by
  have h1 : (x != 0) = true := by simp [hx]
  have hgen := sgen; have hgen2 := sgen2; have hgen3 := sgen3; go_enter Try.func32, Try.ntmps32
  go_wp2_with (go_at_call 28; (refine (HT.out).mono ?_); rintro e w1 ⟨rfl, hb⟩; have hz := hb.size; (try simp only [World.size_alloc, World.size_setCell, World.size_drew, World.heap_drewN] at hz); (try have h_w_0 : w.heap.size < w1.heap.size := by omega); (try have e_w_0 : ¬ w.heap.size = w1.heap.size := by omega); (try have d_w_0 : ¬ w1.heap.size = w.heap.size := by omega); (try (refine bcUse (n := w.heap.size) hb ?_ ?_; (focus ((try simp only [World.size_alloc, World.size_setCell, World.size_drew, World.heap_drewN]); omega)); intro _ _)))
  go_ret2
  refine ⟨rfl, ?_⟩
  (repeat' (first | (with_reducible exact Below.refl _ _) | (with_reducible assumption) | (with_reducible refine Below.call ?_ ?_ (by with_reducible assumption)) | (with_reducible refine Below.alloc ?_ ?_ _) | (with_reducible refine Below.drew ?_) | (with_reducible refine below_drewN ?_ _) | (with_reducible refine Below.setCell ?_ ?_ _) | (with_reducible exact Nat.le_refl _) | omega | (simp only [World.size_alloc, World.size_setCell, World.size_drew, World.heap_drewN] at *; omega)))
def TigOk (n : Nat) (a : Option Addr) (len cap : Nat) (D : Nat → Nat → Int) : Prop := ∀ w1, w1 = w1 → Calls Try.prog 28 #[.int .i64 n, .slice a len cap] w1 fun e w' => ∃ a' cap', e = .returned (.tuple #[.slice a' n cap', .int .i64 0]) ∧ n ≤ cap' ∧ SpMat w' a' (tgt n D) ∧ Below w1.heap.size w1 w'
theorem c_early_range (n : Nat) (ev d : Int) (a : Option Addr) (len cap : Nat) (D : Nat → Nat → Int) (w : World) (hr : ev < 0 ∨ (n : Int) ≤ ev ∨ d < -4000000 ∨ 4000000 < d)
    (HT : Hid (Calls Try.prog 28 #[.int .i64 n, .slice a len cap] w fun e w' => ∃ a' cap', e = .returned (.tuple #[.slice a' n cap', .int .i64 0]) ∧ n ≤ cap' ∧ SpMat w' a' (tgt n D) ∧ Below w.heap.size w w')) :
    Calls Try.prog 32 #[.int .i64 n, .slice a len cap, .int .i64 ev, .int .i64 d] w fun e w' => e = .returned (.tuple #[.slice none 0 0, .int .i64 3]) ∧ Below w.heap.size w w' := by
  have hr' : ev < 0 ∨ (0 ≤ ev ∧ (n : Int) ≤ ev) ∨ (0 ≤ ev ∧ ev < (n : Int) ∧ d < -4000000) ∨ (0 ≤ ev ∧ ev < (n : Int) ∧ -4000000 ≤ d ∧ 4000000 < d) := by omega
  rcases hr' with h | ⟨h, h2⟩ | ⟨h, h2, h3⟩ | ⟨h, h2, h3, h4⟩
  all_goals
    have hgen := sgen; have hgen2 := sgen2; have hgen3 := sgen3; go_enter Try.func32, Try.ntmps32
    go_wp2_with (go_at_call 28; (refine (HT.out).mono ?_); rintro e w1 ⟨a', cap', rfl, _, _, hb⟩; have hz := hb.size; (try simp only [World.size_alloc, World.size_setCell, World.size_drew, World.heap_drewN] at hz); (try have h_w_0 : w.heap.size < w1.heap.size := by omega); (try have e_w_0 : ¬ w.heap.size = w1.heap.size := by omega); (try have d_w_0 : ¬ w1.heap.size = w.heap.size := by omega); (try (refine bcUse (n := w.heap.size) hb ?_ ?_; (focus ((try simp only [World.size_alloc, World.size_setCell, World.size_drew, World.heap_drewN]); omega)); intro _ _)))
    go_ret2
    refine ⟨rfl, ?_⟩
    (repeat' (first | (with_reducible exact Below.refl _ _) | (with_reducible assumption) | (with_reducible refine Below.call ?_ ?_ (by with_reducible assumption)) | (with_reducible refine Below.alloc ?_ ?_ _) | (with_reducible refine Below.drew ?_) | (with_reducible refine below_drewN ?_ _) | (with_reducible refine Below.setCell ?_ ?_ _) | (with_reducible exact Nat.le_refl _) | omega | (simp only [World.size_alloc, World.size_setCell, World.size_drew, World.heap_drewN] at *; omega)))
set_option maxRecDepth 100000 in
set_option maxHeartbeats 2000000 in
theorem c_early_ok (n ev : Nat) (d : Int) (a : Option Addr) (len cap : Nat) (D : Nat → Nat → Int) (w : World) (hev : ev < n) (n12 : n ≤ 12) (d1 : -4000000 ≤ d) (d2 : d ≤ 4000000) (LOW : Hid (∀ i j, -40000000000 ≤ D i j)) (FARR : Hid (∀ i j, i < n → j < n → D i j ≤ 1000000000))
    (HT : Hid (Calls Try.prog 28 #[.int .i64 n, .slice a len cap] w fun e w' => ∃ a' cap', e = .returned (.tuple #[.slice a' n cap', .int .i64 0]) ∧ n ≤ cap' ∧ SpMat w' a' (tgt n D) ∧ Below w.heap.size w w')) :
    Calls Try.prog 32 #[.int .i64 n, .slice a len cap, .int .i64 ev, .int .i64 d] w fun e w' => Below w.heap.size w w' ∧
      (((∃ k, k < n ∧ D k ev = 1000000000) ∧ e = .returned (.tuple #[.slice none 0 0, .int .i64 6])) ∨ ((∀ k, k < n → D k ev ≠ 1000000000) ∧ ∃ a' cap', e = .returned (.tuple #[.slice a' n cap', .int .i64 0]) ∧ n ≤ cap' ∧ IntSlice w' a' (eDays n D ev d))) := by
  have hevz : (ev : Int) < (n : Int) := by omega
  have z1 : decide ((ev : Int) < 0) = false := by simp
  have z4 : decide (n ≤ ev) = false := by simp; omega
  have z2 : decide (d < -4000000) = false := by simp; omega
  have z3 : decide (4000000 < d) = false := by simp; omega
  obtain ⟨i0, hi0, hz0, hz1, hz2⟩ := info_parts info_intE
  have hgen := sgen; have hgen2 := sgen2; have hgen3 := sgen3; go_enter Try.func32, Try.ntmps32
  go_upto_region 7 with ((go_at_call 28; (refine (HT.out).mono ?_); rintro e w1 ⟨a', cap', rfl, hcap', hM, hb⟩; have hz := hb.size; (try simp only [World.size_alloc, World.size_setCell, World.size_drew, World.heap_drewN] at hz); (try have h_w_0 : w.heap.size < w1.heap.size := by omega); (try have e_w_0 : ¬ w.heap.size = w1.heap.size := by omega); (try have d_w_0 : ¬ w1.heap.size = w.heap.size := by omega); (try (refine bcUse (n := w.heap.size) hb ?_ ?_; (focus ((try simp only [World.size_alloc, World.size_setCell, World.size_drew, World.heap_drewN]); omega)); intro _ _))))
  have hbw1 : Below w.heap.size w w1 := by (repeat' (first | (with_reducible exact Below.refl _ _) | (with_reducible assumption) | (with_reducible refine Below.call ?_ ?_ (by with_reducible assumption)) | (with_reducible refine Below.alloc ?_ ?_ _) | (with_reducible refine Below.drew ?_) | (with_reducible refine below_drewN ?_ _) | (with_reducible refine Below.setCell ?_ ?_ _) | (with_reducible exact Nat.le_refl _) | omega | (simp only [World.size_alloc, World.size_setCell, World.size_drew, World.heap_drewN] at *; omega)))
  have hz1' := hbw1.size
  obtain ⟨b0, off0, ra, rc, ha', hbl, hc0, hle, hsp⟩ := hM ev (by simpa [tgt] using hev)
  have hrow : (tgt n D)[ev]'(by simpa [tgt] using hev) = rowT n D ev := by simp [tgt]
  rw [hrow, rowT_length] at hc0
  rw [hrow] at hsp
  rw [hrow, rowT_length] at hle
  have ixR := @ix_Row a' b0 off0 n cap' ev ha' hev
  clear hrow hM ha'
  have HSP := Lib.hid hsp
  clear hsp
  go_wp2_with fail
  go_loopg [12, 44] n (fun gk x12 j wr => ∃ k : Nat, k ≤ n ∧ gk = n - k ∧ j = .int .i64 k ∧ Below w1.heap.size w1 wr ∧ wr.ownsRow w1.heap.size 3 1 x12 k (((eDays n D ev d).take k).map (Value.int .i64)) ∧ ∀ q, q < k → D q ev ≠ 1000000000)
  case atStart => exact ⟨0, Nat.zero_le _, rfl, rfl, Below.refl _ _, World.ownsRow_nil _ _ _ _, fun q hq => by omega⟩
  case round =>
    obtain ⟨k, hkn, rfl, rfl, hbel, hown, hne⟩ := hrel
    have hsz := hbel.size
    have HNE := Lib.hid hne
    have HO := Lib.hid hown
    clear hne hown
    by_cases hk : k < n
    · have hkz : (k : Int) < (n : Int) := by omega
      obtain ⟨b, off, ha, hb1, c0, c1⟩ := (HSP.out.below (Nat.le_refl _) hbel) k (by rw [rowT_length]; exact hk)
      have ix1 := @ix_SpE ra b off n rc k ha hk
      rw [rowT_get] at c0 c1
      have l1 := LOW.out k ev
      have l2 := FARR.out k ev hk hev
      have hsn := eDays_snoc n D ev d k hk
      have HS := Lib.hid hsn
      clear ha hsn
      obtain ⟨dk, hdk⟩ : ∃ dk, D k ev = dk := ⟨_, rfl⟩
      have c0' : wr.cell? ⟨b, off + k * 2, none⟩ = some (.int .i64 (-dk)) := by rw [← hdk]; exact c0
      have c1' : ∃ u, wr.cell? ⟨b, off + k * 2 + 1, none⟩ = some (.int .i64 u) := ⟨_, c1⟩
      obtain ⟨u, c1'⟩ := c1'
      rw [hdk] at l1 l2 HS
      have HDK := Lib.hid hdk
      clear hdk c0 c1
      by_cases hf : dk = 1000000000
      · subst hf
        go_wp2_with fail
        go_ret2
        refine ⟨?_, .inl ⟨⟨k, hk, HDK.out⟩, rfl⟩⟩
        (repeat' (first | (with_reducible exact Below.refl _ _) | (with_reducible assumption) | (with_reducible refine Below.call ?_ ?_ (by with_reducible assumption)) | (with_reducible refine Below.alloc ?_ ?_ _) | (with_reducible refine Below.drew ?_) | (with_reducible refine below_drewN ?_ _) | (with_reducible refine Below.setCell ?_ ?_ _) | (with_reducible exact Nat.le_refl _) | omega | (simp only [World.size_alloc, World.size_setCell, World.size_drew, World.heap_drewN] at *; omega)))
      · have t1 : (-dk == -1000000000) = false := by simp; omega
        have HF := Lib.hid hf
        clear hf
        have hplus : d + -dk = d - dk := by omega
        go_wp2_with (at_builtin; refine wpList_append_own _ rfl (.tmp 51) (.tmp 56) 38 rfl w1.heap.size 3 i0 (.int .i64 0) 1 8 Try.underlying38 hi0 hz0 hz1 hz2 rfl (by decide) _ k _ rfl ((HO.out.alloc _).alloc _) ⟨wr.heap.size + 1, 0, none⟩ 1 1 [.int .i64 (d - dk)] rfl rfl ?_ ?_ ?_ ?_ ?_ ?_)
        any_goals first | (unfold maxLen; omega) | omega | (show Value.oneCell' _ = true; rfl) | (intro u hu; simp at hu; subst hu; rfl) | (simp; omega) | (intro j u hj; match j, hj with | 0, hj => simp at hj; subst hj; simp only [Addr.add]; go_simp)
        intro v' w3 hown' hgrow _
        have hb3 : Below w1.heap.size w1 w3 := by
          refine Below.grown ((hbel.alloc hsz _).alloc (by simp; omega) _) hgrow ?_ ?_
          · simp; omega
          · intro g hg
            exact (HO.out.lt g hg).1
        have HO3 : Hid (w3.ownsRow w1.heap.size 3 1 v' (k + 1) (((eDays n D ev d).take (k + 1)).map (Value.int .i64))) := Lib.hid (by
          rw [HS.out, List.map_append]
          first | exact hown' | (rw [List.map_take]; exact hown'))
        clear hgrow hown'
        go_wp2_with fail
        go_roundg (n - (k + 1))
        case measure => go_light; omega
        case rel =>
          go_light
          refine ⟨k + 1, by omega, rfl, by go_num, hb3, HO3.out, fun q hq => ?_⟩
          by_cases e : q = k
          · subst e; rw [HDK.out]; exact HF.out
          · exact HNE.out q (by omega)
    · obtain rfl : k = n := by omega
      have hbw : Below w.heap.size w wr := Below.trans hbw1 (hbel.mono hz1')
      go_wp2_with fail
      go_ret2
      have ho := HO.out
      rw [List.take_of_length_le (by rw [eDays_length]; exact Nat.le_refl _)] at ho
      refine ⟨hbw, .inr ⟨HNE.out, ?_⟩⟩
      rcases own_form ho with ⟨h1, h2⟩ | ⟨g, cap2, h1, h2, h3, h4, h5, h6, h7⟩
      · refine ⟨none, 0, ?_, by omega, ?_⟩
        · show Ending.returned (.tuple #[u12, .int .i64 0]) = _
          rw [h1, h2]
        · intro j hj; rw [eDays_length] at hj; omega
      · refine ⟨some ⟨g, 0, none⟩, cap2, ?_, h2, ?_⟩
        · show Ending.returned (.tuple #[u12, .int .i64 0]) = _
          rw [h1]
        · intro j hj
          refine ⟨g, 0, rfl, h5, ?_⟩
          have hj' : j < k := by rw [eDays_length] at hj; exact hj
          rw [Nat.zero_add, h6 j (by omega), List.getElem?_map, List.getElem?_eq_getElem hj]
          rfl
end Go.Proofs.Ytdpddidfdifbhaa
