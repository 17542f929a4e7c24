/- Contracts of zone.One, slices.Index and slices.Contains at a list of instants. -/
import Derived.Test.YtapmdkinneehjaaDoorWalkZi
set_option linter.unusedVariables false
set_option linter.unusedSimpArgs false
namespace Go.Proofs.YtapmdkinneehjaaDoor
open Go.RowKit
set_option maxRecDepth 100000 in
set_option maxHeartbeats 2000000 in
theorem c_zOne (nm : ByteArray) (f : Int) (a : Option Addr) (cap : Nat) (l : List Zc) (d m t : Int) (w : World) (hsz : nm.size ≤ 9223372036854775807) (hc : l.length ≤ cap) (hs : ZcSlice w a l) (hwf : zWf l) (h : zE nm f l = 0) (hd : dayZ d = true) (m0 : 0 ≤ m) (m1 : m < 86400000) (hm : t ∈ zI f l (d * 86400000 + m) (l.length + 1)) :
    Calls Tryd.prog 9 #[.agg #[.string nm, .int .i64 f, .slice a l.length cap], .int .i64 d, .int .i64 m] w fun e w' => e = .returned (if (zI f l (d * 86400000 + m) (l.length + 1)).length = 1 then .tuple #[.int .i64 t, .int .i64 0] else .tuple #[.int .i64 0, .int .i64 16]) ∧ Below w.heap.size w w' := by
  have HI := Lib.hid (fun w1 h1 => c_zInst nm f a cap l d m w1 hsz hc h1 hwf h hd m0 m1)
  have HS := Lib.hid hs
  have hle := zI_len f l (d * 86400000 + m) (l.length + 1)
  obtain ⟨k1, k2, k3, k4, k5⟩ := zE_ok h
  clear hs hwf h hd k1 k2 k4 k5
  generalize zI f l (d * 86400000 + m) (l.length + 1) = L at *
  have hpos : 0 < L.length := by cases L with
    | nil => simp at hm
    | cons x L => simp
  have n0 : ((L.length : Int) == 0) = false := beq_eq_false_iff_ne.2 (by omega)
  by_cases h1 : L.length = 1
  · rw [if_pos h1]
    have hL := one_mem hm h1
    subst hL
    clear hm hle hpos n0 h1
    simp only [List.length_cons, List.length_nil, Nat.zero_add] at HI
    have hgen := sgen; have hgen2 := sgen2; have hgen3 := sgen3; go_enter Tryd.func9, Tryd.ntmps9
    go_upto_region 8 with (go_at_call 7; (with_reducible refine (HI.out _ (HS.out.below (Nat.le_refl _) (by exact belz))).mono ?_); rintro e w1 ⟨va, vc, rfl, hown, hb⟩; have hz := hb.size; (try simp only [szA, szS, szD, szN] at hz); (try (refine bcB (n := w.heap.size) hb ?_; intro h_w_0 e_w_0 d_w_0 _ _)); (try (refine bcB (n := w.heap.size + 1) hb ?_; intro h_w_1 e_w_1 d_w_1 _ _)))
    obtain ⟨g, cp, e9, -, -, -, g4, g5, -⟩ : ∃ g cap, Value.slice va 1 vc = .slice (some ⟨g, 0, none⟩) 1 cap ∧ 1 ≤ cap ∧ cap ≤ maxLen ∧ w.heap.size + 1 ≤ g ∧ g < w1.heap.size ∧ w1.cell? ⟨g, 0, none⟩ = some (.int .i64 t) ∧ True := by
      rcases own_form hown with ⟨e, e0⟩ | ⟨g, cap, e, a1, a2, a3, a4, a5, _⟩
      · exact absurd e0 (by decide)
      · exact ⟨g, cap, e, a1, a2, by simpa using Nat.le_trans (by simp) a3, a4, a5 0 (by decide), trivial⟩
    injection e9 with e91 _ e92
    subst e91 e92
    clear hown
    go_wp2_with fail
    refine bodyPost_ret (v := .tuple #[.int .i64 t, .int .i64 0]) (by simp only [results, Tryd.results9]; go_simp) rfl ⟨rfl, ?_⟩
    exact belz
  · rw [if_neg h1]
    have n1 : decide ((1 : Int) < (L.length : Int)) = true := decide_eq_true (by omega)
    have n2 : decide (1 < L.length) = true := decide_eq_true (by omega)
    have n3 : (1 : Int) < (L.length : Int) := by omega
    have n4 : 1 < L.length := by omega
    clear hm h1
    have hgen := sgen; have hgen2 := sgen2; have hgen3 := sgen3; go_enter Tryd.func9, Tryd.ntmps9
    go_wp2_with (go_at_call 7; (with_reducible refine (HI.out _ (HS.out.below (Nat.le_refl _) (by exact belz))).mono ?_); rintro e w1 ⟨va, vc, rfl, hown, hb⟩; have hz := hb.size; (try simp only [szA, szS, szD, szN] at hz); (try (refine bcB (n := w.heap.size) hb ?_; intro h_w_0 e_w_0 d_w_0 _ _)); (try (refine bcB (n := w.heap.size + 1) hb ?_; intro h_w_1 e_w_1 d_w_1 _ _)))
    refine bodyPost_ret (v := .tuple #[.int .i64 0, .int .i64 16]) (by simp only [results, Tryd.results9]; go_simp) rfl ⟨rfl, ?_⟩
    exact belz
set_option maxRecDepth 100000 in
theorem c_IndexI (a : Option Addr) (c : Nat) (L : List Int) (t : Int) (w : World) (hs : IntSlice w a L) (h : t ∈ L) (hl : L.length ≤ 1000) :
    Calls Tryd.prog 23 #[.slice a L.length c, .int .i64 t] w fun e w' => (∃ k : Nat, e = .returned (.int .i64 k)) ∧ Below w.heap.size w w' := by
  have HS := Lib.hid hs
  have HM := Lib.hid h
  clear hs h
  have hgen := sgen; have hgen2 := sgen2; have hgen3 := sgen3; go_enter Tryd.func23, Tryd.ntmps23
  go_wp2
  go_loopg [8] L.length (fun gk x8 wr => ∃ k : Nat, gk + k = L.length ∧ x8 = .int .i64 k ∧ t ∉ L.take k ∧ Below w.heap.size w wr)
  case atStart => exact ⟨0, by omega, rfl, by simp, by exact belz⟩
  case round =>
    obtain ⟨k, hk, rfl, hn, hbel⟩ := hrel
    have hszr := hbel.size
    by_cases hlt : k < L.length
    · obtain ⟨bb, off, ha, hbb, c0⟩ := (HS.out.below (Nat.le_refl _) hbel) k hlt
      have ix := @ix_Int a bb off L.length c k ha hlt
      have htk := List.take_succ_eq_append_getElem hlt
      clear ha
      generalize L[k] = x at *
      have HTK := Lib.hid htk
      have HN := Lib.hid hn
      clear htk hn
      by_cases hq : t = x
      · subst hq
        go_wp2_with fail
        go_ret
        exact ⟨⟨k, rfl⟩, by exact belz⟩
      · have g : (t == x) = false := beq_eq_false_iff_ne.2 hq
        have HQ := Lib.hid hq
        clear hq
        go_wp2_with fail
        go_roundg (L.length - (k + 1))
        case measure => omega
        case rel => exact ⟨k + 1, by omega, by go_num, by rw [HTK.out]; simp only [List.mem_append, List.mem_singleton, not_or]; exact ⟨HN.out, HQ.out⟩, by exact belz⟩
    · obtain rfl : k = L.length := by omega
      rw [List.take_of_length_le (Nat.le_refl _)] at hn
      exact absurd HM.out hn
theorem c_ContI (a : Option Addr) (c : Nat) (L : List Int) (t : Int) (w : World) (hs : IntSlice w a L) (h : t ∈ L) (hl : L.length ≤ 1000) :
    Calls Tryd.prog 8 #[.slice a L.length c, .int .i64 t] w fun e w' => e = .returned (.bool true) ∧ Below w.heap.size w w' := by
  have HI := Lib.hid (c_IndexI a c L t w hs h hl)
  clear hs h
  have hgen := sgen; have hgen2 := sgen2; have hgen3 := sgen3; go_enter Tryd.func8, Tryd.ntmps8
  go_wp2_with (go_at_call 23; (refine HI.out.mono ?_); rintro e w1 ⟨⟨k, rfl⟩, hb⟩; have hz := hb.size; have g : decide ((0 : Int) ≤ (k : Int)) = true := decide_eq_true (by omega))
  go_ret
  exact ⟨by simp, by exact belz⟩
end Go.Proofs.YtapmdkinneehjaaDoor
