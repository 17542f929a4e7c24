/- Contracts of tide.find. -/
import Derived.Test.YtcgnhnmigmdalaaDoorTdA
import Derived.Test.YtcgnhnmigmdalaaDoorWalkOwn
import Derived.Test.YtcgnhnmigmdalaaDoorSpB
import Derived.Deep.LoopGhost
import Derived.Deep.AppendLies
import Derived.Laws.AppendOwnNone
import Derived.Deep.RegionHeld3
import Derived.Deep.DeepCutAuto
set_option linter.unusedVariables false
set_option linter.unusedSimpArgs false
namespace Go.Proofs.YtcgnhnmigmdalaaDoor
open Go.RowKit
def PH (a b c d : Int) : Bool := decide (d < a)
def PL (a b c d : Int) : Bool := decide (b < c)
theorem c_high1 (a b c d : Int) (w : World) : Calls Tryd.prog 58 #[.agg #[.int .i64 a, .int .i64 b], .agg #[.int .i64 c, .int .i64 d]] w fun e w' => e = .returned (.bool (PH a b c d)) ∧ Below w.heap.size w w' := by
  have hgen := sgen; have hgen2 := sgen2; have hgen3 := sgen3; go_enter Tryd.func58, Tryd.ntmps58
  go_wp2
  go_ret
  refine ⟨rfl, ?_⟩
  exact belz
/-- The heights, one after each hour. -/
def tdH (l : List Tm) (t : Int) (j : Nat) : Sp := ⟨tdLo l (t + 3600000 * j), tdHi l (t + 3600000 * j)⟩
def tdHs (l : List Tm) (t : Int) (n : Nat) : List Sp := (List.range n).map (tdH l t)
theorem tdHs_succ (l : List Tm) (t : Int) (n : Nat) : tdHs l t (n + 1) = tdHs l t n ++ [tdH l t n] := by unfold tdHs; rw [List.range_succ, List.map_append]; rfl
theorem tdHs_len (l : List Tm) (t : Int) (n : Nat) : (tdHs l t n).length = n := by unfold tdHs; simp
/-- Whether a height stands out from those before and after. -/
def tdT (P : Int → Int → Int → Int → Bool) (l : List Tm) (t : Int) (i : Nat) : Bool := P (tdH l t i).lo (tdH l t i).hi (tdH l t (i - 1)).lo (tdH l t (i - 1)).hi && P (tdH l t i).lo (tdH l t i).hi (tdH l t (i + 1)).lo (tdH l t (i + 1)).hi
/-- What stands out among the heights from number 1 on. -/
def tdO (P : Int → Int → Int → Int → Bool) (l : List Tm) (t : Int) : Nat → List Sp
  | 0 => []
  | i + 1 => if 1 ≤ i ∧ tdT P l t i = true then tdO P l t i ++ [⟨t + ((i : Int) - 1) * 3600000, t + ((i : Int) + 1) * 3600000⟩] else tdO P l t i
theorem tdO_len (P : Int → Int → Int → Int → Bool) (l : List Tm) (t : Int) : ∀ i, (tdO P l t i).length ≤ i
  | 0 => Nat.le_refl _
  | i + 1 => by
    have := tdO_len P l t i
    unfold tdO
    split
    · simp; omega
    · omega
theorem own_spT {w : World} {base : Nat} {v : Value} {l : List Sp} (h : w.ownsRow base 24 2 v l.length (spCells l)) : ∃ a cap, v = .slice a l.length cap ∧ l.length ≤ cap ∧ SpSlice w a l := by
  rcases own_form h with ⟨h1, h2⟩ | ⟨g, cap', h1, h2, h3, h4, h5, h6, h7⟩
  · exact ⟨none, 0, by rw [h1, h2], by omega, fun k hk => absurd hk (by omega)⟩
  · refine ⟨some ⟨g, 0, none⟩, cap', h1, h2, fun k hk => ?_⟩
    obtain ⟨e1, e2⟩ := spCells_get l k hk
    refine ⟨g, 0, rfl, h5, ?_, ?_⟩
    · rw [Nat.zero_add, h6 _ (by omega), e1]
    · rw [Nat.zero_add, h6 _ (by omega), e2]
/-- How many heights. -/
def tdN (t t' : Int) : Nat := ((t' - t) / 3600000 + 1).toNat
set_option maxRecDepth 100000 in
set_option maxHeartbeats 4000000 in
theorem c_findH (l : List Tm) (t t' : Int) (a : Option Addr) (cap : Nat) (w : World) (hT : Tab w) (hc : l.length ≤ cap) (hs : TmSlice w a l) (hv : tdE l = 0) (ht : instB t = true) (ht' : instB t' = true) (h1 : t ≤ t') (h2 : t' - t ≤ 1728000000) :
    Calls Tryd.prog 57 #[.slice a l.length cap, .int .i64 t, .int .i64 t', .func (.func 58) #[] #[]] w fun e w' => ∃ a' cap', e = .returned (.tuple #[.slice a' (tdO PH l t (tdN t t' - 1)).length cap', .int .i64 0]) ∧ (tdO PH l t (tdN t t' - 1)).length ≤ cap' ∧ SpSlice w' a' (tdO PH l t (tdN t t' - 1)) ∧ Below w.heap.size w w' := by
  obtain ⟨i1, i2⟩ := inst_bd ht
  obtain ⟨i3, i4⟩ := inst_bd ht'
  obtain ⟨i0, hi0, hz0, hz1, hz2⟩ := info_parts info_span
  have hk := fun w1 hs1 => c_tCheck a cap l w1 hc hs1
  rw [hv] at hk
  have hi := fun w1 => c_isInst t w1 (by omega) (by omega)
  rw [ht] at hi
  have hi' := fun w1 => c_isInst t' w1 (by omega) (by omega)
  rw [ht'] at hi'
  have HK := Lib.hid hk
  have HI := Lib.hid hi
  have HI' := Lib.hid hi'
  have HS := Lib.hid hs
  have HT := Lib.hid hT
  have HH := Lib.hid (fun w1 x (h : Tab w1) hs1 (x1 : t ≤ x) (x2 : x ≤ t') => c_tHeight0 l x a cap w1 h hc hs1 hv (by omega) (by omega))
  have HB := Lib.hid (fun x => td_bd hv x)
  have g1 : decide (t' < t) = false := decide_eq_false (by omega)
  have g2 : decide (1728000000 < t' - t) = false := decide_eq_false (by omega)
  obtain ⟨n, hn⟩ : ∃ n : Nat, n = tdN t t' := ⟨_, rfl⟩
  have hn2 : (n : Int) = (t' - t) / 3600000 + 1 := by rw [hn]; unfold tdN; omega
  rw [← hn]
  have HN2 := Lib.hid hn2
  have hn3 : n ≤ 481 := by omega
  have hn4 : 1 ≤ n := by omega
  clear hk hi hi' hs hT hv ht ht' hn hn2
  have hgen := sgen; have hgen2 := sgen2; have hgen3 := sgen3; go_enter Tryd.func57, Tryd.ntmps57
  go_wp2_with (first | (go_at_call 55; (refine (HK.out _ (HS.out.below (Nat.le_refl _) (by exact belz))).mono ?_); rintro e w1 ⟨rfl, hb⟩; have hz := hb.size; (try simp only [szA, szS, szD, szN] at hz); (try (refine bcB (n := w.heap.size) hb ?_; intro h_w_0 e_w_0 d_w_0 _ _))) | (go_at_call 42; (with_reducible refine (HI.out _).mono ?_); rintro e w2 ⟨rfl, hb⟩; have hz := hb.size; (try simp only [szA, szS, szD, szN] at hz); (try (refine bcB (n := w.heap.size) hb ?_; intro h_w_0 e_w_0 d_w_0 _ _)); (try (refine bcB (n := w1.heap.size) hb ?_; intro h_w1_0 e_w1_0 d_w1_0 _ _))) | (go_at_call 42; (with_reducible refine (HI'.out _).mono ?_); rintro e w3 ⟨rfl, hb⟩; have hz := hb.size; (try simp only [szA, szS, szD, szN] at hz); (try (refine bcB (n := w.heap.size) hb ?_; intro h_w_0 e_w_0 d_w_0 _ _)); (try (refine bcB (n := w1.heap.size) hb ?_; intro h_w1_0 e_w1_0 d_w1_0 _ _)); (try (refine bcB (n := w2.heap.size) hb ?_; intro h_w2_0 e_w2_0 d_w2_0 _ _))))
  go_loopg [11, 12] n (fun gk x11 x12 wr => ∃ k : Nat, gk + k = n ∧ x12 = .int .i64 (t + 3600000 * k) ∧ Below w.heap.size w wr ∧ wr.ownsRow w.heap.size 24 2 x11 k (spCells (tdHs l t k)))
  case atStart => exact ⟨0, by omega, by simp, by exact belz, World.ownsRow_nil _ _ _ _⟩
  case round =>
    obtain ⟨k, hk, rfl, hbel, hown⟩ := hrel
    have hsz := hbel.size
    have HO := Lib.hid hown
    have HBL := Lib.hid hbel
    by_cases hlt : k < n
    · have gk1 : decide (t + 3600000 * (k : Int) ≤ t') = true := decide_eq_true (by have := HN2.out; omega)
      have hsn := tdHs_succ l t k
      have eH : tdH l t k = ⟨tdLo l (t + 3600000 * k), tdHi l (t + 3600000 * k)⟩ := rfl
      rw [eH] at hsn
      have HSN := Lib.hid hsn
      obtain ⟨b1, b2, b3, b4⟩ := HB.out (t + 3600000 * (k : Int))
      have HC := Lib.hid (fun w1 h hs1 => HH.out w1 (t + 3600000 * (k : Int)) h hs1 (by omega) (by have := HN2.out; omega))
      generalize tdLo l (t + 3600000 * (k : Int)) = lo at *
      generalize tdHi l (t + 3600000 * (k : Int)) = hi at *
      clear hown hsn eH
      go_wp2_with (first | (go_at_call 56; (refine (HC.out _ (HT.out.below (by exact belz)) (HS.out.below (Nat.le_refl _) (by exact belz))).mono ?_); rintro e w4 ⟨rfl, hb⟩; have hz := hb.size; (try simp only [szA, szS, szD, szN] at hz); (try (refine bcB (n := w.heap.size) hb ?_; intro h_w_0 e_w_0 d_w_0 _ _)); (try (refine bcB (n := wr.heap.size) hb ?_; intro h_wr_0 e_wr_0 d_wr_0 _ _))) | (at_builtin; refine wpList_append_own _ rfl (.tmp 41) (.tmp 45) 67 rfl w.heap.size 24 i0 (.agg #[.int .i64 0, .int .i64 0]) 2 16 Tryd.underlying67 hi0 hz0 hz1 hz2 rfl (by decide) _ k _ rfl ((own_below HO.out (by assumption)).alloc _) ⟨w4.heap.size, 0, none⟩ 1 1 [.int .i64 lo, .int .i64 hi] rfl rfl ?c1 ?c2 ?c3 ?c4 ?c5 ?_))
      case c1 =>
        intro j u hj
        match j, hj with
        | 0, hj => simp at hj; subst hj; go_simp
        | 1, hj => simp at hj; subst hj; simp only [Addr.add]; go_simp
      case c2 => intro u hu; simp at hu; rcases hu with rfl | rfl <;> rfl
      case c3 => unfold maxLen; omega
      case c4 => omega
      case c5 => have := hbel.size; simp; omega
      intro v' w5 hown' hgrow hnil
      have hb2 : Below w.heap.size w w5 := by
        refine Below.grown ?_ hgrow ?_ ?_
        · have := hbel.size
          exact belz
        · have := hbel.size; simp; omega
        · intro g hg
          exact (HO.out.lt g hg).1
      have hown2 : w5.ownsRow w.heap.size 24 2 v' (k + 1) (spCells (tdHs l t (k + 1))) := by
        rw [HSN.out, spCells_append]; exact hown'
      clear hown' hgrow hnil
      go_wp2
      go_roundg (gk - 1)
      case measure => omega
      case rel =>
        have hq : t + 3600000 * ((k + 1 : Nat) : Int) = t + 3600000 * (k : Int) + 3600000 := by omega
        exact ⟨k + 1, by omega, by rw [hq], hb2, hown2⟩
    · obtain rfl : k = n := by omega
      have gk1 : decide (t + 3600000 * (k : Int) ≤ t') = false := decide_eq_false (by have := HN2.out; omega)
      have hlen := tdHs_len l t k
      rcases own_form hown with ⟨-, h0⟩ | ⟨g, cap', rfl, hc1, hc2, hg0, hg1, hcell, hfz⟩
      · omega
      have hget := spCells_get (tdHs l t k)
      have HCE : Hid (∀ i, i < k → wr.cell? ⟨g, i * 2, none⟩ = some (.int .i64 (tdH l t i).lo) ∧ wr.cell? ⟨g, i * 2 + 1, none⟩ = some (.int .i64 (tdH l t i).hi)) := Lib.hid (by
        intro i hi
        obtain ⟨e1, e2⟩ := hget i (by omega)
        have e3 : (tdHs l t k)[i]'(by omega) = tdH l t i := by simp only [tdHs, List.getElem_map, List.getElem_range]
        rw [e3] at e1 e2
        exact ⟨(hcell (i * 2) (by omega)).trans e1, (hcell (i * 2 + 1) (by omega)).trans e2⟩)
      clear hown hget hcell hfz HO HH HB
      have HBL2 := Lib.hid hbel
      obtain ⟨wo, rfl⟩ : ∃ wo : World, wo = wr := ⟨_, rfl⟩
      go_wp2_with fail
      go_loopg [13, 14] (k - 1) (fun gk x13 x14 wr => ∃ m : Nat, gk + (m + 1) = k ∧ (m + 2 ≤ k ∨ m = 0) ∧ x14 = .int .i64 ((m : Int) + 1) ∧ Below w.heap.size w wr ∧ Below wo.heap.size wo wr ∧ wr.ownsRow wo.heap.size 24 2 x13 (tdO PH l t (m + 1)).length (spCells (tdO PH l t (m + 1))))
      case atStart =>
        have hq : tdO PH l t (0 + 1) = [] := rfl
        exact ⟨0, by omega, .inr rfl, rfl, hbel, Below.refl _ _, by rw [hq]; exact World.ownsRow_nil _ _ _ _⟩
      case round =>
        obtain ⟨m, hm, hm2, rfl, hbw, hbo, hown⟩ := hrel
        have hszo := hbo.size
        have HO := Lib.hid hown
        have HBW := Lib.hid hbw
        have HBO := Lib.hid hbo
        refine bcUse (n := g) hbo hg1 ?_
        intro cG fG
        obtain ⟨wq, rfl⟩ : ∃ wq : World, wq = wr := ⟨_, rfl⟩
        obtain ⟨gm, hgm⟩ : ∃ gm : Nat, gm = gk := ⟨_, rfl⟩
        have hgq : g < wq.heap.size := by omega
        by_cases hlt : m + 2 < k
        · have gt1 : decide ((m : Int) + 1 + 1 < (k : Int)) = true := decide_eq_true (by omega)
          obtain ⟨a1, a2⟩ := HCE.out m (by omega)
          obtain ⟨b1, b2⟩ := HCE.out (m + 1) (by omega)
          obtain ⟨c1, c2⟩ := HCE.out (m + 2) (by omega)
          have hT1 : Hid (tdT PH l t (m + 1) = (PH (tdH l t (m + 1)).lo (tdH l t (m + 1)).hi (tdH l t m).lo (tdH l t m).hi && PH (tdH l t (m + 1)).lo (tdH l t (m + 1)).hi (tdH l t (m + 2)).lo (tdH l t (m + 2)).hi)) := Lib.hid rfl
          have hO1 : Hid (tdO PH l t (m + 1 + 1) = if 1 ≤ m + 1 ∧ tdT PH l t (m + 1) = true then tdO PH l t (m + 1) ++ [⟨t + (((m + 1 : Nat) : Int) - 1) * 3600000, t + (((m + 1 : Nat) : Int) + 1) * 3600000⟩] else tdO PH l t (m + 1)) := Lib.hid rfl
          have hOl := tdO_len PH l t (m + 1)
          rw [← cG (m * 2)] at a1
          rw [← cG (m * 2 + 1)] at a2
          rw [← cG ((m + 1) * 2)] at b1
          rw [← cG ((m + 1) * 2 + 1)] at b2
          rw [← cG ((m + 2) * 2)] at c1
          rw [← cG ((m + 2) * 2 + 1)] at c2
          generalize tdH l t m = pa at *
          generalize tdH l t (m + 1) = pb at *
          generalize tdH l t (m + 2) = pc at *
          clear cG fG hown hbw hbo
          go_upto_region 19 with fail
          have HF1 := Lib.hid (fun w1 => c_high1 pb.lo pb.hi pa.lo pa.hi w1)
          have HF2 := Lib.hid (fun w1 => c_high1 pb.lo pb.hi pc.lo pc.hi w1)
          generalize hP1 : PH pb.lo pb.hi pa.lo pa.hi = p1 at *
          generalize hP2 : PH pb.lo pb.hi pc.lo pc.hi = p2 at *
          obtain ⟨wr0, rfl⟩ : ∃ wr0 : World, wr0 = wq := ⟨_, rfl⟩
          have x1 := @ix_Sp (some ⟨g, 0, none⟩) g 0 k cap' m rfl (by omega)
          have x2 := @ix_Sp (some ⟨g, 0, none⟩) g 0 k cap' (m + 1) rfl (by omega)
          have x3 := @ix_Sp (some ⟨g, 0, none⟩) g 0 k cap' (m + 2) rfl (by omega)
          simp only [Nat.zero_add] at x1 x2 x3
          push_cast at x1 x2 x3
          have q3 : (m : Int) + 1 + 1 = (m : Int) + 2 := by omega
          have q1 : (m : Int) + 1 - 1 = (m : Int) := by omega
          have x4 := x3
          rw [q3] at x4
          have v0 : IntKind.i64.wrap (m : Int) = (m : Int) := IntWalk.i64_in _ (by omega)
          have v4 : IntKind.i64.wrap ((m : Int) + 2) = (m : Int) + 2 := IntWalk.i64_in _ (by omega)
          have v1 : IntKind.i64.wrap ((m : Int) + 1 - 1) = (m : Int) := by rw [q1]; exact IntWalk.i64_in _ (by omega)
          have v2 : IntKind.i64.wrap ((m : Int) + 1 + 1) = (m : Int) + 2 := by rw [q3]; exact IntWalk.i64_in _ (by omega)
          go_cut [77] (fun s wc => s = .bool (p1 && p2) ∧ Below wr0.heap.size wr0 wc)
          case first =>
            rename_i JJ KK hJJ hKK
            clear hT1 hO1 HO HBW HBO HCE HBL HBL2 HN2 HK HI HI' HS HT g1 g2 gk1 gt1 hi0 hz0 hz1 hz2 hbel hlen hOl hP1 hP2 q1 q3 hn3 hn4 hgm
            (repeat (rename_i hh; clear hh))
            cases p1 with
            | false =>
              refine wp_region_held_drew (S := (fun w' => w'.cell? ⟨g, m * 2, none⟩ = some (.int .i64 pa.lo) ∧ w'.cell? ⟨g, m * 2 + 1, none⟩ = some (.int .i64 pa.hi) ∧ w'.cell? ⟨g, (m + 1) * 2, none⟩ = some (.int .i64 pb.lo) ∧ w'.cell? ⟨g, (m + 1) * 2 + 1, none⟩ = some (.int .i64 pb.hi) ∧ w'.cell? ⟨g, (m + 2) * 2, none⟩ = some (.int .i64 pc.lo) ∧ w'.cell? ⟨g, (m + 2) * 2 + 1, none⟩ = some (.int .i64 pc.hi))) (by kernel_rfl) ?_ (fun hHeld => ?_)
              · refine ⟨?_, ?_, ?_, ?_, ?_, ?_⟩ <;> (first | (go_simp; done) | go_keep)
              (refine wpAnyH_take (i := 0) (oi := { dst := some 54, op := Go.Op.move (Go.Operand.tmp 3), type := 99, pos := "tide.go:70", after := #[], guard := none }) (v := ?_) rfl (by kernel_rfl) (by kernel_rfl) (by kernel_rfl) (fun _ _ _ h => h) (Or.inl ⟨by rfl, ?_⟩) (by assumption) ?_; rotate_left; (focus (intro w hSw; (try dsimp only at hSw); go_simp; (try with_reducible rfl))) ; (try simp only [Act.put, List.setIfInBounds_toArray, List.set_cons_zero, List.set_cons_succ]))
              (refine wpAnyH_take (i := 1) (oi := { dst := some 55, op := Go.Op.move (Go.Operand.tmp 11), type := 67, pos := "tide.go:70", after := #[], guard := none }) (v := ?_) rfl (by kernel_rfl) (by kernel_rfl) (by kernel_rfl) (fun _ _ _ h => h) (Or.inl ⟨by rfl, ?_⟩) (by assumption) ?_; rotate_left; (focus (intro w hSw; (try dsimp only at hSw); go_simp; (try with_reducible rfl))) ; (try simp only [Act.put, List.setIfInBounds_toArray, List.set_cons_zero, List.set_cons_succ]))
              (refine wpAnyH_take (i := 2) (oi := { dst := some 56, op := Go.Op.move (Go.Operand.tmp 14), type := 3, pos := "tide.go:70", after := #[], guard := none }) (v := ?_) rfl (by kernel_rfl) (by kernel_rfl) (by kernel_rfl) (fun _ _ _ h => h) (Or.inl ⟨by rfl, ?_⟩) (by assumption) ?_; rotate_left; (focus (intro w hSw; (try dsimp only at hSw); go_simp; (try with_reducible rfl))) ; (try simp only [Act.put, List.setIfInBounds_toArray, List.set_cons_zero, List.set_cons_succ]))
              (refine wpAnyH_take (i := 3) (oi := { dst := some 57, op := Go.Op.indexAddr 67 (Go.Operand.tmp 55) (Go.Operand.tmp 56), type := 0, pos := "tide.go:70", after := #[{ on := 1, ground := Go.Ground.data }, { on := 2, ground := Go.Ground.data }], guard := none }) (v := ?_) rfl (by kernel_rfl) (by kernel_rfl) (by kernel_rfl) (fun _ _ _ h => h) (Or.inl ⟨by rfl, ?_⟩) (by assumption) ?_; rotate_left; (focus (intro w hSw; (try dsimp only at hSw); go_simp; (try with_reducible rfl))) ; (try simp only [Act.put, List.setIfInBounds_toArray, List.set_cons_zero, List.set_cons_succ]))
              (refine wpAnyH_take (i := 4) (oi := { dst := some 58, op := Go.Op.load 24 (Go.Operand.tmp 57), type := 24, pos := "tide.go:70", after := #[{ on := 3, ground := Go.Ground.data }], guard := none }) (v := ?_) rfl (by kernel_rfl) (by kernel_rfl) (by kernel_rfl) (fun _ _ _ h => h) (Or.inl ⟨by rfl, ?_⟩) (by assumption) ?_; rotate_left; (focus (intro w hSw; (try dsimp only at hSw); go_simp; (try with_reducible rfl))) ; (try simp only [Act.put, List.setIfInBounds_toArray, List.set_cons_zero, List.set_cons_succ]))
              (refine wpAnyH_take (i := 5) (oi := { dst := some 59, op := Go.Op.move (Go.Operand.tmp 11), type := 67, pos := "tide.go:70", after := #[], guard := none }) (v := ?_) rfl (by kernel_rfl) (by kernel_rfl) (by kernel_rfl) (fun _ _ _ h => h) (Or.inl ⟨by rfl, ?_⟩) (by assumption) ?_; rotate_left; (focus (intro w hSw; (try dsimp only at hSw); go_simp; (try with_reducible rfl))) ; (try simp only [Act.put, List.setIfInBounds_toArray, List.set_cons_zero, List.set_cons_succ]))
              (refine wpAnyH_take (i := 6) (oi := { dst := some 60, op := Go.Op.move (Go.Operand.tmp 14), type := 3, pos := "tide.go:70", after := #[], guard := none }) (v := ?_) rfl (by kernel_rfl) (by kernel_rfl) (by kernel_rfl) (fun _ _ _ h => h) (Or.inl ⟨by rfl, ?_⟩) (by assumption) ?_; rotate_left; (focus (intro w hSw; (try dsimp only at hSw); go_simp; (try with_reducible rfl))) ; (try simp only [Act.put, List.setIfInBounds_toArray, List.set_cons_zero, List.set_cons_succ]))
              (refine wpAnyH_take (i := 7) (oi := { dst := some 61, op := Go.Op.binOp Go.BinOp.sub 3 (Go.Operand.tmp 60) (Go.Operand.const (Go.Value.int Go.IntKind.i64 1)) 3, type := 3, pos := "tide.go:70", after := #[{ on := 6, ground := Go.Ground.data }], guard := none }) (v := ?_) rfl (by kernel_rfl) (by kernel_rfl) (by kernel_rfl) (fun _ _ _ h => h) (Or.inl ⟨by rfl, ?_⟩) (by assumption) ?_; rotate_left; (focus (intro w hSw; (try dsimp only at hSw); go_simp; (try with_reducible rfl))) ; (try simp only [Act.put, List.setIfInBounds_toArray, List.set_cons_zero, List.set_cons_succ]))
              (refine wpAnyH_take (i := 8) (oi := { dst := some 62, op := Go.Op.indexAddr 67 (Go.Operand.tmp 59) (Go.Operand.tmp 61), type := 0, pos := "tide.go:70", after := #[{ on := 5, ground := Go.Ground.data }, { on := 7, ground := Go.Ground.data }], guard := none }) (v := ?_) rfl (by kernel_rfl) (by kernel_rfl) (by kernel_rfl) (fun _ _ _ h => h) (Or.inl ⟨by rfl, ?_⟩) (by assumption) ?_; rotate_left; (focus (intro w hSw; (try dsimp only at hSw); go_simp; (try with_reducible rfl))) ; (try simp only [Act.put, List.setIfInBounds_toArray, List.set_cons_zero, List.set_cons_succ]))
              (refine wpAnyH_take (i := 9) (oi := { dst := some 63, op := Go.Op.load 24 (Go.Operand.tmp 62), type := 24, pos := "tide.go:70", after := #[{ on := 8, ground := Go.Ground.data }], guard := none }) (v := ?_) rfl (by kernel_rfl) (by kernel_rfl) (by kernel_rfl) (fun _ _ _ h => h) (Or.inl ⟨by rfl, ?_⟩) (by assumption) ?_; rotate_left; (focus (intro w hSw; (try dsimp only at hSw); go_simp; (try with_reducible rfl))) ; (try simp only [Act.put, List.setIfInBounds_toArray, List.set_cons_zero, List.set_cons_succ]))
              refine wpAnyH_ready (rs := [10]) (by kernel_rfl) (by simp) ?_
              refine AllReadyH.cons (o := { dst := some 64, op := Go.Op.call { callee := Go.Callee.value (Go.Operand.tmp 54), args := #[Go.Operand.tmp 58, Go.Operand.tmp 63], argTypes := #[24, 24] }, type := 4, pos := "tide.go:70", after := #[{ on := 0, ground := Go.Ground.data }, { on := 4, ground := Go.Ground.data }, { on := 9, ground := Go.Ground.data }], guard := none }) rfl (fun K hK => ?_) ?_
              rotate_left
              · exact AllReadyH.nil
              go_wp2_with ((go_at_call 58; (with_reducible refine (HF1.out _).mono ?_); rintro e w6 ⟨rfl, hb⟩; have hz := hb.size; (try simp only [szA, szS, szD, szN] at hz); (try (refine bcB (n := g) hb ?_; intro h_bg_0 e_bg_0 d_bg_0 _ _)); (try (refine bcB (n := wr0.heap.size) hb ?_; intro h_wr0_0 e_wr0_0 d_wr0_0 _ _))))
              refine hK.out _ _ ?_ (fun hHeld => ?_)
              · refine ⟨?_, ?_, ?_, ?_, ?_, ?_⟩ <;> (first | (go_simp; done) | go_keep)
              (try simp only [Act.put, List.setIfInBounds_toArray, List.set_cons_zero, List.set_cons_succ])
              (refine wpAnyH_take (i := 11) (oi := { dst := some 65, op := Go.Op.move (Go.Operand.tmp 64), type := 4, pos := "tide.go:70", after := #[{ on := 10, ground := Go.Ground.data }, { on := 10, ground := Go.Ground.chain }], guard := none }) (v := ?_) rfl (by kernel_rfl) (by kernel_rfl) (by kernel_rfl) (fun _ _ _ h => h) (Or.inl ⟨by rfl, ?_⟩) (by assumption) ?_; rotate_left; (focus (intro w hSw; (try dsimp only at hSw); go_simp; (try with_reducible rfl))) ; (try simp only [Act.put, List.setIfInBounds_toArray, List.set_cons_zero, List.set_cons_succ]))
              (refine wpAnyH_take (i := 12) (oi := { dst := some 66, op := Go.Op.move (Go.Operand.tmp 3), type := 99, pos := "tide.go:70", after := #[{ on := 11, ground := Go.Ground.guard }], guard := some (11, true) }) rfl (by kernel_rfl) (by kernel_rfl) (by kernel_rfl) (fun _ _ _ h => h) (Or.inr ⟨by rfl, rfl⟩) (by assumption) ?_; (try simp only [Act.put, List.setIfInBounds_toArray, List.set_cons_zero, List.set_cons_succ]))
              (refine wpAnyH_take (i := 13) (oi := { dst := some 67, op := Go.Op.move (Go.Operand.tmp 11), type := 67, pos := "tide.go:70", after := #[{ on := 11, ground := Go.Ground.guard }], guard := some (11, true) }) rfl (by kernel_rfl) (by kernel_rfl) (by kernel_rfl) (fun _ _ _ h => h) (Or.inr ⟨by rfl, rfl⟩) (by assumption) ?_; (try simp only [Act.put, List.setIfInBounds_toArray, List.set_cons_zero, List.set_cons_succ]))
              (refine wpAnyH_take (i := 14) (oi := { dst := some 68, op := Go.Op.move (Go.Operand.tmp 14), type := 3, pos := "tide.go:70", after := #[{ on := 11, ground := Go.Ground.guard }], guard := some (11, true) }) rfl (by kernel_rfl) (by kernel_rfl) (by kernel_rfl) (fun _ _ _ h => h) (Or.inr ⟨by rfl, rfl⟩) (by assumption) ?_; (try simp only [Act.put, List.setIfInBounds_toArray, List.set_cons_zero, List.set_cons_succ]))
              (refine wpAnyH_take (i := 15) (oi := { dst := some 69, op := Go.Op.indexAddr 67 (Go.Operand.tmp 67) (Go.Operand.tmp 68), type := 0, pos := "tide.go:70", after := #[{ on := 13, ground := Go.Ground.data }, { on := 14, ground := Go.Ground.data }, { on := 11, ground := Go.Ground.guard }], guard := some (11, true) }) rfl (by kernel_rfl) (by kernel_rfl) (by kernel_rfl) (fun _ _ _ h => h) (Or.inr ⟨by rfl, rfl⟩) (by assumption) ?_; (try simp only [Act.put, List.setIfInBounds_toArray, List.set_cons_zero, List.set_cons_succ]))
              (refine wpAnyH_take (i := 16) (oi := { dst := some 70, op := Go.Op.load 24 (Go.Operand.tmp 69), type := 24, pos := "tide.go:70", after := #[{ on := 15, ground := Go.Ground.data }, { on := 11, ground := Go.Ground.guard }], guard := some (11, true) }) rfl (by kernel_rfl) (by kernel_rfl) (by kernel_rfl) (fun _ _ _ h => h) (Or.inr ⟨by rfl, rfl⟩) (by assumption) ?_; (try simp only [Act.put, List.setIfInBounds_toArray, List.set_cons_zero, List.set_cons_succ]))
              (refine wpAnyH_take (i := 17) (oi := { dst := some 71, op := Go.Op.move (Go.Operand.tmp 11), type := 67, pos := "tide.go:70", after := #[{ on := 11, ground := Go.Ground.guard }], guard := some (11, true) }) rfl (by kernel_rfl) (by kernel_rfl) (by kernel_rfl) (fun _ _ _ h => h) (Or.inr ⟨by rfl, rfl⟩) (by assumption) ?_; (try simp only [Act.put, List.setIfInBounds_toArray, List.set_cons_zero, List.set_cons_succ]))
              (refine wpAnyH_take (i := 18) (oi := { dst := some 72, op := Go.Op.move (Go.Operand.tmp 14), type := 3, pos := "tide.go:70", after := #[{ on := 11, ground := Go.Ground.guard }], guard := some (11, true) }) rfl (by kernel_rfl) (by kernel_rfl) (by kernel_rfl) (fun _ _ _ h => h) (Or.inr ⟨by rfl, rfl⟩) (by assumption) ?_; (try simp only [Act.put, List.setIfInBounds_toArray, List.set_cons_zero, List.set_cons_succ]))
              (refine wpAnyH_take (i := 19) (oi := { dst := some 73, op := Go.Op.binOp Go.BinOp.add 3 (Go.Operand.tmp 72) (Go.Operand.const (Go.Value.int Go.IntKind.i64 1)) 3, type := 3, pos := "tide.go:70", after := #[{ on := 18, ground := Go.Ground.data }, { on := 11, ground := Go.Ground.guard }], guard := some (11, true) }) rfl (by kernel_rfl) (by kernel_rfl) (by kernel_rfl) (fun _ _ _ h => h) (Or.inr ⟨by rfl, rfl⟩) (by assumption) ?_; (try simp only [Act.put, List.setIfInBounds_toArray, List.set_cons_zero, List.set_cons_succ]))
              (refine wpAnyH_take (i := 20) (oi := { dst := some 74, op := Go.Op.indexAddr 67 (Go.Operand.tmp 71) (Go.Operand.tmp 73), type := 0, pos := "tide.go:70", after := #[{ on := 17, ground := Go.Ground.data }, { on := 19, ground := Go.Ground.data }, { on := 11, ground := Go.Ground.guard }], guard := some (11, true) }) rfl (by kernel_rfl) (by kernel_rfl) (by kernel_rfl) (fun _ _ _ h => h) (Or.inr ⟨by rfl, rfl⟩) (by assumption) ?_; (try simp only [Act.put, List.setIfInBounds_toArray, List.set_cons_zero, List.set_cons_succ]))
              (refine wpAnyH_take (i := 21) (oi := { dst := some 75, op := Go.Op.load 24 (Go.Operand.tmp 74), type := 24, pos := "tide.go:70", after := #[{ on := 20, ground := Go.Ground.data }, { on := 11, ground := Go.Ground.guard }], guard := some (11, true) }) rfl (by kernel_rfl) (by kernel_rfl) (by kernel_rfl) (fun _ _ _ h => h) (Or.inr ⟨by rfl, rfl⟩) (by assumption) ?_; (try simp only [Act.put, List.setIfInBounds_toArray, List.set_cons_zero, List.set_cons_succ]))
              (refine wpAnyH_take (i := 22) (oi := { dst := some 76, op := Go.Op.call { callee := Go.Callee.value (Go.Operand.tmp 66), args := #[Go.Operand.tmp 70, Go.Operand.tmp 75], argTypes := #[24, 24] }, type := 4, pos := "tide.go:70", after := #[{ on := 12, ground := Go.Ground.data }, { on := 16, ground := Go.Ground.data }, { on := 21, ground := Go.Ground.data }, { on := 11, ground := Go.Ground.chain }, { on := 11, ground := Go.Ground.guard }], guard := some (11, true) }) rfl (by kernel_rfl) (by kernel_rfl) (by kernel_rfl) (fun _ _ _ h => h) (Or.inr ⟨by rfl, rfl⟩) (by assumption) ?_; (try simp only [Act.put, List.setIfInBounds_toArray, List.set_cons_zero, List.set_cons_succ]))
              (refine wpAnyH_take (i := 23) (oi := { dst := some 77, op := Go.Op.pick (Go.Operand.tmp 65) (Go.Operand.tmp 76) (Go.Operand.const (Go.Value.bool false)), type := 4, pos := "tide.go:70", after := #[{ on := 11, ground := Go.Ground.data }, { on := 22, ground := Go.Ground.data }], guard := none }) (v := ?_) rfl (by kernel_rfl) (by kernel_rfl) (by kernel_rfl) (fun _ _ _ h => h) (Or.inl ⟨by rfl, ?_⟩) (by assumption) ?_; rotate_left; (focus (intro w hSw; (try dsimp only at hSw); go_simp; (try with_reducible rfl))) ; (try simp only [Act.put, List.setIfInBounds_toArray, List.set_cons_zero, List.set_cons_succ]))
              refine wpAnyH_done (by kernel_rfl) ?_ _
              (go_step; apply_assumption; refine Met.intro ?_; apply_assumption; (repeat apply Exists.intro); refine ⟨?_, rfl⟩; refine ⟨rfl, ?_⟩; exact belz)
            | true =>
              go_region_held3 (fun w' => w'.cell? ⟨g, m * 2, none⟩ = some (.int .i64 pa.lo) ∧ w'.cell? ⟨g, m * 2 + 1, none⟩ = some (.int .i64 pa.hi) ∧ w'.cell? ⟨g, (m + 1) * 2, none⟩ = some (.int .i64 pb.lo) ∧ w'.cell? ⟨g, (m + 1) * 2 + 1, none⟩ = some (.int .i64 pb.hi) ∧ w'.cell? ⟨g, (m + 2) * 2, none⟩ = some (.int .i64 pc.lo) ∧ w'.cell? ⟨g, (m + 2) * 2 + 1, none⟩ = some (.int .i64 pc.hi)) (refine ⟨?_, ?_, ?_, ?_, ?_, ?_⟩ <;> (first | (go_simp; done) | go_keep)) (first | (go_at_call 58; (with_reducible refine (HF1.out _).mono ?_); rintro e w6 ⟨rfl, hb⟩; have hz := hb.size; (try simp only [szA, szS, szD, szN] at hz); (try (refine bcB (n := g) hb ?_; intro h_bg_0 e_bg_0 d_bg_0 _ _)); (try (refine bcB (n := wr0.heap.size) hb ?_; intro h_wr0_0 e_wr0_0 d_wr0_0 _ _))) | (go_at_call 58; (with_reducible refine (HF2.out _).mono ?_); rintro e w7 ⟨rfl, hb⟩; have hz := hb.size; (try simp only [szA, szS, szD, szN] at hz); (try (refine bcB (n := g) hb ?_; intro h_bg_0 e_bg_0 d_bg_0 _ _)); (try (refine bcB (n := wr0.heap.size) hb ?_; intro h_wr0_0 e_wr0_0 d_wr0_0 _ _)); (try (refine bcB (n := w6.heap.size) hb ?_; intro h_w6_0 e_w6_0 d_w6_0 _ _))))
              all_goals (go_step; apply_assumption; refine Met.intro ?_; apply_assumption; (repeat apply Exists.intro); refine ⟨?_, rfl⟩; refine ⟨rfl, ?_⟩; exact belz)
          case rest =>
            obtain ⟨rfl, hbc⟩ := hcut
            have hszc := hbc.size
            have HO2 := Lib.hid (own_below HO.out hbc)
            have HW2 := Lib.hid (Below.call HBW.out (by omega) hbc)
            have HO3 := Lib.hid (Below.call HBO.out (by omega) hbc)
            have mb : (m : Int) ≤ 480 := by omega
            have hs2 : ((m : Int) + 1) + 1 = ((m + 1 : Nat) : Int) + 1 := by omega
            cases hpp : (p1 && p2) with
            | false =>
              have hq : tdO PH l t (m + 1 + 1) = tdO PH l t (m + 1) := by rw [hO1.out, hT1.out, hpp]; simp
              have HQ := Lib.hid hq
              clear hq hO1 hT1 x1 x2 x3 x4
              go_wp2_with fail
              go_roundg (gm - 1)
              case measure => omega
              case rel => exact ⟨m + 1, by omega, by omega, by rw [← hs2, q3], HW2.out, HO3.out, by rw [HQ.out]; exact HO2.out⟩
            | true =>
              have e1 : t + (((m + 1 : Nat) : Int) - 1) * 3600000 = t + (m : Int) * 3600000 := by omega
              have e2 : t + (((m + 1 : Nat) : Int) + 1) * 3600000 = t + ((m : Int) + 2) * 3600000 := by omega
              have hq : tdO PH l t (m + 1 + 1) = tdO PH l t (m + 1) ++ [⟨t + (m : Int) * 3600000, t + ((m : Int) + 2) * 3600000⟩] := by rw [hO1.out, hT1.out, hpp, e1, e2]; simp
              have HQ := Lib.hid hq
              have hol : (tdO PH l t (m + 1)).length ≤ 481 := by omega
              have hln : (tdO PH l t (m + 1 + 1)).length = (tdO PH l t (m + 1)).length + 1 := by rw [hq]; simp
              have HLN := Lib.hid hln
              clear hq hln hO1 hT1 x1 x2 x3 x4 e1 e2
              go_wp2_with (at_builtin; refine wpList_append_own _ rfl (.tmp 78) (.tmp 90) 67 rfl wo.heap.size 24 i0 (.agg #[.int .i64 0, .int .i64 0]) 2 16 Tryd.underlying67 hi0 hz0 hz1 hz2 rfl (by decide) _ (tdO PH l t (m + 1)).length _ rfl (HO2.out.alloc _) ⟨wc.heap.size, 0, none⟩ 1 1 [.int .i64 (t + (m : Int) * 3600000), .int .i64 (t + ((m : Int) + 2) * 3600000)] rfl rfl ?c1 ?c2 ?c3 ?c4 ?c5 ?_)
              case c1 =>
                intro j u hj
                rcases j with _ | _ | j
                · simp at hj; subst hj; go_simp
                · simp at hj; subst hj; simp only [Addr.add]; go_simp
                · simp at hj
              case c2 => intro u hu; simp at hu; rcases hu with rfl | rfl <;> rfl
              case c3 => unfold maxLen; omega
              case c4 => omega
              case c5 => have := HO3.out.size; simp; omega
              intro v' w8 hown' hgrow hnil
              have hbO : Below wo.heap.size wo w8 := by
                refine Below.grown ?_ hgrow ?_ ?_
                · have := HO3.out
                  exact belz
                · have := HO3.out.size; simp; omega
                · intro g hg
                  exact (HO2.out.lt g hg).1
              have hbW : Below w.heap.size w w8 := Below.call HBL2.out (by have := HBL2.out.size; omega) hbO
              have hown2 : w8.ownsRow wo.heap.size 24 2 v' (tdO PH l t (m + 1 + 1)).length (spCells (tdO PH l t (m + 1 + 1))) := by
                rw [HLN.out, HQ.out, spCells_append]; exact hown'
              clear hown' hgrow hnil
              have HOW := Lib.hid hown2
              clear hown2
              go_wp2
              go_roundg (gm - 1)
              case measure => omega
              case rel => exact ⟨m + 1, by omega, by omega, by rw [← hs2, q3], hbW, hbO, HOW.out⟩
        · have gt1 : decide ((m : Int) + 1 + 1 < (k : Int)) = false := decide_eq_false (by omega)
          have hq : tdO PH l t (m + 1) = tdO PH l t (k - 1) := by
            rcases hm2 with h | h
            · rw [show m + 1 = k - 1 by omega]
            · subst h
              have hk1 : k - 1 = 0 ∨ k - 1 = 1 := by omega
              rcases hk1 with h | h
              · rw [h]; rfl
              · rw [h]
          rw [hq] at hown
          obtain ⟨a', cap2, hv', hcap', hsl⟩ := own_spT hown
          subst hv'
          have HSL := Lib.hid hsl
          clear hown hsl hbw hbo HO
          go_wp2
          go_ret2
          exact ⟨a', cap2, rfl, hcap', HSL.out, HBW.out⟩
end Go.Proofs.YtcgnhnmigmdalaaDoor
