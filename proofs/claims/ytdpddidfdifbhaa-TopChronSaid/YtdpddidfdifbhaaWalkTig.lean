/- The contract of chron.Tightest. -/
import Derived.Test.YtdpddidfdifbhaaWalkFar
import Derived.Test.YtdpddidfdifbhaaWalkOwn
import Derived.Test.YtdpddidfdifbhaaWalkCells
import Derived.Deep.RegionHeld3
import Derived.Deep.AppendLies
set_option linter.unusedVariables false
set_option linter.unusedSimpArgs false
namespace Go.Proofs.Ytdpddidfdifbhaa
open Go.RowKit
def rowT (n : Nat) (D : Nat → Nat → Int) (i : Nat) : List Sp := (List.range n).map fun j => ⟨-(D j i), D i j⟩
def tgt (n : Nat) (D : Nat → Nat → Int) : List (List Sp) := (List.range n).map (rowT n D)
theorem rowT_length (n : Nat) (D : Nat → Nat → Int) (i : Nat) : (rowT n D i).length = n := by simp [rowT]
theorem rowT_get (n : Nat) (D : Nat → Nat → Int) (i j : Nat) (h : j < (rowT n D i).length) : (rowT n D i)[j] = ⟨-(D j i), D i j⟩ := by simp [rowT]
theorem rowT_snoc (n : Nat) (D : Nat → Nat → Int) (i c : Nat) (h : c < n) : (rowT n D i).take (c + 1) = (rowT n D i).take c ++ [⟨-(D c i), D i c⟩] := by
  rw [fe_take (rowT n D i) c (by rw [rowT_length]; exact h), rowT_get]
/-- A slice of slices of intervals. -/
def SpMat (w : World) (a : Option Addr) (L : List (List Sp)) : Prop := ∀ k (h : k < L.length), ∃ b off ra rc, a = some ⟨b, off, none⟩ ∧ b < w.heap.size ∧ w.cell? ⟨b, off + k, none⟩ = some (.slice ra L[k].length rc) ∧ L[k].length ≤ rc ∧ SpSlice w ra L[k]
theorem SpMat.below {B : Nat} {w w' : World} {a : Option Addr} {L : List (List Sp)} (h : SpMat w a L) (hs : w.heap.size ≤ B) (hb : Below B w w') : SpMat w' a L := by
  intro k hk
  obtain ⟨b, off, ra, rc, h1, h2, c0, h3, h4⟩ := h k hk
  exact ⟨b, off, ra, rc, h1, Nat.lt_of_lt_of_le h2 hb.size, (hb.cell (p := ⟨b, _, none⟩) (Nat.lt_of_lt_of_le h2 hs)).trans c0, h3, h4.below hs hb⟩
theorem own_kept {w w' : World} {base : Nat} {e : TypeId} {size : Nat} {v : Value} {n : Nat} {xs : List Value} (h : w.ownsRow base e size v n xs) (hb : ∀ g, v.ownBlock = some g → w'.heap[g]? = w.heap[g]?) : w'.ownsRow base e size v n xs := by
  refine ⟨h.1, ?_⟩
  rcases h.2 with h2 | ⟨g, cap, cur, hv, hg, hh, r⟩
  · exact .inl h2
  · exact .inr ⟨g, cap, cur, hv, hg, by rw [hb g (by rw [hv]; rfl)]; exact hh, r⟩
theorem own_base {w : World} {base base' : Nat} {e : TypeId} {size : Nat} {v : Value} {n : Nat} {xs : List Value} (h : w.ownsRow base e size v n xs) (hb : base' ≤ base) : w.ownsRow base' e size v n xs := by
  refine ⟨h.1, ?_⟩
  rcases h.2 with h2 | ⟨g, cap, cur, hv, hg, hh, r⟩
  · exact .inl h2
  · exact .inr ⟨g, cap, cur, hv, by omega, hh, r⟩
theorem own_block {w : World} {base : Nat} {e : TypeId} {size : Nat} {v : Value} {n : Nat} {xs : List Value} (h : w.ownsRow base e size v n xs) {g : Nat} (hg : v.ownBlock = some g) : ∃ cur, w.heap[g]? = some (.cells cur e (0, 0)) := by
  rcases h.2 with ⟨h2, _⟩ | ⟨g', cap, cur, hv, _, hh, _⟩
  · rw [h2] at hg; simp [Value.ownBlock] at hg
  · rw [hv] at hg
    have : g' = g := by simpa [Value.ownBlock] using hg
    subst this
    exact ⟨cur, hh⟩
theorem own_span {w : World} {base : Nat} {v : Value} {l : List Sp} (h : w.ownsRow base 25 2 v l.length (spCells l)) : ∃ ra rc, v = .slice ra l.length rc ∧ l.length ≤ rc ∧ SpSlice w ra l := by
  rcases own_form h with ⟨h1, h2⟩ | ⟨g, cap', h1, h2, h3, h4, h5, h6, h7⟩
  · exact ⟨none, 0, by rw [h1, h2], by omega, fun k hk => by omega⟩
  · refine ⟨some ⟨g, 0, none⟩, cap', h1, h2, fun k hk => ?_⟩
    obtain ⟨e1, e2⟩ := spCells_get l k hk
    exact ⟨g, 0, rfl, h5, by rw [Nat.zero_add, h6 _ (by omega), e1], by rw [Nat.zero_add, h6 _ (by omega), e2]⟩
theorem info_spans : (Try.prog.info? 22).map (fun i => (i.zero, i.size, i.bytes)) = some (some (.slice none 0 0), 1, 24) := by kernel_rfl
theorem c_Tight_bad (n : Int) (a : Option Addr) (cap : Nat) (l : List Bd) (w : World) (hc : l.length ≤ cap) (he : chErr n l ≠ 0) (hs : BdSlice w a l) :
    Calls Try.prog 28 #[.int .i64 n, .slice a l.length cap] w fun e w' => e = .returned (.tuple #[.slice none 0 0, .int .i64 (chErr n l)]) ∧ Below w.heap.size w w' := by
  have h1 : (chErr n l != 0) = true := by simp [he]
  have hgen := sgen; have hgen2 := sgen2; have hgen3 := sgen3; go_enter Try.func28, Try.ntmps28
  go_wp2_with (go_at_call 29; (refine (c_chCheck _ _ _ l _ hc hs).mono ?_); rintro e w1 ⟨rfl, hb⟩; have hz := hb.size; (try simp only [World.size_alloc, World.size_setCell, World.size_drew, World.heap_drewN] at hz); (try have h_w_0 : w.heap.size < w1.heap.size := by omega); (try have e_w_0 : ¬ w.heap.size = w1.heap.size := by omega); (try have d_w_0 : ¬ w1.heap.size = w.heap.size := by omega); (try (refine bcUse (n := w.heap.size) hb ?_ ?_; (focus ((try simp only [World.size_alloc, World.size_setCell, World.size_drew, World.heap_drewN]); omega)); intro _ _)))
  go_ret2
  refine ⟨rfl, ?_⟩
  (repeat' (first | (with_reducible exact Below.refl _ _) | (with_reducible assumption) | (with_reducible refine Below.call ?_ ?_ (by with_reducible assumption)) | (with_reducible refine Below.alloc ?_ ?_ _) | (with_reducible refine Below.drew ?_) | (with_reducible refine below_drewN ?_ _) | (with_reducible refine Below.setCell ?_ ?_ _) | (with_reducible exact Nat.le_refl _) | omega | (simp only [World.size_alloc, World.size_setCell, World.size_drew, World.heap_drewN] at *; omega)))
def FarNo (w : World) (e : Ending) (w' : World) : Prop := e = .returned (.tuple #[.slice none 0 0, .bool false]) ∧ Below w.heap.size w w'
theorem c_Tight_no (n : Nat) (a : Option Addr) (cap : Nat) (l : List Bd) (w : World) (hc : l.length ≤ cap) (he : chErr n l = 0) (hv : BdOk n l) (hno : ¬ FwOk n l) (hs : BdSlice w a l) :
    Calls Try.prog 28 #[.int .i64 n, .slice a l.length cap] w fun e w' => e = .returned (.tuple #[.slice none 0 0, .int .i64 10]) ∧ Below w.heap.size w w' := by
  have hK := fun w1 hs1 => c_chCheck n a cap l w1 hc hs1
  rw [he] at hK
  have hF : ∀ w1, BdSlice w1 a l → Calls Try.prog 53 #[.int .i64 n, .slice a l.length cap] w1 fun e w' => e = .returned (.tuple #[.slice none 0 0, .bool false]) ∧ Below w1.heap.size w1 w' := fun w1 hs1 => by
    refine (c_farthest n a cap l w1 hc hv hs1).mono ?_
    rintro e w' ⟨hb, ⟨hok, _⟩ | ⟨_, he⟩⟩
    · exact absurd hok hno
    · exact ⟨he, hb⟩
  have HK := Lib.hid hK
  have HF := Lib.hid hF
  clear hK hF hno hv
  have hgen := sgen; have hgen2 := sgen2; have hgen3 := sgen3; go_enter Try.func28, Try.ntmps28
  go_wp2_with (first | (go_at_call 29; (refine (HK.out _ hs).mono ?_); rintro e w1 ⟨rfl, hb⟩; have hz := hb.size; (try simp only [World.size_alloc, World.size_setCell, World.size_drew, World.heap_drewN] at hz); (try have h_w_0 : w.heap.size < w1.heap.size := by omega); (try have e_w_0 : ¬ w.heap.size = w1.heap.size := by omega); (try have d_w_0 : ¬ w1.heap.size = w.heap.size := by omega); (try (refine bcUse (n := w.heap.size) hb ?_ ?_; (focus ((try simp only [World.size_alloc, World.size_setCell, World.size_drew, World.heap_drewN]); omega)); intro _ _))) | (go_at_call 53; (refine (HF.out _ (hs.below (Nat.le_refl _) (by (repeat' (first | (with_reducible exact Below.refl _ _) | (with_reducible assumption) | (with_reducible refine Below.call ?_ ?_ (by with_reducible assumption)) | (with_reducible refine Below.alloc ?_ ?_ _) | (with_reducible refine Below.drew ?_) | (with_reducible refine below_drewN ?_ _) | (with_reducible refine Below.setCell ?_ ?_ _) | (with_reducible exact Nat.le_refl _) | omega | (simp only [World.size_alloc, World.size_setCell, World.size_drew, World.heap_drewN] at *; omega)))))).mono ?_); rintro e w2 ⟨rfl, hb⟩; have hz := hb.size; (try simp only [World.size_alloc, World.size_setCell, World.size_drew, World.heap_drewN] at hz); (try have h_w_0 : w.heap.size < w2.heap.size := by omega); (try have e_w_0 : ¬ w.heap.size = w2.heap.size := by omega); (try have d_w_0 : ¬ w2.heap.size = w.heap.size := by omega); (try (refine bcUse (n := w.heap.size) hb ?_ ?_; (focus ((try simp only [World.size_alloc, World.size_setCell, World.size_drew, World.heap_drewN]); omega)); intro _ _)); (try have h_w1_0 : w1.heap.size < w2.heap.size := by omega); (try have e_w1_0 : ¬ w1.heap.size = w2.heap.size := by omega); (try have d_w1_0 : ¬ w2.heap.size = w1.heap.size := by omega); (try (refine bcUse (n := w1.heap.size) hb ?_ ?_; (focus ((try simp only [World.size_alloc, World.size_setCell, World.size_drew, World.heap_drewN]); omega)); intro _ _))))
  go_ret2
  refine ⟨rfl, ?_⟩
  (repeat' (first | (with_reducible exact Below.refl _ _) | (with_reducible assumption) | (with_reducible refine Below.call ?_ ?_ (by with_reducible assumption)) | (with_reducible refine Below.alloc ?_ ?_ _) | (with_reducible refine Below.drew ?_) | (with_reducible refine below_drewN ?_ _) | (with_reducible refine Below.setCell ?_ ?_ _) | (with_reducible exact Nat.le_refl _) | omega | (simp only [World.size_alloc, World.size_setCell, World.size_drew, World.heap_drewN] at *; omega)))
set_option maxRecDepth 100000 in
set_option maxHeartbeats 4000000 in
theorem c_Tight_ok (n : Nat) (a : Option Addr) (cap : Nat) (l : List Bd) (w : World) (hc : l.length ≤ cap) (he : chErr n l = 0) (hv : BdOk n l) (hok : FwOk n l) (hs : BdSlice w a l) :
    Calls Try.prog 28 #[.int .i64 n, .slice a l.length cap] w fun e w' => ∃ a' cap', e = .returned (.tuple #[.slice a' n cap', .int .i64 0]) ∧ n ≤ cap' ∧ SpMat w' a' (tgt n (fw l n)) ∧ Below w.heap.size w w' := by
  have n12 := hv.n12
  have n1 := hv.n1
  have hK := fun w1 hs1 => c_chCheck n a cap l w1 hc hs1
  rw [he] at hK
  have hF : ∀ w1, BdSlice w1 a l → Calls Try.prog 53 #[.int .i64 n, .slice a l.length cap] w1 fun e w' => e = .returned (.tuple #[.slice (some ⟨w1.heap.size, 0, none⟩) n n, .bool true]) ∧ Mat w' w1.heap.size n (fw l n) ∧ Below w1.heap.size w1 w' := fun w1 hs1 => by
    refine (c_farthest n a cap l w1 hc hv hs1).mono ?_
    rintro e w' ⟨hb, ⟨_, he, hm⟩ | ⟨hno, _⟩⟩
    · exact ⟨he, hm, hb⟩
    · exact absurd hok hno
  have LOW := Lib.hid (fun i j => fw_low12 hv n12 i j)
  have G := Lib.hid (good_fw hv n (Nat.le_refl _) (fun m hm => hok m hm))
  have HK := Lib.hid hK
  have HF := Lib.hid hF
  clear hK hF hok hv
  generalize fw l n = D at *
  obtain ⟨i0, hi0, hz0, hz1, hz2⟩ := info_parts info_span
  obtain ⟨i1, hi1, hy0, hy1, hy2⟩ := info_parts info_spans
  have hgen := sgen; have hgen2 := sgen2; have hgen3 := sgen3; go_enter Try.func28, Try.ntmps28
  go_wp2_with (first | (go_at_call 29; (refine (HK.out _ hs).mono ?_); rintro e w1 ⟨rfl, hb⟩; have hz := hb.size; (try simp only [World.size_alloc, World.size_setCell, World.size_drew, World.heap_drewN] at hz); (try have h_w_0 : w.heap.size < w1.heap.size := by omega); (try have e_w_0 : ¬ w.heap.size = w1.heap.size := by omega); (try have d_w_0 : ¬ w1.heap.size = w.heap.size := by omega); (try (refine bcUse (n := w.heap.size) hb ?_ ?_; (focus ((try simp only [World.size_alloc, World.size_setCell, World.size_drew, World.heap_drewN]); omega)); intro _ _))) | (go_at_call 53; (refine (HF.out _ (hs.below (Nat.le_refl _) (by (repeat' (first | (with_reducible exact Below.refl _ _) | (with_reducible assumption) | (with_reducible refine Below.call ?_ ?_ (by with_reducible assumption)) | (with_reducible refine Below.alloc ?_ ?_ _) | (with_reducible refine Below.drew ?_) | (with_reducible refine below_drewN ?_ _) | (with_reducible refine Below.setCell ?_ ?_ _) | (with_reducible exact Nat.le_refl _) | omega | (simp only [World.size_alloc, World.size_setCell, World.size_drew, World.heap_drewN] at *; omega)))))).mono ?_); rintro e w2 ⟨rfl, hM2, hb⟩; have hz := hb.size; (try simp only [World.size_alloc, World.size_setCell, World.size_drew, World.heap_drewN] at hz); (try have h_w_0 : w.heap.size < w2.heap.size := by omega); (try have e_w_0 : ¬ w.heap.size = w2.heap.size := by omega); (try have d_w_0 : ¬ w2.heap.size = w.heap.size := by omega); (try (refine bcUse (n := w.heap.size) hb ?_ ?_; (focus ((try simp only [World.size_alloc, World.size_setCell, World.size_drew, World.heap_drewN]); omega)); intro _ _)); (try have h_w1_0 : w1.heap.size < w2.heap.size := by omega); (try have e_w1_0 : ¬ w1.heap.size = w2.heap.size := by omega); (try have d_w1_0 : ¬ w2.heap.size = w1.heap.size := by omega); (try (refine bcUse (n := w1.heap.size) hb ?_ ?_; (focus ((try simp only [World.size_alloc, World.size_setCell, World.size_drew, World.heap_drewN]); omega)); intro _ _))))
  have hbw2 : Below w.heap.size w w2 := by (repeat' (first | (with_reducible exact Below.refl _ _) | (with_reducible assumption) | (with_reducible refine Below.call ?_ ?_ (by with_reducible assumption)) | (with_reducible refine Below.alloc ?_ ?_ _) | (with_reducible refine Below.drew ?_) | (with_reducible refine below_drewN ?_ _) | (with_reducible refine Below.setCell ?_ ?_ _) | (with_reducible exact Nat.le_refl _) | omega | (simp only [World.size_alloc, World.size_setCell, World.size_drew, World.heap_drewN] at *; omega)))
  have hz2' := hbw2.size
  go_loopg [9, 28] n (fun gk x9 i wr => ∃ r : Nat, ∃ xs : List Value, r ≤ n ∧ gk = n - r ∧ i = .int .i64 r ∧ Below w2.heap.size w2 wr ∧ wr.ownsRow w2.heap.size 22 1 x9 r xs ∧ ∀ k, k < r → ∃ v, xs[k]? = some v ∧ wr.ownsRow w2.heap.size 25 2 v n (spCells (rowT n D k)))
  case atStart => exact ⟨0, [], Nat.zero_le _, rfl, rfl, Below.refl _ _, World.ownsRow_nil _ _ _ _, fun k hk => by omega⟩
  case round =>
    obtain ⟨r, xs, hrn, rfl, rfl, hbel, hown, hrows⟩ := hrel
    have hsz := hbel.size
    have hM := hM2.below hbel
    by_cases hr : r < n
    · have hrz : (r : Int) < (n : Int) := by omega
      have HO := Lib.hid hown
      have HR := Lib.hid hrows
      have HM := Lib.hid hM
      clear hown hrows hM
      obtain ⟨wo, rfl⟩ : ∃ wo : World, wo = wr := ⟨_, rfl⟩
      go_wp2_with fail
      go_loopg [11, 32] n (fun gk x11 j wi => ∃ c : Nat, c ≤ n ∧ gk = n - c ∧ j = .int .i64 c ∧ Below wo.heap.size wo wi ∧ wi.ownsRow wo.heap.size 25 2 x11 c (spCells ((rowT n D r).take c)))
      case atStart => exact ⟨0, Nat.zero_le _, rfl, rfl, Below.refl _ _, World.ownsRow_nil _ _ _ _⟩
      case round =>
        obtain ⟨c, hcn, rfl, rfl, hbi, hoi⟩ := hrel
        have hszi := hbi.size
        have hM := HM.out.below hbi
        by_cases hcl : c < n
        · have hcz : (c : Int) < (n : Int) := by omega
          have g1 := hM.c0 hcl
          have g2 := hM.c0 hr
          have g3 := hM.c1 hcl hr
          have g4 := hM.c1 hr hcl
          have hlow := LOW.out c r
          have hfar := G.out.far c r hcl hr
          have hF' : FAR = 1000000000 := rfl
          rw [hF'] at hfar
          have hsn := rowT_snoc n D r c hcl
          have HS := Lib.hid hsn
          have HOI := Lib.hid hoi
          have hlt2 := hM.lt hcl
          have hlt3 := hM.lt hr
          clear hoi hM hsn hF'
          generalize D c r = dcr at *
          generalize D r c = drc at *
          have ew : IntKind.i64.wrap (-dcr) = -dcr := IntWalk.i64_in _ (by omega)
          have hn1 : c + 1 ≤ maxLen := by unfold maxLen; omega
          have hnb : (c + 1) * 16 ≤ 140737488355328 := by omega
          have hl2 := hM2.lt hcl
          have hl3 := hM2.lt hr
          have hB1 : w1.heap.size < wo.heap.size := by omega
          have ag : u11.ownBlock ≠ some w1.heap.size := fun e => by have := (HOI.out.lt _ e).1; omega
          have ac : u11.ownBlock ≠ some (w1.heap.size + 1 + c) := fun e => by have := (HOI.out.lt _ e).1; omega
          have ar : u11.ownBlock ≠ some (w1.heap.size + 1 + r) := fun e => by have := (HOI.out.lt _ e).1; omega
          go_wp2_with fail
          go_region_held3 (fun w' => w'.cell? ⟨w1.heap.size, c, none⟩ = some (.slice (some ⟨w1.heap.size + 1 + c, 0, none⟩) n n) ∧ w'.cell? ⟨w1.heap.size, r, none⟩ = some (.slice (some ⟨w1.heap.size + 1 + r, 0, none⟩) n n) ∧ w'.cell? ⟨w1.heap.size + 1 + c, r, none⟩ = some (.int .i64 dcr) ∧ w'.cell? ⟨w1.heap.size + 1 + r, c, none⟩ = some (.int .i64 drc))
            (first
              | go_keep
              | (go_split_ands
                 refine ⟨?_, ?_, ?_, ?_⟩
                 · (rw [hgrow.cell_far _ (by simp; omega) (Ne.symm ag)]; assumption)
                 · (rw [hgrow.cell_far _ (by simp; omega) (Ne.symm ag)]; assumption)
                 · (rw [hgrow.cell_far _ (by simp; omega) (Ne.symm ac)]; assumption)
                 · (rw [hgrow.cell_far _ (by simp; omega) (Ne.symm ar)]; assumption)))
            ((refine step_append_lies _ (by rfl) _ _ _ (by rfl) wo.heap.size 25 i0 _ 2 16 Try.underlying22 hi0 hz0 hz1 hz2 rfl (by omega) u11 c _ (by rfl) ((HOI.out.alloc _).drew) ⟨wr.heap.size, 0, none⟩ 1 1 [.int .i64 (-dcr), .int .i64 drc] (by rfl) (by rfl) (World.news_of_block (cs := #[.int .i64 (-dcr), .int .i64 drc]) (t := 25) (fr := (0, 0)) (heap_alloc_new wr _)) (by simp [Value.oneCell']) (by omega) hn1 hnb (by simp; omega) (wr.heap.size + 1) (by simp) ?_; intro gg cap3 w3 hown3 hgrow hat hlt3))
          clear ew
          have hb3 : Below wo.heap.size wo w3 := by
            refine Below.grown (((hbi.alloc hszi _)).drew) hgrow ?_ ?_
            · simp; omega
            · intro g hg
              exact (HOI.out.lt g hg).1
          have HO3 : Hid (w3.ownsRow wo.heap.size 25 2 (.slice (some ⟨gg, 0, none⟩) (c + 1) cap3) (c + 1) (spCells ((rowT n D r).take (c + 1)))) := Lib.hid (by rw [HS.out, spCells_append]; exact hown3)
          clear hown3 hgrow hat
          go_wp2_with fail
          go_roundg (n - (c + 1))
          case measure => go_light; omega
          case rel => go_light; exact ⟨c + 1, by omega, rfl, by go_num, hb3, HO3.out⟩
        · obtain rfl : c = n := by omega
          rw [List.take_of_length_le (by rw [rowT_length]; exact Nat.le_refl _)] at hoi
          have hoi' : wr.ownsRow wo.heap.size 25 2 u11 (rowT c D r).length (spCells (rowT c D r)) := by rw [rowT_length]; exact hoi
          obtain ⟨ra, rc, hu, _, _⟩ := own_span hoi'
          rw [rowT_length] at hu
          clear hoi' hM
          subst hu
          have HOI := Lib.hid hoi
          have hxl : xs.length = r := by have := HO.out.1; omega
          clear hoi
          go_wp2_with (at_builtin; refine wpList_append_own _ rfl (.tmp 55) (.tmp 57) 49 rfl w2.heap.size 22 i1 (.slice none 0 0) 1 24 Try.underlying49 hi1 hy0 hy1 hy2 rfl (by decide) _ r _ rfl ((own_below HO.out hbi).alloc _) ⟨wr.heap.size, 0, none⟩ 1 1 [.slice ra c rc] rfl rfl ?_ ?_ ?_ ?_ ?_ ?_)
          any_goals first | (unfold maxLen; omega) | omega | (show Value.oneCell' _ = true; rfl) | (intro u hu; simp at hu; subst hu; rfl) | (simp; omega) | (intro j u hj; match j, hj with | 0, hj => simp at hj; subst hj; simp only [Addr.add]; go_simp)
          intro v' w3 hown' hgrow _
          have hbr : Below w2.heap.size w2 wr := by (repeat' (first | (with_reducible exact Below.refl _ _) | (with_reducible assumption) | (with_reducible refine Below.call ?_ ?_ (by with_reducible assumption)) | (with_reducible refine Below.alloc ?_ ?_ _) | (with_reducible refine Below.drew ?_) | (with_reducible refine below_drewN ?_ _) | (with_reducible refine Below.setCell ?_ ?_ _) | (with_reducible exact Nat.le_refl _) | omega | (simp only [World.size_alloc, World.size_setCell, World.size_drew, World.heap_drewN] at *; omega)))
          have hb3 : Below w2.heap.size w2 w3 := by
            refine Below.grown (hbr.alloc hbr.size _) hgrow ?_ ?_
            · simp; omega
            · intro g hg
              exact (HO.out.lt g hg).1
          have HRR : Hid (∀ k, k < r + 1 → ∃ v, (xs ++ [Value.slice ra c rc])[k]? = some v ∧ w3.ownsRow w2.heap.size 25 2 v c (spCells (rowT c D k))) := by
            refine Lib.hid fun k hk => ?_
            have step : ∀ v, wr.ownsRow w2.heap.size 25 2 v c (spCells (rowT c D k)) → w3.ownsRow w2.heap.size 25 2 v c (spCells (rowT c D k)) := fun v hv => by
              have hva := hv.alloc (.cells #[Value.slice ra c rc] 22)
              refine own_kept hva (fun g hg => hgrow.block g ?_ (fun e => ?_))
              · obtain ⟨cur, hcur⟩ := own_block hva hg
                exact (Array.getElem?_eq_some_iff.1 hcur).1
              · obtain ⟨cur, hcur⟩ := own_block hva hg
                obtain ⟨cur', hcur'⟩ := own_block ((own_below HO.out hbi).alloc (.cells #[Value.slice ra c rc] 22)) e.symm
                rw [hcur] at hcur'
                simp at hcur'
            by_cases e : k = r
            · subst e
              exact ⟨_, by rw [List.getElem?_append_right (by omega), hxl]; simp, step _ (own_base HOI.out (by omega))⟩
            · obtain ⟨v, h1, h2⟩ := HR.out k (by omega)
              exact ⟨v, by rw [List.getElem?_append_left (by omega)]; exact h1, step v (own_below h2 hbi)⟩
          have HO3 := Lib.hid hown'
          clear hgrow hown'
          go_wp2_with fail
          go_roundg (c - (r + 1))
          case measure => go_light; omega
          case rel => go_light; exact ⟨r + 1, xs ++ [Value.slice ra c rc], by omega, rfl, by go_num, hb3, HO3.out, HRR.out⟩
    · obtain rfl : r = n := by omega
      have HO := Lib.hid hown
      have HR := Lib.hid hrows
      clear hown hrows hM
      rcases own_form HO.out with ⟨_, h0⟩ | ⟨g, cap', h1, h2, h3, h4, h5, h6, h7⟩
      · omega
      · subst h1
        have hxl : xs.length = r := by have := HO.out.1; omega
        have hbw : Below w.heap.size w wr := Below.trans hbw2 (hbel.mono hz2')
        have HF := Lib.hid h6
        clear h6 h7
        go_wp2_with fail
        go_ret2
        refine ⟨some ⟨g, 0, none⟩, cap', rfl, h2, ?_, hbw⟩
        intro k hk
        have hk' : k < r := by simpa [tgt] using hk
        have hl : (tgt r D)[k] = rowT r D k := by simp [tgt]
        obtain ⟨v, hv, hvo⟩ := HR.out k hk'
        have hvo' : wr.ownsRow w2.heap.size 25 2 v (rowT r D k).length (spCells (rowT r D k)) := by rw [rowT_length]; exact hvo
        obtain ⟨ra, rc, hu, hle, hsp⟩ := own_span hvo'
        rw [hl]
        refine ⟨g, 0, ra, rc, rfl, h5, ?_, hle, hsp⟩
        rw [Nat.zero_add, HF.out k (by omega), hv, hu]
end Go.Proofs.Ytdpddidfdifbhaa
