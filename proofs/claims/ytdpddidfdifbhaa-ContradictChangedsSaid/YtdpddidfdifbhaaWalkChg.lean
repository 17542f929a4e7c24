/- The contract of contradict.Changed. -/
import Derived.Test.YtdpddidfdifbhaaWalkCtI
import Derived.Test.YtdpddidfdifbhaaPlainPairs
import Derived.Deep.AppendLies
set_option linter.unusedVariables false
set_option linter.unusedSimpArgs false
namespace Go.Proofs.Ytdpddidfdifbhaa
open Go.RowKit
/-- What Tightest tells of any constraints. -/
def TigR (n : Nat) (l : List Bd) (v : Value) (x : Int) (w' : World) : Prop :=
  (chErr n l ≠ 0 ∧ v = .slice none 0 0 ∧ x = chErr n l) ∨ (chErr n l = 0 ∧ okB n l = false ∧ v = .slice none 0 0 ∧ x = 10) ∨
    (chErr n l = 0 ∧ okB n l = true ∧ ∃ a' cap', v = .slice a' n cap' ∧ x = 0 ∧ n ≤ cap' ∧ SpMat w' a' (tgt n (fw l n)))
def TigRes (n : Nat) (l : List Bd) (w : World) (e : Ending) (w' : World) : Prop := ∃ v x, e = .returned (.tuple #[v, .int .i64 x]) ∧ TigR n l v x w' ∧ Below w.heap.size w w'
theorem c_TightR (n : Nat) (a : Option Addr) (cap : Nat) (l : List Bd) (w : World) (hc : l.length ≤ cap) (hs : BdSlice w a l) :
    Calls Try.prog 28 #[.int .i64 n, .slice a l.length cap] w (TigRes n l w) := by
  by_cases he : chErr n l = 0
  · cases hok : okB n l
    · refine (c_Tight_no n a cap l w hc he (bdOk_at he) (okB_no hok) hs).mono ?_
      rintro e w' ⟨rfl, hb⟩
      exact ⟨_, _, rfl, .inr (.inl ⟨he, hok, rfl, rfl⟩), hb⟩
    · refine (c_Tight_ok n a cap l w hc he (bdOk_at he) (okB_yes hok) hs).mono ?_
      rintro e w' ⟨a', cap', rfl, h1, h2, hb⟩
      exact ⟨_, _, rfl, .inr (.inr ⟨he, hok, a', cap', rfl, rfl, h1, h2⟩), hb⟩
  · refine (c_Tight_bad n a cap l w hc he hs).mono ?_
    rintro e w' ⟨rfl, hb⟩
    exact ⟨_, _, rfl, .inl ⟨he, rfl, rfl⟩, hb⟩
theorem BdSlice.srcA {w : World} {l : List Bd} {ad : Addr} (hs : BdSlice w (some ad) l) : ∀ j u, (bdCells l)[j]? = some u → w.cell? (ad.add j) = some u := by
  intro j u hj
  have hlt : j < l.length * 4 := by
    have := (List.getElem?_eq_some_iff.1 hj).1
    rwa [bdCells_length] at this
  obtain ⟨b, off, e, _⟩ := hs 0 (by omega)
  simp at e
  subst e
  rw [Addr.add_lit]
  exact BdSlice.src (spot := none) hs j u hj
def CloneR (l : List Bd) (w : World) (e : Ending) (w' : World) : Prop := ∃ v, e = .returned v ∧ w'.ownsRow w.heap.size 47 4 v l.length (bdCells l) ∧ Below w.heap.size w w'
theorem c_CloneR (a : Option Addr) (c : Nat) (l : List Bd) (w : World) (h41 : l.length ≤ 41) (hs : BdSlice w a l) :
    Calls Try.prog 55 #[.slice a l.length c] w (CloneR l w) := by
  cases a with
  | none =>
    have h0 : l = [] := by
      cases l with
      | nil => rfl
      | cons x l => obtain ⟨b, off, e, _⟩ := hs 0 (by simp); simp at e
    subst h0
    refine (c_Clone_nil _ c w).mono ?_
    rintro e w' ⟨rfl, hb⟩
    exact ⟨_, rfl, World.ownsRow_nil _ _ _ _, hb⟩
  | some ad =>
    have q := fun (w : World) (a : Option Addr) (n c n' c' : Nat) => Lib.run_eql_slice_nil (P := Try.prog) w _ _ a n c n' c' Try.underlying41
    obtain ⟨i0, hi, hz0, hz1, hz2⟩ := info_parts info_Bd
    have HS := Lib.hid hs.srcA
    clear hs
    have hgen := sgen; have hgen2 := sgen2; have hgen3 := sgen3; go_enter Try.func55, Try.ntmps55
    go_wp2_with (at_builtin; refine wpList_append_own _ rfl _ _ 41 rfl w.heap.size 47 i0 (.agg #[.int .i64 0, .int .i64 0, .int .i64 0, .int .i64 0]) 4 32 Try.underlying41 hi hz0 hz1 hz2 rfl (by decide) _ _ _ rfl (World.ownsRow_made w #[] 0 (Nat.le_refl _) (Nat.zero_le _) rfl) ad l.length c (bdCells l) rfl ?qc1 ?qc2 ?qc3 ?qc4 ?qc5 ?qc6 ?_)
    case qc1 => exact bdCells_length l
    case qc2 =>
      intro j u hj
      exact Lib.cell?_alloc_some _ (HS.out j u hj)
    case qc3 => exact bdCells_one l
    case qc4 => unfold maxLen; omega
    case qc5 => omega
    case qc6 => simp
    intro v' w1 hown hgrow hnil
    have HOWN := Lib.hid hown; have HG := Lib.hid hgrow
    clear hown hgrow hnil
    go_wp2
    go_ret
    exact ⟨v', rfl, by simpa using HOWN.out, ((Below.refl _ w).alloc (Nat.le_refl _) _).grown HG.out (by simp) (by intro k hk; simp [Value.ownBlock] at hk; omega)⟩
theorem info_pair : (Try.prog.info? 65).map (fun i => (i.zero, i.size, i.bytes)) = some (some (.agg #[.int .i64 0, .int .i64 0]), 2, 16) := by kernel_rfl
def chg (D E : Nat → Nat → Int) (i j : Nat) : Bool := (-(D j i) != -(E j i)) || (D i j != E i j)
def prCells (P : List (Nat × Nat)) : List Value := P.flatMap fun p => [.int .i64 (p.1 : Int), .int .i64 (p.2 : Int)]
def ChgR (n : Nat) (l : List Bd) (m : Bd) (B : Nat) (v : Value) (x : Int) (w' : World) : Prop :=
  (chErr n (l ++ [m]) ≠ 0 ∧ v = .slice none 0 0 ∧ x = chErr n (l ++ [m])) ∨ (chErr n (l ++ [m]) = 0 ∧ okB n (l ++ [m]) = false ∧ v = .slice none 0 0 ∧ x = 10) ∨
    (chErr n (l ++ [m]) = 0 ∧ okB n (l ++ [m]) = true ∧ x = 0 ∧ w'.ownsRow B 65 2 v (ps (chg (fw l n) (fw (l ++ [m]) n)) n n).length (prCells (ps (chg (fw l n) (fw (l ++ [m]) n)) n n)))
def ChgRes (n : Nat) (l : List Bd) (m : Bd) (w : World) (e : Ending) (w' : World) : Prop := ∃ v x, e = .returned (.tuple #[v, .int .i64 x]) ∧ ChgR n l m w.heap.size v x w' ∧ Below w.heap.size w w'
theorem c_Chg_bad (n : Int) (a : Option Addr) (cap : Nat) (l : List Bd) (m : Bd) (w : World) (hc : l.length ≤ cap) (he : chErr n l ≠ 0) (hs : BdSlice w a l) :
    Calls Try.prog 37 #[.int .i64 n, .slice a l.length cap, .agg #[.int .i64 m.a, .int .i64 m.b, .int .i64 m.lo, .int .i64 m.hi]] w fun e w' => e = .returned (.tuple #[.slice none 0 0, .int .i64 (chErr n l)]) ∧ Below w.heap.size w w' := by
  have h1 : (chErr n l != 0) = true := by simp [he]
  have hgen := sgen; have hgen2 := sgen2; have hgen3 := sgen3; go_enter Try.func37, Try.ntmps37
  go_wp2_with (go_at_call 28; (refine (c_Tight_bad _ _ _ l _ hc he (hs.below (Nat.le_refl _) (by (repeat' (first | (with_reducible exact Below.refl _ _) | (with_reducible assumption) | (with_reducible refine Below.call ?_ ?_ (by with_reducible assumption)) | (with_reducible refine Below.alloc ?_ ?_ _) | (with_reducible refine Below.drew ?_) | (with_reducible refine below_drewN ?_ _) | (with_reducible refine Below.setCell ?_ ?_ _) | (with_reducible exact Nat.le_refl _) | omega | (simp only [World.size_alloc, World.size_setCell, World.size_drew, World.heap_drewN] at *; omega)))))).mono ?_); rintro e w1 ⟨rfl, hb⟩; have hz := hb.size; (try simp only [World.size_alloc, World.size_setCell, World.size_drew, World.heap_drewN] at hz); (try have h_w_0 : w.heap.size < w1.heap.size := by omega); (try have e_w_0 : ¬ w.heap.size = w1.heap.size := by omega); (try have d_w_0 : ¬ w1.heap.size = w.heap.size := by omega); (try (refine bcUse (n := w.heap.size) hb ?_ ?_; (focus ((try simp only [World.size_alloc, World.size_setCell, World.size_drew, World.heap_drewN]); omega)); intro _ _)))
  go_ret2
  refine ⟨rfl, ?_⟩
  (repeat' (first | (with_reducible exact Below.refl _ _) | (with_reducible assumption) | (with_reducible refine Below.call ?_ ?_ (by with_reducible assumption)) | (with_reducible refine Below.alloc ?_ ?_ _) | (with_reducible refine Below.drew ?_) | (with_reducible refine below_drewN ?_ _) | (with_reducible refine Below.setCell ?_ ?_ _) | (with_reducible exact Nat.le_refl _) | omega | (simp only [World.size_alloc, World.size_setCell, World.size_drew, World.heap_drewN] at *; omega)))
theorem c_Chg_no (n : Nat) (a : Option Addr) (cap : Nat) (l : List Bd) (m : Bd) (w : World) (hc : l.length ≤ cap) (he : chErr n l = 0) (hno : okB n l = false) (hs : BdSlice w a l) :
    Calls Try.prog 37 #[.int .i64 n, .slice a l.length cap, .agg #[.int .i64 m.a, .int .i64 m.b, .int .i64 m.lo, .int .i64 m.hi]] w fun e w' => e = .returned (.tuple #[.slice none 0 0, .int .i64 10]) ∧ Below w.heap.size w w' := by
  have HT := Lib.hid (fun w1 hs1 => c_Tight_no n a cap l w1 hc he (bdOk_at he) (okB_no hno) hs1)
  clear he hno
  have hgen := sgen; have hgen2 := sgen2; have hgen3 := sgen3; go_enter Try.func37, Try.ntmps37
  go_wp2_with (go_at_call 28; (refine (HT.out _ (hs.below (Nat.le_refl _) (by (repeat' (first | (with_reducible exact Below.refl _ _) | (with_reducible assumption) | (with_reducible refine Below.call ?_ ?_ (by with_reducible assumption)) | (with_reducible refine Below.alloc ?_ ?_ _) | (with_reducible refine Below.drew ?_) | (with_reducible refine below_drewN ?_ _) | (with_reducible refine Below.setCell ?_ ?_ _) | (with_reducible exact Nat.le_refl _) | omega | (simp only [World.size_alloc, World.size_setCell, World.size_drew, World.heap_drewN] at *; omega)))))).mono ?_); rintro e w1 ⟨rfl, hb⟩; have hz := hb.size; (try simp only [World.size_alloc, World.size_setCell, World.size_drew, World.heap_drewN] at hz); (try have h_w_0 : w.heap.size < w1.heap.size := by omega); (try have e_w_0 : ¬ w.heap.size = w1.heap.size := by omega); (try have d_w_0 : ¬ w1.heap.size = w.heap.size := by omega); (try (refine bcUse (n := w.heap.size) hb ?_ ?_; (focus ((try simp only [World.size_alloc, World.size_setCell, World.size_drew, World.heap_drewN]); omega)); intro _ _)))
  go_ret2
  refine ⟨rfl, ?_⟩
  (repeat' (first | (with_reducible exact Below.refl _ _) | (with_reducible assumption) | (with_reducible refine Below.call ?_ ?_ (by with_reducible assumption)) | (with_reducible refine Below.alloc ?_ ?_ _) | (with_reducible refine Below.drew ?_) | (with_reducible refine below_drewN ?_ _) | (with_reducible refine Below.setCell ?_ ?_ _) | (with_reducible exact Nat.le_refl _) | omega | (simp only [World.size_alloc, World.size_setCell, World.size_drew, World.heap_drewN] at *; omega)))
theorem c_TightR1 (n : Nat) (a : Option Addr) (cap : Nat) (l : List Bd) (m : Bd) (w : World) (hc : l.length + 1 ≤ cap) (hs : BdSlice w a (l ++ [m])) :
    Calls Try.prog 28 #[.int .i64 n, .slice a (l.length + 1) cap] w (TigRes n (l ++ [m]) w) := by
  have h := c_TightR n a cap (l ++ [m]) w (by simpa using hc) hs
  rw [List.length_append] at h
  exact h
theorem own_more {w : World} {base g cap : Nat} {l : List Bd} {m : Bd} (h : w.ownsRow base 47 4 (.slice (some ⟨g, 0, none⟩) (l.length + 1) cap) (l.length + 1) (bdCells l ++ [.int .i64 m.a, .int .i64 m.b, .int .i64 m.lo, .int .i64 m.hi])) : l.length + 1 ≤ cap ∧ BdOwn w g (l ++ [m]) := by
  have h2 : w.ownsRow base 47 4 (.slice (some ⟨g, 0, none⟩) (l ++ [m]).length cap) (l ++ [m]).length (bdCells (l ++ [m])) := by
    rw [bdCells_append, List.length_append]; exact h
  obtain ⟨g', c', e, _, h3, _, h5⟩ := own_bd h2 (by simp)
  simp at e
  obtain ⟨rfl, rfl⟩ := e
  exact ⟨by simpa using h3, h5⟩
theorem grown_cell {w w' : World} {row : Option Nat} (hg : w.grownBy w' row) {b : Nat} (hb : b < w.heap.size) (hr : ∀ q, row = some q → b < q) : ∀ o, w'.cell? ⟨b, o, none⟩ = w.cell? ⟨b, o, none⟩ :=
  fun o => World.cell?_of_block (a := ⟨b, o, none⟩) (hg.block b hb (fun e => by have := hr b e.symm; omega))
set_option maxRecDepth 100000 in
set_option maxHeartbeats 4000000 in
theorem c_Chg_ok (n : Nat) (a : Option Addr) (cap : Nat) (l : List Bd) (m : Bd) (w : World) (hc : l.length ≤ cap) (he : chErr n l = 0) (hok : okB n l = true) (hs : BdSlice w a l) :
    Calls Try.prog 37 #[.int .i64 n, .slice a l.length cap, .agg #[.int .i64 m.a, .int .i64 m.b, .int .i64 m.lo, .int .i64 m.hi]] w (ChgRes n l m w) := by
  have h40 := (chErr_parts he).2.1
  have HT := Lib.hid (fun w1 hs1 => c_Tight_ok n a cap l w1 hc he (bdOk_at he) (okB_yes hok) hs1)
  have HCL := Lib.hid (fun w1 hs1 => c_CloneR a cap l w1 (by omega) hs1)
  have HTR := Lib.hid (fun w1 a2 c2 hc hs1 => c_TightR1 n a2 c2 l m w1 hc hs1)
  obtain ⟨i0, hi0, iz0, iz1, iz2⟩ := info_parts info_Bd
  obtain ⟨D, hD⟩ : ∃ D, fw l n = D := ⟨_, rfl⟩
  rw [hD] at HT
  have HD := Lib.hid hD
  clear he hok hD
  have hgen := sgen; have hgen2 := sgen2; have hgen3 := sgen3; go_enter Try.func37, Try.ntmps37
  go_upto_region 4 with (go_at_call 28; (refine (HT.out _ (hs.below (Nat.le_refl _) (by (repeat' (first | (with_reducible exact Below.refl _ _) | (with_reducible assumption) | (with_reducible refine Below.call ?_ ?_ (by with_reducible assumption)) | (with_reducible refine Below.alloc ?_ ?_ _) | (with_reducible refine Below.drew ?_) | (with_reducible refine below_drewN ?_ _) | (with_reducible refine Below.setCell ?_ ?_ _) | (with_reducible exact Nat.le_refl _) | omega | (simp only [World.size_alloc, World.size_setCell, World.size_drew, World.heap_drewN] at *; omega)))))).mono ?_); rintro e w1 ⟨a1, c1, rfl, hc1, hM, hb⟩; have hz := hb.size; (try simp only [World.size_alloc, World.size_setCell, World.size_drew, World.heap_drewN] at hz); (try have h_w_0 : w.heap.size < w1.heap.size := by omega); (try have e_w_0 : ¬ w.heap.size = w1.heap.size := by omega); (try have d_w_0 : ¬ w1.heap.size = w.heap.size := by omega); (try (refine bcUse (n := w.heap.size) hb ?_ ?_; (focus ((try simp only [World.size_alloc, World.size_setCell, World.size_drew, World.heap_drewN]); omega)); intro _ _)))
  have hbw1 : Below w.heap.size w w1 := by (repeat' (first | (with_reducible exact Below.refl _ _) | (with_reducible assumption) | (with_reducible refine Below.call ?_ ?_ (by with_reducible assumption)) | (with_reducible refine Below.alloc ?_ ?_ _) | (with_reducible refine Below.drew ?_) | (with_reducible refine below_drewN ?_ _) | (with_reducible refine Below.setCell ?_ ?_ _) | (with_reducible exact Nat.le_refl _) | omega | (simp only [World.size_alloc, World.size_setCell, World.size_drew, World.heap_drewN] at *; omega)))
  have hz1 := hbw1.size
  have hz1' : w.heap.size < w1.heap.size := by omega
  have HMM := Lib.hid hM
  clear hM
  go_cut [9, 10] (fun x9 x10 wc => ∃ x, x9 = .int .i64 x ∧ TigR n (l ++ [m]) x10 x wc ∧ SpMat wc a1 (tgt n D) ∧ Below w.heap.size w wc)
  case first =>
    go_wp2_with fail
    go_region_held3 (fun w' => w'.cell? ⟨w.heap.size, 0, none⟩ = some (.int .i64 m.a) ∧ w'.cell? ⟨w.heap.size, 1, none⟩ = some (.int .i64 m.b) ∧ w'.cell? ⟨w.heap.size, 2, none⟩ = some (.int .i64 m.lo) ∧ w'.cell? ⟨w.heap.size, 3, none⟩ = some (.int .i64 m.hi)) (refine ⟨?_, ?_, ?_, ?_⟩ <;> (first | (go_simp; done) | go_keep)) (first | (go_at_call 55; (refine (HCL.out _ (hs.below (Nat.le_refl _) (by (repeat' (first | (with_reducible exact Below.refl _ _) | (with_reducible assumption) | (with_reducible refine Below.call ?_ ?_ (by with_reducible assumption)) | (with_reducible refine Below.alloc ?_ ?_ _) | (with_reducible refine Below.drew ?_) | (with_reducible refine below_drewN ?_ _) | (with_reducible refine Below.setCell ?_ ?_ _) | (with_reducible exact Nat.le_refl _) | omega | (simp only [World.size_alloc, World.size_setCell, World.size_drew, World.heap_drewN] at *; omega)))))).mono ?_); rintro e w3 ⟨v3, rfl, ho3, hb⟩; have hz := hb.size; (try simp only [World.size_alloc, World.size_setCell, World.size_drew, World.heap_drewN] at hz); (try have h_w_0 : w.heap.size < w3.heap.size := by omega); (try have e_w_0 : ¬ w.heap.size = w3.heap.size := by omega); (try have d_w_0 : ¬ w3.heap.size = w.heap.size := by omega); (try (refine bcUse (n := w.heap.size) hb ?_ ?_; (focus ((try simp only [World.size_alloc, World.size_setCell, World.size_drew, World.heap_drewN]); omega)); intro _ _)); (try have h_w1_0 : w1.heap.size < w3.heap.size := by omega); (try have e_w1_0 : ¬ w1.heap.size = w3.heap.size := by omega); (try have d_w1_0 : ¬ w3.heap.size = w1.heap.size := by omega); (try (refine bcUse (n := w1.heap.size) hb ?_ ?_; (focus ((try simp only [World.size_alloc, World.size_setCell, World.size_drew, World.heap_drewN]); omega)); intro _ _))) | (have ho3b := own_base (base' := w1.heap.size) ho3 (by (try simp); try omega); refine step_append_lies _ (by rfl) _ _ _ (by rfl) w1.heap.size 47 i0 _ 4 32 Try.underlying41 hi0 iz0 iz1 iz2 rfl (by omega) v3 l.length _ (by rfl) (ho3b.alloc _) ⟨w3.heap.size, 0, none⟩ 1 1 [.int .i64 m.a, .int .i64 m.b, .int .i64 m.lo, .int .i64 m.hi] (by rfl) (by rfl) (World.news_of_block (cs := #[.int .i64 m.a, .int .i64 m.b, .int .i64 m.lo, .int .i64 m.hi]) (t := 47) (fr := (0, 0)) (heap_alloc_new w3 _)) (by simp [Value.oneCell']) (by omega) (by unfold maxLen; omega) (by omega) (by (try simp); omega) (w3.heap.size + 1) (by simp) ?_; (intro gg cap4 w4 hown4 hgrow4 _ hlt4; have hb4 : Below w1.heap.size w1 w4 := Below.grown (by (repeat' (first | (with_reducible exact Below.refl _ _) | (with_reducible assumption) | (with_reducible refine Below.call ?_ ?_ (by with_reducible assumption)) | (with_reducible refine Below.alloc ?_ ?_ _) | (with_reducible refine Below.drew ?_) | (with_reducible refine below_drewN ?_ _) | (with_reducible refine Below.setCell ?_ ?_ _) | (with_reducible exact Nat.le_refl _) | omega | (simp only [World.size_alloc, World.size_setCell, World.size_drew, World.heap_drewN] at *; omega)))) hgrow4 (by (try simp); omega) (fun q hq => (ho3b.lt q hq).1); have hz4 := hb4.size; have hw4 : w.heap.size < w4.heap.size := (by omega); have kk4 := grown_cell hgrow4 (b := w.heap.size) (by (try simp); omega) (fun q hq => by have := (ho3b.lt q hq).1; omega); have OM := Lib.hid (own_more hown4); clear hown4 hgrow4)) | (have ho3b := own_base (base' := w1.heap.size) ho3 (by (try simp); try omega); have HNB : Hid (w3.heap[w1.heap.size]? = some (.cells #[.int .i64 m.a, .int .i64 m.b, .int .i64 m.lo, .int .i64 m.hi] 47 (0, 0))) := Lib.hid ((hb.block w1.heap.size (by simp)).trans (heap_alloc_new w1 _)); refine step_append_lies _ (by rfl) _ _ _ (by rfl) w1.heap.size 47 i0 _ 4 32 Try.underlying41 hi0 iz0 iz1 iz2 rfl (by omega) v3 l.length _ (by rfl) ho3b ⟨w1.heap.size, 0, none⟩ 1 1 [.int .i64 m.a, .int .i64 m.b, .int .i64 m.lo, .int .i64 m.hi] (by rfl) (by rfl) (World.news_of_block (cs := #[.int .i64 m.a, .int .i64 m.b, .int .i64 m.lo, .int .i64 m.hi]) (t := 47) (fr := (0, 0)) HNB.out) (by simp [Value.oneCell']) (by omega) (by unfold maxLen; omega) (by omega) (by (try simp); omega) (w3.heap.size) (by simp) ?_; (intro gg cap4 w4 hown4 hgrow4 _ hlt4; have hb4 : Below w1.heap.size w1 w4 := Below.grown (by (repeat' (first | (with_reducible exact Below.refl _ _) | (with_reducible assumption) | (with_reducible refine Below.call ?_ ?_ (by with_reducible assumption)) | (with_reducible refine Below.alloc ?_ ?_ _) | (with_reducible refine Below.drew ?_) | (with_reducible refine below_drewN ?_ _) | (with_reducible refine Below.setCell ?_ ?_ _) | (with_reducible exact Nat.le_refl _) | omega | (simp only [World.size_alloc, World.size_setCell, World.size_drew, World.heap_drewN] at *; omega)))) hgrow4 (by (try simp); omega) (fun q hq => (ho3b.lt q hq).1); have hz4 := hb4.size; have hw4 : w.heap.size < w4.heap.size := (by omega); have kk4 := grown_cell hgrow4 (b := w.heap.size) (by (try simp); omega) (fun q hq => by have := (ho3b.lt q hq).1; omega); have OM := Lib.hid (own_more hown4); clear hown4 hgrow4)) | (go_at_call 28; (refine (HTR.out _ _ _ OM.out.1 OM.out.2.slice).mono ?_); rintro e w5 ⟨v5, x5, rfl, hR5, hb⟩; have hz := hb.size; (try simp only [World.size_alloc, World.size_setCell, World.size_drew, World.heap_drewN] at hz); (try have h_w_0 : w.heap.size < w5.heap.size := by omega); (try have e_w_0 : ¬ w.heap.size = w5.heap.size := by omega); (try have d_w_0 : ¬ w5.heap.size = w.heap.size := by omega); (try (refine bcUse (n := w.heap.size) hb ?_ ?_; (focus ((try simp only [World.size_alloc, World.size_setCell, World.size_drew, World.heap_drewN]); omega)); intro _ _)); (try have h_w1_0 : w1.heap.size < w5.heap.size := by omega); (try have e_w1_0 : ¬ w1.heap.size = w5.heap.size := by omega); (try have d_w1_0 : ¬ w5.heap.size = w1.heap.size := by omega); (try (refine bcUse (n := w1.heap.size) hb ?_ ?_; (focus ((try simp only [World.size_alloc, World.size_setCell, World.size_drew, World.heap_drewN]); omega)); intro _ _))))
    all_goals go_wp2_with fail
    all_goals go_meet
    all_goals refine ⟨_, rfl, hR5, HMM.out.below (Nat.le_refl _) (by (repeat' (first | (with_reducible exact Below.refl _ _) | (with_reducible assumption) | (with_reducible refine Below.call ?_ ?_ (by with_reducible assumption)) | (with_reducible refine Below.alloc ?_ ?_ _) | (with_reducible refine Below.drew ?_) | (with_reducible refine below_drewN ?_ _) | (with_reducible refine Below.setCell ?_ ?_ _) | (with_reducible exact Nat.le_refl _) | omega | (simp only [World.size_alloc, World.size_setCell, World.size_drew, World.heap_drewN] at *; omega)))), by (repeat' (first | (with_reducible exact Below.refl _ _) | (with_reducible assumption) | (with_reducible refine Below.call ?_ ?_ (by with_reducible assumption)) | (with_reducible refine Below.alloc ?_ ?_ _) | (with_reducible refine Below.drew ?_) | (with_reducible refine below_drewN ?_ _) | (with_reducible refine Below.setCell ?_ ?_ _) | (with_reducible exact Nat.le_refl _) | omega | (simp only [World.size_alloc, World.size_setCell, World.size_drew, World.heap_drewN] at *; omega)))⟩
  case rest =>
    clear HMM HT HCL HTR
    obtain ⟨x, rfl, hR, hM, hbc⟩ := hcut
    rcases hR with ⟨he2, rfl, hx⟩ | ⟨he2, hk2, rfl, hx⟩ | ⟨he2, hk2, a2, c2, rfl, rfl, hc2, hM2⟩
    · have h1 : (x != 0) = true := by rw [hx]; simp [he2]
      have HX := Lib.hid hx
      clear hx
      go_wp2_with fail
      go_ret2
      exact ⟨_, x, rfl, .inl ⟨he2, rfl, HX.out⟩, hbc⟩
    · subst hx
      go_wp2_with fail
      go_ret2
      exact ⟨_, 10, rfl, .inr (.inl ⟨he2, hk2, rfl, rfl⟩), hbc⟩
    · have hv2 := bdOk_at he2
      have n12 := hv2.n12
      have HE2 := Lib.hid he2; have HK2 := Lib.hid hk2
      have HDD := Lib.hid (show fw (l ++ [m]) n = fw (l ++ [m]) n from rfl)
      have HM1 := Lib.hid hM; have HM2 := Lib.hid hM2
      have HBC := Lib.hid hbc
      have hzc := hbc.size
      obtain ⟨j0, hj0, jz0, jz1, jz2⟩ := info_parts info_pair
      obtain ⟨E, hE⟩ : ∃ E, fw (l ++ [m]) n = E := ⟨_, rfl⟩
      rw [hE] at HM2
      have HE := Lib.hid hE
      have n12z : (n : Int) ≤ 12 := by omega
      clear hv2 he2 hk2 hM hM2 hbc hE HDD
      obtain ⟨wb, rfl⟩ : ∃ wb : World, wb = wc := ⟨_, rfl⟩
      go_wp2_with fail
      go_loopg [11, 37] n (fun gk x11 j wr => ∃ i : Nat, i ≤ n ∧ gk = n - i ∧ j = .int .i64 i ∧ wr.ownsRow wb.heap.size 65 2 x11 (ps (chg D E) n i).length (prCells (ps (chg D E) n i)) ∧ Below wb.heap.size wb wr)
      case atStart => exact ⟨0, Nat.zero_le _, rfl, rfl, World.ownsRow_nil _ _ _ _, Below.refl _ _⟩
      case round =>
        obtain ⟨i, hi, rfl, rfl, hown, hbel⟩ := hrel
        have hsz := hbel.size
        by_cases hin : i < n
        · have hiz : (i : Int) < (n : Int) := by omega
          have r1 : IntKind.i64.wrap ((i : Int) + 1) = (i : Int) + 1 := IntWalk.i64_in _ (by omega)
          have HO := Lib.hid hown
          clear hown
          go_wp2_with fail
          go_loopg [11, 13] (n - (i + 1)) (fun gk x11 j wr => ∃ j' : Nat, i + 1 ≤ j' ∧ j' ≤ n ∧ gk = n - j' ∧ j = .int .i64 j' ∧ wr.ownsRow wb.heap.size 65 2 x11 (ps (chg D E) n i ++ rp (chg D E) i j').length (prCells (ps (chg D E) n i ++ rp (chg D E) i j')) ∧ Below wb.heap.size wb wr)
          case atStart => exact ⟨i + 1, Nat.le_refl _, by omega, rfl, by go_num, by rw [rp_nil _ _ _ (Nat.le_refl _), List.append_nil]; exact HO.out, hbel⟩
          case round =>
            clear HO hbel hsz
            obtain ⟨j, hij, hjn, rfl, rfl, hown, hbel⟩ := hrel
            have hsz := hbel.size
            have HO := Lib.hid hown
            clear hown
            by_cases hjl : j < n
            · have hjz : (j : Int) < (n : Int) := by omega
              have r2 : IntKind.i64.wrap ((j : Int) + 1) = (j : Int) + 1 := IntWalk.i64_in _ (by omega)
              obtain ⟨bk, ok, rk, ck, hak, hbk2, hck, hrk, hsk⟩ := (HM1.out.below (Nat.le_refl _) hbel) i (by simpa [tgt] using hin)
              have hrowk : (tgt n D)[i]'(by simpa [tgt] using hin) = rowT n D i := by simp [tgt]
              rw [hrowk, rowT_length] at hck hrk
              rw [hrowk] at hsk
              obtain ⟨be, oe, re, ce, hae, hbe2, hce, hre, hse⟩ := (HM2.out.below (Nat.le_refl _) hbel) i (by simpa [tgt] using hin)
              have hrowe : (tgt n E)[i]'(by simpa [tgt] using hin) = rowT n E i := by simp [tgt]
              rw [hrowe, rowT_length] at hce hre
              rw [hrowe] at hse
              have ixK := @ix_Row a1 bk ok n c1 i hak hin
              have ixE := @ix_Row a2 be oe n c2 i hae hin
              obtain ⟨b1, o1, h1, hb1, d1, d2⟩ := hsk j (by rw [rowT_length]; exact hjl)
              have ix1 := @ix_SpE rk b1 o1 n ck j h1 hjl
              obtain ⟨b2, o2, h2, hb2, d3, d4⟩ := hse j (by rw [rowT_length]; exact hjl)
              have ix2 := @ix_SpE re b2 o2 n ce j h2 hjl
              rw [rowT_get] at d1 d2 d3 d4
              simp only at d1 d2 d3 d4
              clear hak hae h1 h2 hsk hse hrowk hrowe
              go_upto_region 14 with fail
              go_cut [61] (fun x61 wq => x61 = .bool (chg D E i j) ∧ Below wr.heap.size wr wq)
              case first =>
                have HCH := Lib.hid (show chg D E i j = ((-(D j i) != -(E j i)) || (D i j != E i j)) from rfl)
                have hx1 : ((-(D j i) != -(E j i)) = true ∧ (-(D j i) == -(E j i)) = false ∧ (D j i != E j i) = true ∧ (D j i == E j i) = false) ∨ ((-(D j i) != -(E j i)) = false ∧ (-(D j i) == -(E j i)) = true ∧ (D j i != E j i) = false ∧ (D j i == E j i) = true) := by
                  by_cases q : D j i = E j i
                  · right; rw [q]; simp
                  · left; simp [q]
                have hx2 : ((D i j != E i j) = true ∧ (D i j == E i j) = false) ∨ ((D i j != E i j) = false ∧ (D i j == E i j) = true) := by
                  by_cases q : D i j = E i j
                  · right; rw [q]; simp
                  · left; simp [q]
                rcases hx1 with ⟨t1, t3, t4, t5⟩ | ⟨t1, t3, t4, t5⟩ <;> rcases hx2 with ⟨t2, t6⟩ | ⟨t2, t6⟩ <;> rw [t1, t2] at HCH
                all_goals
                  go_wp2_with fail
                  go_quiet (fail)
                  go_wp2_with fail
                  go_meet
                  exact ⟨by rw [HCH.out]; rfl, below_drewN (Below.refl _ _) _⟩
              case rest =>
                obtain ⟨rfl, hbq⟩ := hcut
                have hzq := hbq.size
                have hbwq : Below wb.heap.size wb wc := hbel.trans (hbq.mono hsz)
                have HOq := Lib.hid (own_below HO.out hbq)
                have hl1 := ps_len (chg D E) n i
                have hl2 := rp_len (chg D E) i j
                have hl3 : (ps (chg D E) n i ++ rp (chg D E) i j).length ≤ 200 := by
                  rw [List.length_append]
                  have : i * n ≤ 12 * 12 := Nat.mul_le_mul (by omega) n12
                  omega
                clear ixK ixE ix1 ix2 d1 d2 d3 d4 hck hce hl1 hl2
                obtain ⟨r, hr⟩ : ∃ r, chg D E i j = r := ⟨_, rfl⟩
                rw [hr]
                cases r
                · have e := rp_no (c := chg D E) (i := i) (j := j) hr
                  have HEe := Lib.hid e
                  clear e hr
                  go_wp2_with fail
                  go_roundg (n - (j + 1))
                  case measure => go_light; omega
                  case rel => exact ⟨j + 1, by omega, by omega, rfl, by go_num, by rw [HEe.out]; exact HOq.out, hbwq⟩
                · have e := rp_yes (c := chg D E) (i := i) (j := j) (by omega) hr
                  have HEe := Lib.hid e
                  clear e hr
                  go_wp2_with (at_builtin; refine wpList_append_own _ rfl (.tmp 62) (.tmp 66) 62 rfl wb.heap.size 65 j0 (.agg #[.int .i64 0, .int .i64 0]) 2 16 Try.underlying62 hj0 jz0 jz1 jz2 rfl (by decide) _ (ps (chg D E) n i ++ rp (chg D E) i j).length _ rfl (HOq.out.alloc _) ⟨wc.heap.size, 0, none⟩ 1 1 [.int .i64 i, .int .i64 j] rfl rfl ?_ ?_ ?_ ?_ ?_ ?_)
                  any_goals first | (unfold maxLen; omega) | omega | exact ⟨rfl, rfl⟩ | (intro u hu; simp at hu; rcases hu with rfl | rfl <;> rfl) | (simp; omega) | (intro j u hj; match j, hj with | 0, hj => (simp at hj; subst hj; simp only [Addr.add]; go_simp) | 1, hj => (simp at hj; subst hj; simp only [Addr.add]; go_simp))
                  intro v' w6 hown' hgrow _
                  have hb6 : Below wb.heap.size wb w6 := by
                    refine Below.grown (hbwq.alloc (by omega) _) hgrow (by simp; omega) ?_
                    intro q hq
                    exact (HOq.out.lt q hq).1
                  have HO6 : Hid (w6.ownsRow wb.heap.size 65 2 v' (ps (chg D E) n i ++ rp (chg D E) i (j + 1)).length (prCells (ps (chg D E) n i ++ rp (chg D E) i (j + 1)))) := Lib.hid (by
                    rw [HEe.out, ← List.append_assoc]
                    simp only [List.length_append, List.length_cons, List.length_nil, prCells, List.flatMap_append] at hown' ⊢
                    exact hown')
                  clear hgrow hown'
                  go_wp2_with fail
                  go_roundg (n - (j + 1))
                  case measure => go_light; omega
                  case rel => exact ⟨j + 1, by omega, by omega, rfl, by go_num, HO6.out, hb6⟩
            · obtain rfl : j = n := by omega
              go_wp2_with fail
              go_roundg (j - (i + 1))
              case measure => go_light; omega
              case rel => exact ⟨i + 1, by omega, rfl, by go_num, HO.out, hbel⟩
        · obtain rfl : i = n := by omega
          have HO := Lib.hid hown
          clear hown
          go_wp2_with fail
          go_ret2
          refine ⟨_, 0, rfl, .inr (.inr ⟨HE2.out, HK2.out, rfl, ?_⟩), HBC.out.trans (hbel.mono hzc)⟩
          rw [HD.out, HE.out]
          exact own_base HO.out hzc
end Go.Proofs.Ytdpddidfdifbhaa
