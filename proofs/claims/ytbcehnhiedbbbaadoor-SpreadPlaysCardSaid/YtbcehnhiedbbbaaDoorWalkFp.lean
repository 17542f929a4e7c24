/- The contract of figure.point. -/
import Derived.Test.YtbcehnhiedbbbaaDoorWalkFr
import Derived.Test.YtbcehnhiedbbbaaDoorWalkFbx
import Derived.Test.YtbcehnhiedbbbaaDoorFgQ
set_option linter.unusedVariables false
set_option linter.unusedSimpArgs false
namespace Go.Proofs.YtbcehnhiedbbbaaDoor
open Go.RowKit
def TxSlice (w : World) (a : Option Addr) (l : List (List UInt8)) : Prop := ∀ k (h : k < l.length), ∃ b off, a = some ⟨b, off, none⟩ ∧ b < w.heap.size ∧ w.cell? ⟨b, off + k, none⟩ = some (.string (strB l[k]))
theorem TxSlice.below {B : Nat} {w w' : World} {a : Option Addr} {l : List (List UInt8)} (h : TxSlice w a l) (hs : w.heap.size ≤ B) (hb : Below B w w') : TxSlice w' a l := by
  intro k hk
  obtain ⟨b, off, h1, h2, c0⟩ := h k hk
  exact ⟨b, off, h1, Nat.lt_of_lt_of_le h2 hb.size, (hb.cell (p := ⟨b, _, none⟩) (Nat.lt_of_lt_of_le h2 hs)).trans c0⟩
theorem ix_Tx {a : Option Addr} {b off len cap k : Nat} (ha : a = some ⟨b, off, none⟩) (hk : k < len) : ∀ w, (Instr.indexAt 107 (.slice a len cap) (.int .i64 k)).run Tryd.prog w = .ok (.pointer (some ⟨b, off + k, none⟩)) w := by
  intro w
  subst ha
  have h1 : (k : Int) < (len : Int) := by omega
  go_simp
theorem c_point_len (a : Option Addr) (cap : Nat) (n : Nat) (w : World) (hn : n ≠ 2) :
    Calls Tryd.prog 57 #[.slice a n cap] w fun e w' => e = .returned (.tuple #[.agg #[.int .i64 0, .int .i64 0, .int .i64 0, .int .i64 0], .bool false]) ∧ Below w.heap.size w w' := by
  have g : ((n : Int) == 2) = false := by simp; omega
  have g2 : ((n : Int) != 2) = true := by simp; omega
  have hgen := sgen; have hgen2 := sgen2; have hgen3 := sgen3; go_enter Tryd.func57, Tryd.ntmps57
  go_wp2
  refine bodyPost_ret (v := .tuple #[.agg #[.int .i64 0, .int .i64 0, .int .i64 0, .int .i64 0], .bool false]) (by simp only [results, Tryd.results57]; go_simp) rfl ⟨rfl, ?_⟩
  exact belz
/-- What frac.Read answers. -/
noncomputable def frA (w : List UInt8) : Int × Int × Int := match frR w with
  | some p => (p.1, p.2, 0)
  | none => (0, 0, 4)
theorem c_frRead (s : List UInt8) (w : World) (hT : NTab w) (hE : NEr w) (hs : s.length ≤ 16000) :
    Calls Tryd.prog 73 #[.string (strB s)] w fun e w' => e = .returned (.tuple #[.agg #[.int .i64 (frA s).1, .int .i64 (frA s).2.1], .int .i64 (frA s).2.2]) ∧ Below w.heap.size w w' := by
  unfold frA
  cases h : frR s with
  | none => exact c_frRead_no s w hT hE hs h
  | some p =>
    obtain ⟨n, d⟩ := p
    obtain ⟨h1, h2⟩ := frR_some h
    have := c_frRead_ok n d w hT h1
    rw [h2] at this
    exact this
set_option maxHeartbeats 2000000 in
theorem c_point_two (a : Option Addr) (cap : Nat) (x y : List UInt8) (w : World) (hT : NTab w) (hE : NEr w) (hx : x.length ≤ 16000) (hy : y.length ≤ 16000) (h : TxSlice w a [x, y]) (hcap : 2 ≤ cap) :
    Calls Tryd.prog 57 #[.slice a 2 cap] w fun e w' => e = .returned (.tuple #[.agg #[.int .i64 (frA x).1, .int .i64 (frA x).2.1, .int .i64 (frA y).1, .int .i64 (frA y).2.1], .bool ((frA x).2.2 == 0 && (frA y).2.2 == 0)]) ∧ Below w.heap.size w w' := by
  obtain ⟨b, off, ha, hb, c0⟩ := h 0 (by simp)
  obtain ⟨b', off', ha', hb', c1⟩ := h 1 (by simp)
  rw [ha] at ha'
  injection ha' with ha'
  injection ha' with q1 q2
  subst q1 q2
  have ix0 := @ix_Tx a b off 2 cap 0 ha (by omega)
  have ix1 := @ix_Tx a b off 2 cap 1 ha (by omega)
  have i0 : ∀ w, (Instr.indexAt 107 (.slice a 2 cap) (.int .i64 0)).run Tryd.prog w = .ok (.pointer (some ⟨b, off, none⟩)) w := ix0
  have i1 : ∀ w, (Instr.indexAt 107 (.slice a 2 cap) (.int .i64 1)).run Tryd.prog w = .ok (.pointer (some ⟨b, off + 1, none⟩)) w := ix1
  have d0 : w.cell? ⟨b, off, none⟩ = some (.string (strB x)) := c0
  have d1 : w.cell? ⟨b, off + 1, none⟩ = some (.string (strB y)) := c1
  have HA := Lib.hid (fun w1 h1 h2 => c_frRead x w1 h1 h2 hx)
  have HB := Lib.hid (fun w1 h1 h2 => c_frRead y w1 h1 h2 hy)
  have HT := Lib.hid hT
  have HE := Lib.hid hE
  clear ix0 ix1 c0 c1 h ha hT hE hb' hx hy
  generalize frA x = X at *
  generalize frA y = Y at *
  obtain ⟨x0, x1, x2⟩ := X
  obtain ⟨y0, y1, y2⟩ := Y
  dsimp only at *
  by_cases q : x2 = 0
  · have e : (x2 == 0 && y2 == 0) = (y2 == 0) := by rw [q]; rfl
    rw [e]
    subst q
    have hgen := sgen; have hgen2 := sgen2; have hgen3 := sgen3; go_enter Tryd.func57, Tryd.ntmps57
    go_wp2_with (first | (go_at_call 73; (with_reducible refine (HA.out _ (HT.out.below (by exact belz)) (HE.out.below (by exact belz))).mono ?_); rintro e w1 ⟨rfl, hb⟩; have hz := hb.size; (try simp only [szA, szS, szD, szN] at hz); (try (refine bcB (n := w.heap.size) hb ?_; intro h_w_0 e_w_0 d_w_0 _ _)); (try (refine bcB (n := b) hb ?_; intro h_bb_0 e_bb_0 d_bb_0 _ _))) | (go_at_call 73; (with_reducible refine (HB.out _ (HT.out.below (by exact belz)) (HE.out.below (by exact belz))).mono ?_); rintro e w2 ⟨rfl, hb⟩; have hz := hb.size; (try simp only [szA, szS, szD, szN] at hz); (try (refine bcB (n := w.heap.size) hb ?_; intro h_w_0 e_w_0 d_w_0 _ _)); (try (refine bcB (n := b) hb ?_; intro h_bb_0 e_bb_0 d_bb_0 _ _)); (try (refine bcB (n := w1.heap.size) hb ?_; intro h_w1_0 e_w1_0 d_w1_0 _ _))))
    refine bodyPost_ret (v := .tuple #[.agg #[.int .i64 x0, .int .i64 x1, .int .i64 y0, .int .i64 y1], .bool (y2 == 0)]) (by simp only [results, Tryd.results57]; go_simp) rfl ⟨rfl, ?_⟩
    exact belz
  · have g : (x2 == 0) = false := by simpa using q
    have e : (x2 == 0 && y2 == 0) = false := by rw [g]; rfl
    rw [e]
    clear e q
    have hgen := sgen; have hgen2 := sgen2; have hgen3 := sgen3; go_enter Tryd.func57, Tryd.ntmps57
    go_wp2_with (first | (go_at_call 73; (with_reducible refine (HA.out _ (HT.out.below (by exact belz)) (HE.out.below (by exact belz))).mono ?_); rintro e w1 ⟨rfl, hb⟩; have hz := hb.size; (try simp only [szA, szS, szD, szN] at hz); (try (refine bcB (n := w.heap.size) hb ?_; intro h_w_0 e_w_0 d_w_0 _ _)); (try (refine bcB (n := b) hb ?_; intro h_bb_0 e_bb_0 d_bb_0 _ _))) | (go_at_call 73; (with_reducible refine (HB.out _ (HT.out.below (by exact belz)) (HE.out.below (by exact belz))).mono ?_); rintro e w2 ⟨rfl, hb⟩; have hz := hb.size; (try simp only [szA, szS, szD, szN] at hz); (try (refine bcB (n := w.heap.size) hb ?_; intro h_w_0 e_w_0 d_w_0 _ _)); (try (refine bcB (n := b) hb ?_; intro h_bb_0 e_bb_0 d_bb_0 _ _)); (try (refine bcB (n := w1.heap.size) hb ?_; intro h_w1_0 e_w1_0 d_w1_0 _ _))))
    refine bodyPost_ret (v := .tuple #[.agg #[.int .i64 x0, .int .i64 x1, .int .i64 y0, .int .i64 y1], .bool false]) (by simp only [results, Tryd.results57]; go_simp) rfl ⟨rfl, ?_⟩
    exact belz
/-- What figure.point answers of words that a line holds. -/
theorem c_point (a : Option Addr) (cap : Nat) (ws : List (List UInt8)) (w : World) (hT : NTab w) (hE : NEr w) (hl : ∀ x ∈ ws, x.length ≤ 16000) (h : TxSlice w a ws) (hcap : ws.length ≤ cap) :
    Calls Tryd.prog 57 #[.slice a ws.length cap] w fun e w' => ∃ (p : Fp) (b : Bool), e = .returned (.tuple #[.agg #[.int .i64 p.xn, .int .i64 p.xd, .int .i64 p.yn, .int .i64 p.yd], .bool b]) ∧ ptR ws = (if b then some p else none) ∧ Below w.heap.size w w' := by
  match ws, hl, h, hcap with
  | [x, y], hl, h, hcap =>
    refine (c_point_two a cap x y w hT hE (hl x (by simp)) (hl y (by simp)) h hcap).mono ?_
    rintro e w' ⟨h1, h2⟩
    refine ⟨⟨_, _, _, _⟩, _, h1, ?_, h2⟩
    unfold ptR frA
    cases hx : frR x <;> cases hy : frR y <;> simp [hx, hy]
  | [], _, _, _ => exact (c_point_len a cap 0 w (by decide)).mono fun e w' ⟨h1, h2⟩ => ⟨⟨0, 0, 0, 0⟩, false, h1, rfl, h2⟩
  | [x], _, _, _ => exact (c_point_len a cap 1 w (by decide)).mono fun e w' ⟨h1, h2⟩ => ⟨⟨0, 0, 0, 0⟩, false, h1, rfl, h2⟩
  | x :: y :: z :: r, _, _, _ => exact (c_point_len a cap _ w (by simp)).mono fun e w' ⟨h1, h2⟩ => ⟨⟨0, 0, 0, 0⟩, false, h1, rfl, h2⟩
end Go.Proofs.YtbcehnhiedbbbaaDoor
