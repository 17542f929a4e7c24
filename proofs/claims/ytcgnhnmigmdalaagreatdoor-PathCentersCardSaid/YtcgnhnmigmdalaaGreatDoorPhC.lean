/- What a slice that the call has made is good for: small laws beside the library's. Where element k of a slice of api.PathPoint lies. The contract of path.Center: what it answers at any instant. The contract of path.Track. pathWorks; the walk through the law PathTracks. -/
import Derived.WalkKit
import Derived.Test.YtcgnhnmigmdalaaGreatDoorProg
import Derived.Test.YtcgnhnmigmdalaaGreatDoorWalkPath5
import Derived.Test.YtcgnhnmigmdalaaGreatDoorLkB
import Derived.Test.YtcgnhnmigmdalaaGreatDoorEcB
import Derived.Deep.CutBlock
import Derived.Test.YtcgnhnmigmdalaaGreatDoorPhA
import Derived.BigQuiet
set_option linter.unusedVariables false
set_option linter.unusedSimpArgs false
namespace Go.Proofs.YtcgnhnmigmdalaaGreatDoor
section
open Go.RowKit
theorem own_below {w w' : World} {base : Nat} {e : TypeId} {size : Nat} {v : Value} {n : Nat} {xs : List Value} (h : w.ownsRow base e size v n xs) (hb : Below w.heap.size w w') : w'.ownsRow base e size v n xs := by
  refine ⟨h.1, ?_⟩
  rcases h.2 with h2 | ⟨g, cap, cur, hv, hg, hh, r⟩
  · exact .inl h2
  · exact .inr ⟨g, cap, cur, hv, hg, by rw [hb.block g (Array.getElem?_eq_some_iff.1 hh).1]; exact hh, r⟩
theorem own_form {w : World} {base : Nat} {e : TypeId} {size : Nat} {v : Value} {n : Nat} {xs : List Value} (h : w.ownsRow base e size v n xs) :
    (v = .slice none 0 0 ∧ n = 0) ∨ ∃ g cap, v = .slice (some ⟨g, 0, none⟩) n cap ∧ n ≤ cap ∧ cap ≤ maxLen ∧ base ≤ g ∧ g < w.heap.size ∧ (∀ j, j < n * size → w.cell? ⟨g, j, none⟩ = xs[j]?) ∧ ∀ j, w.frozen? ⟨g, j, none⟩ = false := by
  have h0 := h
  rcases h.2 with h2 | ⟨g, cap, cur, hv, hg, hh, r1, r2, r3, r4⟩
  · exact .inl h2
  · subst hv
    refine .inr ⟨g, cap, rfl, r1, r2, hg, (Array.getElem?_eq_some_iff.1 hh).1, fun j hj => h0.cellAt j hj, fun j => ?_⟩
    unfold World.frozen?
    simp [hh]
end
section
open Go.RowKit
theorem ix_Pt {a : Option Addr} {b off len cap k : Nat} (ha : a = some ⟨b, off, none⟩) (hk : k < len) : ∀ w, (Instr.indexAt 57 (.slice a len cap) (.int .i64 k)).run Tryz.prog w = .ok (.pointer (some ⟨b, off + k * 5, none⟩)) w := by
  intro w
  subst ha
  have h1 : (k : Int) < (len : Int) := by omega
  go_simp
end
section
set_option maxRecDepth 100000
open Go.RowKit
/-- The longitude's interval. -/
def pA0 (t : Int) : Int := arcLo (p2Lo t) (p2Hi t) (p1Lo t) (p1Hi t)
def pA1 (t : Int) : Int := arcHi (p2Lo t) (p2Hi t) (p1Lo t) (p1Hi t)
def ctrLo (t : Int) : Int := (pA0 t % 1000000000 - sidHi 0 t) % 1000000000
def ctrHi (t : Int) : Int := ctrLo t + (pA0 t % 1000000000 + pA1 t - pA0 t - sidLo 0 t) - (pA0 t % 1000000000 - sidHi 0 t)
def cE (t : Int) : Int := if instB t = true then pErr t else 3
def cV0 (t : Int) : Int := if cE t = 0 then t else 0
def cV1 (t : Int) : Int := if cE t = 0 then ctrLo t else 0
def cV2 (t : Int) : Int := if cE t = 0 then ctrHi t else 0
def cV3 (t : Int) : Int := if cE t = 0 then asLo (p3Lo t) else 0
def cV4 (t : Int) : Int := if cE t = 0 then asHi (p3Hi t) else 0
theorem px_wide {t : Int} (h : ¬ pFar t) : (-2100000000 ≤ pxLo t ∧ pxHi t ≤ 2100000000) ∧ (-2100000000 ≤ pyLo t ∧ pyHi t ≤ 2100000000) ∧ pxLo t ≤ pxHi t ∧ pyLo t ≤ pyHi t := by
  obtain ⟨o1, o2, o3, o4, o5⟩ := px_le t
  obtain ⟨a, b, c, d, e⟩ := north_facts t
  unfold pFar at h
  unfold pyLo pyHi at *
  omega
def CtrP (t x r0 r1 r2 r3 r4 : Int) : Prop := ∀ w : World, Tab w → Calls Tryz.prog 24 #[.int .i64 t] w fun e w' => e = .returned (.tuple #[.agg #[.int .i64 r0, .int .i64 r1, .int .i64 r2, .int .i64 r3, .int .i64 r4], .int .i64 x]) ∧ Below w.heap.size w w'
theorem ctr_in {t : Int} (ht : instB t = true) : (pErr t ≠ 0 → CtrP t (pErr t) 0 0 0 0 0) ∧ (pErr t = 0 → CtrP t 0 t (ctrLo t) (ctrHi t) (asLo (p3Lo t)) (asHi (p3Hi t))) := by
  obtain ⟨i1, i2⟩ := inst_bd ht
  have hI : ∀ w1 : World, Calls Tryz.prog 54 #[.int .i64 t] w1 fun e w' => e = .returned (.bool true) ∧ Below w1.heap.size w1 w' := fun w1 => by
    have := c_isInst t w1 (by omega) (by omega)
    rw [ht] at this; exact this
  have hO : ∀ w1 : World, Tab w1 → _ := fun w1 h1 => c_offsets t w1 h1 ht
  by_cases hf : pFar t
  · have e : pErr t = 6 := by unfold pErr; rw [if_pos hf]
    rw [e]
    exact ⟨fun _ w hT => c_Ctr_far w hI hO hT hf, fun h => absurd h (by decide)⟩
  obtain ⟨⟨a1, a2⟩, ⟨a3, a4⟩, o1, o2⟩ := px_wide hf
  have sx := psq_le o1 (by omega) (by omega)
  have sy := psq_le o2 (by omega) (by omega)
  have nx := sqLo_nn o1
  have ny := sqLo_nn o2
  have hN : PaA t (pxLo t) (pxHi t) (pyLo t) (pyHi t) (sqLo (pxLo t) (pxHi t)) (sqHi (pxLo t) (pxHi t)) (sqLo (pyLo t) (pyHi t)) (sqHi (pyLo t) (pyHi t)) (psLo t) (psHi t) :=
    ⟨hI, hO, fun w1 => c_square _ _ w1 (by omega) (by omega) (by omega) (by omega), fun w1 => c_square _ _ w1 (by omega) (by omega) (by omega) (by omega), fun w1 => c_PlusW _ _ _ _ w1 (by omega) (by omega) (by omega) (by omega) (by omega) (by omega) (by omega) (by omega)⟩
  have hf' := hf
  unfold pFar at hf'
  by_cases h1 : 1000000000 < psLo t
  · have e : pErr t = 6 := by unfold pErr; rw [if_neg hf, if_pos h1]
    rw [e]
    exact ⟨fun _ w hT => c_Ctr_sum w hN hT (by omega) (by omega) (by omega) (by omega) (.inl ⟨h1, rfl⟩), fun h => absurd h (by decide)⟩
  by_cases h2 : 1000000000 < psHi t
  · have e : pErr t = 11 := by unfold pErr; rw [if_neg hf, if_neg h1, if_pos h2]
    rw [e]
    exact ⟨fun _ w hT => c_Ctr_sum w hN hT (by omega) (by omega) (by omega) (by omega) (.inr ⟨by omega, h2, rfl⟩), fun h => absurd h (by decide)⟩
  have n0 := ps_nn t
  have n1 := (ps_le t).1
  have ep : pErr t = if pArcOpen t then 11 else 0 := by unfold pErr; rw [if_neg hf, if_neg h1, if_neg h2]
  rw [ep]
  obtain ⟨z0, z1, z2⟩ := pz_sp (t := t) (by omega) n1
  obtain ⟨X, Y⟩ := ps_sp (t := t) (by omega)
  obtain ⟨⟨v0, v1, v2⟩, ⟨f0, f1, f2⟩, ⟨g0, g1, g2⟩, ⟨k0, k1, k2⟩⟩ := pc_all (t := t) (by omega)
  obtain ⟨q1, q2, -, q3, -, -, so⟩ := sun_facts t
  have SS : Sp1 (psA t) (psB t) := sov_sp _ _ so
  have CC : Sp1 (pcA t) (pcB t) := cov_sp so
  have Z : Sp1 (pzLo t) (pzHi t) := ⟨z1, by omega, z2⟩
  obtain ⟨-, -, tes, tcs⟩ := tilt_in
  have el : spanErr (sunLo t) (sunHi t) = 0 := by unfold spanErr; (repeat (first | rw [if_neg (by omega)] | rw [if_pos (by omega)]))
  have ek : spanErr (p3Lo t) (p3Hi t) = 0 := by unfold spanErr; (repeat (first | rw [if_neg (by omega)] | rw [if_pos (by omega)]))
  have V : ∀ w1 : World, _ := fun w1 => c_TimesW (pvLo t) (pvHi t) 917482416 917482417 w1 (by omega) (by omega) (by omega) (by omega) (by omega) (by omega) (by omega) (by omega)
  have V2 : ∀ w1 : World, _ := fun w1 => c_TimesW (pvLo t) (pvHi t) 397776337 397776338 w1 (by omega) (by omega) (by omega) (by omega) (by omega) (by omega) (by omega) (by omega)
  have bZS : Sp1 (ptL (pzLo t) (pzHi t) (psA t) (psB t)) (ptH (pzLo t) (pzHi t) (psA t) (psB t)) := prod_sp Z SS
  have bXC : Sp1 (ptL (pxLo t) (pxHi t) (pcA t) (pcB t)) (ptH (pxLo t) (pxHi t) (pcA t) (pcB t)) := prod_sp X CC
  have bZC : Sp1 (ptL (pzLo t) (pzHi t) (pcA t) (pcB t)) (ptH (pzLo t) (pzHi t) (pcA t) (pcB t)) := prod_sp Z CC
  have bXS : Sp1 (ptL (pxLo t) (pxHi t) (psA t) (psB t)) (ptH (pxLo t) (pxHi t) (psA t) (psB t)) := prod_sp X SS
  have bYS : Sp1 (ptL (pyLo t) (pyHi t) 397776337 397776338) (ptH (pyLo t) (pyHi t) 397776337 397776338) := prod_sp Y tes
  have bYC : Sp1 (ptL (pyLo t) (pyHi t) 917482416 917482417) (ptH (pyLo t) (pyHi t) 917482416 917482417) := prod_sp Y tcs
  have bVC := pt_bd (al := pvLo t) (ah := pvHi t) (bl := 917482416) (bh := 917482417) (A := 2000000000) (B := 1000000000) (C := 2000000000) (by omega) (by omega) (by omega) (by omega) (by omega) (by omega) (by omega) (by omega) (by decide)
  have bVS := pt_bd (al := pvLo t) (ah := pvHi t) (bl := 397776337) (bh := 397776338) (A := 2000000000) (B := 1000000000) (C := 2000000000) (by omega) (by omega) (by omega) (by omega) (by omega) (by omega) (by omega) (by omega) (by decide)
  obtain ⟨oA, p1, p2⟩ := bZS
  obtain ⟨oB, p3, p4⟩ := bXC
  obtain ⟨oC, p5, p6⟩ := bZC
  obtain ⟨oD, p7, p8⟩ := bXS
  obtain ⟨oE, p9, p10⟩ := bYS
  obtain ⟨oF, p11, p12⟩ := bYC
  have hplB : plB 0 0 = true := by decide
  have hB : ∀ aa ab er ea eb wa wb : Int, (∀ w1 : World, Calls Tryz.prog 52 #[.agg #[.int .i64 (p2Lo t), .int .i64 (p2Hi t)], .agg #[.int .i64 (p1Lo t), .int .i64 (p1Hi t)]] w1 fun e w' => e = .returned (.tuple #[.agg #[.int .i64 aa, .int .i64 ab], .int .i64 er]) ∧ Below w1.heap.size w1 w') → ea = sidLo 0 t → eb = sidHi 0 t → (∀ w1 : World, Calls Tryz.prog 64 #[.agg #[.int .i64 aa, .int .i64 ab], .agg #[.int .i64 ea, .int .i64 eb]] w1 fun e w' => e = .returned (.agg #[.int .i64 wa, .int .i64 wb]) ∧ Below w1.heap.size w1 w') →
      PaB t (pxLo t) (pxHi t) (pyLo t) (pyHi t) (psLo t) (psHi t) (pzLo t) (pzHi t) (sunLo t) (sunHi t) (psA t) (psB t) (pcA t) (pcB t) (ptL (pzLo t) (pzHi t) (psA t) (psB t)) (ptH (pzLo t) (pzHi t) (psA t) (psB t)) (ptL (pxLo t) (pxHi t) (pcA t) (pcB t)) (ptH (pxLo t) (pxHi t) (pcA t) (pcB t)) (pvLo t) (pvHi t)
        (ptL (pzLo t) (pzHi t) (pcA t) (pcB t)) (ptH (pzLo t) (pzHi t) (pcA t) (pcB t)) (ptL (pxLo t) (pxHi t) (psA t) (psB t)) (ptH (pxLo t) (pxHi t) (psA t) (psB t)) (p1Lo t) (p1Hi t) (ptL (pvLo t) (pvHi t) 917482416 917482417) (ptH (pvLo t) (pvHi t) 917482416 917482417) (ptL (pyLo t) (pyHi t) 397776337 397776338) (ptH (pyLo t) (pyHi t) 397776337 397776338) (p2Lo t) (p2Hi t)
        (ptL (pvLo t) (pvHi t) 397776337 397776338) (ptH (pvLo t) (pvHi t) 397776337 397776338) (ptL (pyLo t) (pyHi t) 917482416 917482417) (ptH (pyLo t) (pyHi t) 917482416 917482417) (p3Lo t) (p3Hi t) aa ab er (asLo (p3Lo t)) (asHi (p3Hi t)) ea eb wa wb := by
    rintro aa ab er ea eb wa wb hA rfl rfl hL
    exact ⟨fun w1 => c_proot _ _ w1 (by omega) (by omega) (by omega), fun w1 h1 => c_sunLongitude t w1 h1 ht, fun w1 h1 => c_SinOver_ok _ _ w1 h1 el (by omega) (by omega) (by omega) (by omega), fun w1 h1 => c_CosOver_ok _ _ w1 h1 el (by omega) so (by omega), fun w1 => c_Times _ _ _ _ w1 Z SS, fun w1 => c_Times _ _ _ _ w1 X CC, fun w1 => c_Plus _ _ _ _ w1 (by omega) (by omega) (by omega) (by omega) (by omega) (by omega) (by omega) (by omega),
      fun w1 => c_Times _ _ _ _ w1 Z CC, fun w1 => c_Times _ _ _ _ w1 X SS, fun w1 => c_Minus _ _ _ _ w1 (by omega) (by omega) (by omega) (by omega) (by omega) (by omega) (by omega) (by omega), V, fun w1 => c_Times _ _ _ _ w1 Y tes, fun w1 => c_Minus _ _ _ _ w1 (by omega) (by omega) (by omega) (by omega) (by omega) (by omega) (by omega) (by omega),
      V2, fun w1 => c_Times _ _ _ _ w1 Y tcs, fun w1 => c_Plus _ _ _ _ w1 (by omega) (by omega) (by omega) (by omega) (by omega) (by omega) (by omega) (by omega), hA, fun w1 => c_ArcSin_ok _ _ w1 ek, fun w1 h1 => c_Sidereal 0 0 t w1 h1 hplB ht, hL⟩
  obtain ⟨s1, s2, s3, s4, -, -, -, -, -⟩ := sid_ok 0 t
  by_cases hz : p2Lo t ≤ 0 ∧ 0 ≤ p2Hi t ∧ p1Lo t ≤ 0 ∧ 0 ≤ p1Hi t
  · rw [if_pos (.inl hz)]
    have eg : spanErr (p2Lo t) (p2Hi t) = 0 := by unfold spanErr; (repeat (first | rw [if_neg (by omega)] | rw [if_pos (by omega)]))
    have eh : spanErr (p1Lo t) (p1Hi t) = 0 := by unfold spanErr; (repeat (first | rw [if_neg (by omega)] | rw [if_pos (by omega)]))
    exact ⟨fun _ w hT => c_Ctr_main w hN (hB 0 0 11 _ _ _ _ (fun w1 => c_Arc_open _ _ _ _ w1 eg eh hz.1 hz.2.1 hz.2.2.1 hz.2.2.2) rfl rfl (fun w1 => c_Less 0 0 _ _ w1 (by omega) (by omega) (by omega) (by omega) (by omega) (by omega) (by omega) (by omega))) hT (by omega) (by omega) (by omega) (by omega) n0 (by omega) (by omega) (by omega) (.inl ⟨rfl, rfl, rfl, rfl, rfl, rfl, rfl⟩), fun h => absurd h (by decide)⟩
  · obtain ⟨-, hle, hA⟩ := c_Arc_all (p2Lo t) (p2Hi t) (p1Lo t) (p1Hi t) g0 f0 (by omega) (by omega) (by omega) (by omega) hz
    by_cases hw : 400000000 < arcHi (p2Lo t) (p2Hi t) (p1Lo t) (p1Hi t) - arcLo (p2Lo t) (p2Hi t) (p1Lo t) (p1Hi t)
    · rw [if_pos (.inr hw)]
      exact ⟨fun _ w hT => c_Ctr_main w hN (hB 0 0 11 _ _ _ _ (fun w1 => (hA w1).mono fun e w' h => by
        obtain ⟨h | h, h2⟩ := h
        · exact ⟨h.2, h2⟩
        · omega) rfl rfl (fun w1 => c_Less 0 0 _ _ w1 (by omega) (by omega) (by omega) (by omega) (by omega) (by omega) (by omega) (by omega))) hT (by omega) (by omega) (by omega) (by omega) n0 (by omega) (by omega) (by omega) (.inl ⟨rfl, rfl, rfl, rfl, rfl, rfl, rfl⟩), fun h => absurd h (by decide)⟩
    · rw [if_neg (by unfold pArcOpen; omega)]
      have hA' : ∀ w1 : World, Calls Tryz.prog 52 #[.agg #[.int .i64 (p2Lo t), .int .i64 (p2Hi t)], .agg #[.int .i64 (p1Lo t), .int .i64 (p1Hi t)]] w1 fun e w' => e = .returned (.tuple #[.agg #[.int .i64 (pA0 t % 1000000000), .int .i64 (pA0 t % 1000000000 + pA1 t - pA0 t)], .int .i64 0]) ∧ Below w1.heap.size w1 w' := fun w1 => (hA w1).mono fun e w' h => by
        obtain ⟨h | h, h2⟩ := h
        · omega
        · exact ⟨h.2, h2⟩
      have b0 : 0 ≤ pA0 t % 1000000000 ∧ pA0 t % 1000000000 < 1000000000 := by omega
      have b1 : pA0 t ≤ pA1 t ∧ pA1 t - pA0 t ≤ 400000000 := ⟨hle, by unfold pA0 pA1; omega⟩
      exact ⟨fun h => absurd rfl h, fun _ w hT => c_Ctr_main w hN (hB _ _ 0 _ _ _ _ hA' rfl rfl (fun w1 => c_Less _ _ _ _ w1 (by omega) (by omega) (by omega) (by omega) (by omega) (by omega) (by omega) (by omega))) hT (by omega) (by omega) (by omega) (by omega) n0 (by omega) (by omega) (by omega) (.inr ⟨rfl, rfl, rfl, rfl, rfl, rfl, rfl⟩)⟩
theorem c_Center (t : Int) (w : World) (hT : Tab w) (t1 : -9223372036854775808 ≤ t) (t2 : t ≤ 9223372036854775807) :
    Calls Tryz.prog 24 #[.int .i64 t] w fun e w' => e = .returned (.tuple #[.agg #[.int .i64 (cV0 t), .int .i64 (cV1 t), .int .i64 (cV2 t), .int .i64 (cV3 t), .int .i64 (cV4 t)], .int .i64 (cE t)]) ∧ Below w.heap.size w w' := by
  unfold cV0 cV1 cV2 cV3 cV4
  by_cases ht : instB t = true
  · have e : cE t = pErr t := by unfold cE; rw [if_pos ht]
    rw [e]
    by_cases h : pErr t = 0
    · rw [if_pos h, if_pos h, if_pos h, if_pos h, if_pos h, h]
      exact (ctr_in ht).2 h w hT
    · rw [if_neg h, if_neg h, if_neg h, if_neg h, if_neg h]
      exact (ctr_in ht).1 h w hT
  · have ht' : instB t = false := by revert ht; cases instB t <;> simp
    have e : cE t = 3 := by unfold cE; rw [ht']; rfl
    rw [e, if_neg (by decide), if_neg (by decide), if_neg (by decide), if_neg (by decide), if_neg (by decide)]
    exact c_Ctr_range t w ht' t1 t2
end
section
set_option maxRecDepth 100000
open Go.RowKit
def tkI (a : Int) (k : Nat) : Int := a + 600000 * ((k : Int) - 24)
def pts (a : Int) (n : Nat) : List Nat := (List.range n).filter fun K => decide (cE (tkI a K) = 0)
def ptC (t : Int) : List Value := [.int .i64 (cV0 t), .int .i64 (cV1 t), .int .i64 (cV2 t), .int .i64 (cV3 t), .int .i64 (cV4 t)]
def ptsC (a : Int) (l : List Nat) : List Value := l.flatMap (fun K => ptC (tkI a K))
theorem pts_snoc (a : Int) (k : Nat) : pts a (k + 1) = if cE (tkI a k) = 0 then pts a k ++ [k] else pts a k := by
  unfold pts
  rw [List.range_succ, List.filter_append]
  by_cases h : cE (tkI a k) = 0
  · rw [if_pos h]; simp [h]
  · rw [if_neg h]; simp [h]
theorem pts_le (a : Int) (k : Nat) : (pts a k).length ≤ k := by
  have := List.length_filter_le (fun K => decide (cE (tkI a K) = 0)) (List.range k)
  rw [List.length_range] at this
  exact this
theorem pts_mono (a : Int) (k : Nat) : ∀ d, (pts a k).length ≤ (pts a (k + d)).length
  | 0 => Nat.le_refl _
  | d + 1 => by
    have := pts_mono a k d
    rw [show k + (d + 1) = (k + d) + 1 by omega, pts_snoc]
    split
    · simp; omega
    · exact this
theorem pts_at (a : Int) : ∀ (n K : Nat), K < n → cE (tkI a K) = 0 → (pts a n)[(pts a K).length]? = some K
  | 0, K, h, _ => by omega
  | n + 1, K, h, hp => by
    rw [pts_snoc]
    by_cases e : K = n
    · subst e
      rw [if_pos hp]
      simp
    · have ih := pts_at a n K (by omega) hp
      split
      · rw [List.getElem?_append_left (List.getElem?_eq_some_iff.1 ih).1]; exact ih
      · exact ih
theorem ptC_len (t : Int) : (ptC t).length = 5 := rfl
theorem pts_get (a : Int) : ∀ (l : List Nat) (k : Nat) (h : k < l.length) (j : Nat), j < 5 → (ptsC a l)[k * 5 + j]? = (ptC (tkI a l[k]))[j]?
  | [], k, h, _, _ => by simp at h
  | b :: l, 0, _, j, hj => by
    show (ptC (tkI a b) ++ ptsC a l)[0 * 5 + j]? = _
    rw [List.getElem?_append_left (by rw [ptC_len]; omega)]
    simp
  | b :: l, k + 1, h, j, hj => by
    show (ptC (tkI a b) ++ ptsC a l)[(k + 1) * 5 + j]? = _
    rw [List.getElem?_append_right (by rw [ptC_len]; omega), ptC_len, show (k + 1) * 5 + j - 5 = k * 5 + j by omega]
    exact pts_get a l k (by simpa using h) j hj
theorem info_pt : (Tryz.prog.info? 46).map (fun i => (i.zero, i.size, i.bytes)) = some (some (.agg #[.int .i64 0, .int .i64 0, .int .i64 0, .int .i64 0, .int .i64 0]), 5, 40) := by kernel_rfl
structure PtAt (w : World) (g o : Nat) (c : List Value) : Prop where
  c : ∀ j, j < 5 → w.cell? ⟨g, o + j, none⟩ = c[j]?
def TrkIs (a : Int) (w : World) (e : Ending) (w' : World) : Prop :=
  ∃ s cap, e = .returned (.tuple #[.slice s (pts a 49).length cap, .int .i64 0]) ∧ (pts a 49).length ≤ cap ∧ (∀ k (h : k < (pts a 49).length), ∃ g, s = some ⟨g, 0, none⟩ ∧ g < w'.heap.size ∧ PtAt w' g (k * 5) (ptC (tkI a (pts a 49)[k]))) ∧ Below w.heap.size w w'
theorem c_Track_err {n : Int} {r : ER} (w : World) (hr : EFnd n 0 r) (hT : Tab w) (hx : r.x ≠ 0) :
    Calls Tryz.prog 36 #[.int .i64 n] w fun e w' => e = .returned (.tuple #[.slice none 0 0, .int .i64 r.x]) ∧ Below w.heap.size w w' := by
  obtain ⟨k, a1, a2, a3, a4, a5, a6, x⟩ := r
  have HF := Lib.hid hr.use
  have HT := Lib.hid hT
  have f1 : (x != 0) = true := by simpa using hx
  clear hr hT hx
  have hgen := sgen; have hgen2 := sgen2; have hgen3 := sgen3; go_enter Tryz.func36, Tryz.ntmps36
  go_wp2_with (go_at_call 37; (with_reducible refine (HF.out _ (HT.out.below (by exact belz))).mono ?_); rintro e w1 ⟨rfl, hb⟩; have hz := hb.size; (try simp only [szA, szS, szD, szN] at hz); (try (refine bcB (n := w.heap.size) hb ?_; intro h_w_0 e_w_0 d_w_0 _ _)))
  refine bodyPost_ret (v := .tuple #[.slice none 0 0, .int .i64 x]) (by simp only [results, Tryz.results36]; go_simp) rfl ⟨rfl, ?_⟩
  exact belz
theorem c_Track_none {n : Int} {r : ER} (w : World) (hr : EFnd n 0 r) (hT : Tab w) (hx : r.x = 0) (hk : r.k ≠ 2) :
    Calls Tryz.prog 36 #[.int .i64 n] w fun e w' => e = .returned (.tuple #[.slice none 0 0, .int .i64 6]) ∧ Below w.heap.size w w' := by
  obtain ⟨k, a1, a2, a3, a4, a5, a6, x⟩ := r
  obtain rfl : x = 0 := hx
  have HF := Lib.hid hr.use
  have HT := Lib.hid hT
  have f1 : (k != 2) = true := by simpa using hk
  clear hr hT hk
  have hgen := sgen; have hgen2 := sgen2; have hgen3 := sgen3; go_enter Tryz.func36, Tryz.ntmps36
  go_wp2_with (go_at_call 37; (with_reducible refine (HF.out _ (HT.out.below (by exact belz))).mono ?_); rintro e w1 ⟨rfl, hb⟩; have hz := hb.size; (try simp only [szA, szS, szD, szN] at hz); (try (refine bcB (n := w.heap.size) hb ?_; intro h_w_0 e_w_0 d_w_0 _ _)))
  refine bodyPost_ret (v := .tuple #[.slice none 0 0, .int .i64 6]) (by simp only [results, Tryz.results36]; go_simp) rfl ⟨rfl, ?_⟩
  exact belz
set_option maxHeartbeats 4000000 in
theorem c_Track_ok {n : Int} {a1 a2 a3 a4 a5 a6 : Int} (w : World) (hr : EFnd n 0 ⟨2, a1, a2, a3, a4, a5, a6, 0⟩) (hT : Tab w) (b1 : -1000000000000000000 ≤ a1) (b2 : a1 ≤ 1000000000000000000) :
    Calls Tryz.prog 36 #[.int .i64 n] w (TrkIs a1 w) := by
  obtain ⟨i0, hi0, iz0, iz1, iz2⟩ := info_parts info_pt
  have HF := Lib.hid hr.use
  have HT := Lib.hid hT
  clear hr hT
  have hgen := sgen; have hgen2 := sgen2; have hgen3 := sgen3; go_enter Tryz.func36, Tryz.ntmps36
  go_upto_region 1 with fail
  go_cut [4, 5] (fun s4 s5 wc => ∃ b4 : Nat, s4 = .pointer (some ⟨b4, 0, none⟩) ∧ s5 = .int .i64 0 ∧ EAt wc b4 2 a1 a2 a3 a4 a5 a6 ∧ Below w.heap.size w wc)
  case first =>
    go_wp2_with (go_at_call 37; (with_reducible refine (HF.out _ (HT.out.below (by exact belz))).mono ?_); rintro e w1 ⟨rfl, hb⟩; have hz := hb.size; (try simp only [szA, szS, szD, szN] at hz); (try (refine bcB (n := w.heap.size) hb ?_; intro h_w_0 e_w_0 d_w_0 _ _)))
    go_meet
    case rel => exact ⟨w1.heap.size, by go_simp, by go_simp, ⟨by (try simp); (try omega), by go_simp, by go_simp, by go_simp, by go_simp, by go_simp, by go_simp, by go_simp, fun o => by go_simp⟩, by exact belz⟩
  case rest =>
    obtain ⟨b4, rfl, rfl, hE, hb3⟩ := hcut
    obtain ⟨w3, rfl⟩ : ∃ w3 : World, w3 = wc := ⟨_, rfl⟩
    have hz3 := hb3.size
    have hT3 := Lib.hid (HT.out.below hb3)
    have HE := Lib.hid hE
    obtain ⟨lE, cE0, cE1, -, -, -, -, -, -⟩ := hE
    clear HF HT
    go_wp2_with fail
    go_loopg [6, 7] 49 (fun gk x6 i wr => ∃ k : Nat, k ≤ 49 ∧ gk + k = 49 ∧ i = .int .i64 ((k : Int) - 24) ∧ Below w3.heap.size w3 wr ∧ wr.ownsRow w3.heap.size 46 5 x6 (pts a1 k).length (ptsC a1 (pts a1 k)))
    case atStart => exact ⟨0, by omega, by omega, by simp, Below.refl _ _, World.ownsRow_nil _ _ _ _⟩
    case round =>
      obtain ⟨k, hk8, hk, rfl, hbel, hO⟩ := hrel
      have hsz := hbel.size
      by_cases hlt : k < 49
      · have hkd : decide ((k : Int) - 24 ≤ 24) = true := decide_eq_true (by omega)
        have d1 : wr.cell? ⟨b4, 1, none⟩ = some (.int .i64 a1) := (hbel.cell (p := ⟨b4, 1, none⟩) lE).trans cE1
        have d0 : b4 < wr.heap.size := by omega
        have v1 : IntKind.i64.wrap (((k : Int) - 24) * 600000) = ((k : Int) - 24) * 600000 := IntWalk.i64_in _ (by omega)
        have v2 : IntKind.i64.wrap (a1 + ((k : Int) - 24) * 600000) = tkI a1 k := by rw [IntWalk.i64_in _ (by omega)]; unfold tkI; omega
        have v3 : IntKind.i64.wrap ((k : Int) - 24 + 1) = ((k + 1 : Nat) : Int) - 24 := by rw [IntWalk.i64_in _ (by omega)]; omega
        have hti : -2000000000000000000 ≤ tkI a1 k ∧ tkI a1 k ≤ 2000000000000000000 := by unfold tkI; omega
        have HC := Lib.hid (fun w1 (h1 : Tab w1) => c_Center (tkI a1 k) w1 h1 (by omega) (by omega))
        have HTT := Lib.hid (hT3.out.below hbel)
        have HSN := Lib.hid (pts_snoc a1 k)
        have hdl := pts_le a1 k
        have HO := Lib.hid hO
        have hdc : ptC (tkI a1 k) = [.int .i64 (cV0 (tkI a1 k)), .int .i64 (cV1 (tkI a1 k)), .int .i64 (cV2 (tkI a1 k)), .int .i64 (cV3 (tkI a1 k)), .int .i64 (cV4 (tkI a1 k))] := rfl
        have HDC := Lib.hid hdc
        clear hO hdc hti
        generalize cV0 (tkI a1 k) = p0 at *
        generalize cV1 (tkI a1 k) = p1 at *
        generalize cV2 (tkI a1 k) = p2 at *
        generalize cV3 (tkI a1 k) = p3 at *
        generalize cV4 (tkI a1 k) = p4 at *
        by_cases hu : cE (tkI a1 k) = 0
        · rw [if_pos hu] at HSN
          rw [hu] at HC
          clear hu
          go_upto_region 12 with (go_at_call 24; (with_reducible refine (HC.out _ (HTT.out.below (by exact belz))).mono ?_); rintro e w4 ⟨rfl, hb⟩; have hz := hb.size; (try simp only [szA, szS, szD, szN] at hz); (try (refine bcB (n := wr.heap.size) hb ?_; intro h_wr_0 e_wr_0 d_wr_0 _ _)); (try (refine bcB (n := b4) hb ?_; intro h_bb4_0 e_bb4_0 d_bb4_0 _ _)))
          have hzr4 : wr.heap.size ≤ w4.heap.size := by omega
          have hbr4 : Below wr.heap.size wr w4 := by (clear hbel hb3; exact belz)
          have hb4 : Below w3.heap.size w3 w4 := hbel.trans (hbr4.mono hsz)
          have hz4 := hb4.size
          clear HC hb
          go_wp2_with (at_builtin; refine wpList_append_own _ rfl _ _ 57 rfl w3.heap.size 46 i0 _ 5 40 Tryz.underlying57 hi0 iz0 iz1 iz2 rfl (by decide) _ _ _ rfl (((own_below HO.out hbr4).alloc _).alloc _) ⟨w4.heap.size + 1, 0, none⟩ 1 1 [.int .i64 p0, .int .i64 p1, .int .i64 p2, .int .i64 p3, .int .i64 p4] rfl rfl ?ca ?cb ?cc ?cd ?ce ?_)
          case ca =>
            intro j u hj
            match j, hj with
            | 0, hj => simp at hj; subst hj; simp only [Addr.add]; go_simp
            | 1, hj => simp at hj; subst hj; simp only [Addr.add]; go_simp
            | 2, hj => simp at hj; subst hj; simp only [Addr.add]; go_simp
            | 3, hj => simp at hj; subst hj; simp only [Addr.add]; go_simp
            | 4, hj => simp at hj; subst hj; simp only [Addr.add]; go_simp
          case cb => intro u hu; simp at hu; rcases hu with rfl | rfl | rfl | rfl | rfl <;> rfl
          case cc => unfold maxLen; omega
          case cd => omega
          case ce => simp; omega
          intro v' w7 ho7 hg7 _
          have hb7 : Below w3.heap.size w3 w7 := by
            refine Below.grown ?_ hg7 ?_ ?_
            · exact belz
            · simp; omega
            · intro q hq
              exact (HO.out.lt q hq).1
          have HO7 : Hid (w7.ownsRow w3.heap.size 46 5 v' (pts a1 (k + 1)).length (ptsC a1 (pts a1 (k + 1)))) := Lib.hid (by
            rw [HSN.out]
            have e1 : (pts a1 k ++ [k]).length = (pts a1 k).length + 1 := by simp
            have e2 : ptsC a1 (pts a1 k ++ [k]) = ptsC a1 (pts a1 k) ++ ptC (tkI a1 k) := by simp [ptsC]
            rw [e1, e2, HDC.out]
            exact ho7)
          clear ho7 hg7
          go_wp2_with fail
          go_roundg (49 - (k + 1))
          case measure => omega
          case rel => exact ⟨k + 1, by omega, by omega, rfl, hb7, HO7.out⟩
        · rw [if_neg hu] at HSN
          have f1 : (cE (tkI a1 k) == 0) = false := by simpa using hu
          go_wp2_with (go_at_call 24; (with_reducible refine (HC.out _ (HTT.out.below (by exact belz))).mono ?_); rintro e w4 ⟨rfl, hb⟩; have hz := hb.size; (try simp only [szA, szS, szD, szN] at hz); (try (refine bcB (n := wr.heap.size) hb ?_; intro h_wr_0 e_wr_0 d_wr_0 _ _)); (try (refine bcB (n := b4) hb ?_; intro h_bb4_0 e_bb4_0 d_bb4_0 _ _)))
          have hbr5 : Below wr.heap.size wr (w4.alloc (.cells #[.int .i64 p0, .int .i64 p1, .int .i64 p2, .int .i64 p3, .int .i64 p4] 46)) := by (clear hbel hb3; exact belz)
          have HO5 := Lib.hid (own_below HO.out hbr5)
          have hb5 := hbel.trans (hbr5.mono hsz)
          go_roundg (49 - (k + 1))
          case measure => omega
          case rel => exact ⟨k + 1, by omega, by omega, rfl, hb5, by rw [HSN.out]; exact HO5.out⟩
      · obtain rfl : k = 49 := by omega
        have HO := Lib.hid hO
        have hb : Below w.heap.size w wr := hb3.trans (hbel.mono hz3)
        rcases own_form hO with ⟨rfl, h0⟩ | ⟨gg, cc, rfl, q1, q2, q3, q4, q5, q6⟩
        · clear hO
          go_wp2_with fail
          refine bodyPost_ret (v := .tuple #[.slice none 0 0, .int .i64 0]) (by simp only [results, Tryz.results36]; go_simp) rfl ?_
          exact ⟨none, 0, by rw [h0], by omega, fun q hq => by omega, hb⟩
        · have HQ := Lib.hid q5
          clear hO q5 q6
          go_wp2_with fail
          refine bodyPost_ret (v := .tuple #[.slice (some ⟨gg, 0, none⟩) (pts a1 49).length cc, .int .i64 0]) (by simp only [results, Tryz.results36]; go_simp) rfl ?_
          refine ⟨_, cc, rfl, q1, fun q hq => ⟨gg, rfl, q4, ⟨fun j hj => ?_⟩⟩, hb⟩
          rw [HQ.out _ (by omega)]
          exact pts_get a1 _ q hq j hj
end
section
set_option maxRecDepth 100000
open Go.RowKit
theorem eFnd_bd (n : Int) : ∃ r, EFnd n 0 r ∧ -1000000000000000000 ≤ r.a1 ∧ r.a1 ≤ 1000000000000000000 := by
  by_cases hn : -100000 ≤ n ∧ n ≤ 100000
  · obtain ⟨k, a1, a2, a3, a4, a5, a6, x, h⟩ := eOut_ex 0 (phR n 0).lo (phR n 0).hi (eL0 n 0) (eH0 n 0)
    refine ⟨_, eFnd_ok' hn.1 hn.2 (.inl rfl) h, ?_⟩
    have ph := phR_ok (n := n) (q := 0) hn.1 hn.2 (by omega) (by omega)
    have ha := ph.a
    have hb := ph.b
    have hc := ph.c
    have j0 := inst_bd (ph_inst (n := n) (q := 0) hn.1 hn.2 (by omega) (by omega) (x := (phR n 0).lo) (by omega) (by omega))
    have e : a1 = (phR n 0).lo ∨ a1 = 0 := by
      unfold EOut at h
      rcases h with ⟨-, -, h, -⟩ | ⟨-, -, -, h, -⟩ | ⟨-, -, -, -, -, h, -⟩ | ⟨-, -, -, -, h, -⟩ <;> first | exact .inl h | exact .inr h
    show -1000000000000000000 ≤ a1 ∧ a1 ≤ 1000000000000000000
    omega
  · exact ⟨⟨0, 0, 0, 0, 0, 0, 0, 3⟩, fun w _ => c_eFind_rng n 0 w (.inl rfl) (by omega), by show (-1000000000000000000 : Int) ≤ 0; decide, by show (0 : Int) ≤ 1000000000000000000; decide⟩
theorem ctr_four : cE (tkI 63070053545382 24) = 0 ∧ cE (tkI 63070053545382 25) = 0 ∧ cE (tkI 63070053545382 26) = 0 ∧ cE (tkI 63070053545382 27) = 0 := by
  obtain ⟨h1, h2, h3, h4⟩ := path_fix
  unfold cE tkI
  refine ⟨?_, ?_, ?_, ?_⟩
  · rw [show (63070053545382 : Int) + 600000 * (((24 : Nat) : Int) - 24) = 63070053545382 by decide, if_pos (by decide)]; exact h1
  · rw [show (63070053545382 : Int) + 600000 * (((25 : Nat) : Int) - 24) = 63070053545382 + 600000 by decide, if_pos (by decide)]; exact h2
  · rw [show (63070053545382 : Int) + 600000 * (((26 : Nat) : Int) - 24) = 63070053545382 + 1200000 by decide, if_pos (by decide)]; exact h3
  · rw [show (63070053545382 : Int) + 600000 * (((27 : Nat) : Int) - 24) = 63070053545382 + 1800000 by decide, if_pos (by decide)]; exact h4
theorem pts_four : 3 < (pts 63070053545382 49).length := by
  obtain ⟨h1, h2, h3, h4⟩ := ctr_four
  have e1 : (pts 63070053545382 25).length = (pts 63070053545382 24).length + 1 := by rw [pts_snoc, if_pos h1]; simp
  have e2 : (pts 63070053545382 26).length = (pts 63070053545382 25).length + 1 := by rw [pts_snoc, if_pos h2]; simp
  have e3 : (pts 63070053545382 27).length = (pts 63070053545382 26).length + 1 := by rw [pts_snoc, if_pos h3]; simp
  have e4 : (pts 63070053545382 28).length = (pts 63070053545382 27).length + 1 := by rw [pts_snoc, if_pos h4]; simp
  have m : (pts 63070053545382 28).length ≤ (pts 63070053545382 49).length := pts_mono 63070053545382 28 21
  omega
theorem c_pathWorks (w : World) (hT : Tab w) : Calls Tryz.prog 23 #[] w fun e w' => e = .returned (.bool true) ∧ Below w.heap.size w w' := by
  have HA : Hid (∀ w1, Tab w1 → Calls Tryz.prog 36 #[.int .i64 24719] w1 fun e w' => ∃ s n cap, e = .returned (.tuple #[.slice s n cap, .int .i64 0]) ∧ 3 < n ∧ Below w1.heap.size w1 w') := Lib.hid (fun w1 h1 => by
    have f := fnd_tot
    rw [path_lo] at f
    refine (c_Track_ok w1 f h1 (by decide) (by decide)).mono ?_
    rintro e w' ⟨s, cap, he, -, -, hb⟩
    exact ⟨s, _, cap, he, pts_four, hb⟩)
  have HB : Hid (∀ w1, Tab w1 → Calls Tryz.prog 36 #[.int .i64 24720] w1 fun e w' => e = .returned (.tuple #[.slice none 0 0, .int .i64 6]) ∧ Below w1.heap.size w1 w') := Lib.hid (fun w1 h1 =>
    c_Track_none w1 (eFnd_ok' (n := 24720) (q := 0) (by decide) (by decide) (.inl rfl) (eOut_none path_none)) h1 rfl (by show (0 : Int) ≠ 2; decide))
  have HT := Lib.hid hT
  clear hT
  have hgen := sgen; have hgen2 := sgen2; have hgen3 := sgen3; go_enter Tryz.func23, Tryz.ntmps23
  go_wp2_with (first | (go_at_call 36; (with_reducible refine (HA.out _ (HT.out.below (by exact belz))).mono ?_); rintro e w1 ⟨s, n, cap, rfl, hn, hb⟩; have hz := hb.size; (try simp only [szA, szS, szD, szN] at hz); (try (refine bcB (n := w.heap.size) hb ?_; intro h_w_0 e_w_0 d_w_0 _ _))) | (go_at_call 36; (with_reducible refine (HB.out _ (HT.out.below (by exact belz))).mono ?_); rintro e w2 ⟨rfl, hb⟩; have hz := hb.size; (try simp only [szA, szS, szD, szN] at hz); (try (refine bcB (n := w.heap.size) hb ?_; intro h_w_0 e_w_0 d_w_0 _ _)); (try (refine bcB (n := w1.heap.size) hb ?_; intro h_w1_0 e_w1_0 d_w1_0 _ _))))
  go_ret
  refine ⟨rfl, ?_⟩
  exact belz
theorem walk_PtT_err {n : Int} {r : ER} (w : World) (hr : EFnd n 0 r) (hT : Tab w) (hx : r.x ≠ 0) :
    Calls Tryz.prog 5 #[.int .i64 n] w fun e w' => e = .returned (.bool true) ∧ Below w.heap.size w w' := by
  have HK := Lib.hid (fun w1 h1 => c_Track_err (n := n) (r := r) w1 hr h1 hx)
  obtain ⟨k, a1, a2, a3, a4, a5, a6, x⟩ := r
  have HF := Lib.hid hr.use
  have HT := Lib.hid hT
  have f1 : (x != 0) = true := by simpa using hx
  have f2 : (x == 0) = false := by simpa using hx
  clear hr hT hx
  have hgen := sgen; have hgen2 := sgen2; have hgen3 := sgen3; go_enter Tryz.func5, Tryz.ntmps5
  go_wp2_with (first | (go_at_call 23; (with_reducible refine (c_pathWorks _ (HT.out.below (by exact belz))).mono ?_); rintro e w1 ⟨rfl, hb⟩; have hz := hb.size; (try simp only [szA, szS, szD, szN] at hz); (try (refine bcB (n := w.heap.size) hb ?_; intro h_w_0 e_w_0 d_w_0 _ _))) | (go_at_call 36; (with_reducible refine (HK.out _ (HT.out.below (by exact belz))).mono ?_); rintro e w2 ⟨rfl, hb⟩; have hz := hb.size; (try simp only [szA, szS, szD, szN] at hz); (try (refine bcB (n := w.heap.size) hb ?_; intro h_w_0 e_w_0 d_w_0 _ _)); (try (refine bcB (n := w1.heap.size) hb ?_; intro h_w1_0 e_w1_0 d_w1_0 _ _))) | (go_at_call 37; (with_reducible refine (HF.out _ (HT.out.below (by exact belz))).mono ?_); rintro e w3 ⟨rfl, hb⟩; have hz := hb.size; (try simp only [szA, szS, szD, szN] at hz); (try (refine bcB (n := w.heap.size) hb ?_; intro h_w_0 e_w_0 d_w_0 _ _)); (try (refine bcB (n := w1.heap.size) hb ?_; intro h_w1_0 e_w1_0 d_w1_0 _ _)); (try (refine bcB (n := w2.heap.size) hb ?_; intro h_w2_0 e_w2_0 d_w2_0 _ _))))
  go_ret
  refine ⟨rfl, ?_⟩
  exact belz
theorem walk_PtT_none {n : Int} {r : ER} (w : World) (hr : EFnd n 0 r) (hT : Tab w) (hx : r.x = 0) (hk : r.k ≠ 2) :
    Calls Tryz.prog 5 #[.int .i64 n] w fun e w' => e = .returned (.bool true) ∧ Below w.heap.size w w' := by
  have HK := Lib.hid (fun w1 h1 => c_Track_none (n := n) (r := r) w1 hr h1 hx hk)
  obtain ⟨k, a1, a2, a3, a4, a5, a6, x⟩ := r
  obtain rfl : x = 0 := hx
  have HF := Lib.hid hr.use
  have HT := Lib.hid hT
  have f1 : (k != 2) = true := by simpa using hk
  clear hr hT hk
  have hgen := sgen; have hgen2 := sgen2; have hgen3 := sgen3; go_enter Tryz.func5, Tryz.ntmps5
  go_wp2_with (first | (go_at_call 23; (with_reducible refine (c_pathWorks _ (HT.out.below (by exact belz))).mono ?_); rintro e w1 ⟨rfl, hb⟩; have hz := hb.size; (try simp only [szA, szS, szD, szN] at hz); (try (refine bcB (n := w.heap.size) hb ?_; intro h_w_0 e_w_0 d_w_0 _ _))) | (go_at_call 36; (with_reducible refine (HK.out _ (HT.out.below (by exact belz))).mono ?_); rintro e w2 ⟨rfl, hb⟩; have hz := hb.size; (try simp only [szA, szS, szD, szN] at hz); (try (refine bcB (n := w.heap.size) hb ?_; intro h_w_0 e_w_0 d_w_0 _ _)); (try (refine bcB (n := w1.heap.size) hb ?_; intro h_w1_0 e_w1_0 d_w1_0 _ _))) | (go_at_call 37; (with_reducible refine (HF.out _ (HT.out.below (by exact belz))).mono ?_); rintro e w3 ⟨rfl, hb⟩; have hz := hb.size; (try simp only [szA, szS, szD, szN] at hz); (try (refine bcB (n := w.heap.size) hb ?_; intro h_w_0 e_w_0 d_w_0 _ _)); (try (refine bcB (n := w1.heap.size) hb ?_; intro h_w1_0 e_w1_0 d_w1_0 _ _)); (try (refine bcB (n := w2.heap.size) hb ?_; intro h_w2_0 e_w2_0 d_w2_0 _ _))))
  go_ret
  refine ⟨rfl, ?_⟩
  exact belz
set_option maxHeartbeats 4000000 in
theorem walk_PtT_ok {n : Int} {a1 a2 a3 a4 a5 a6 : Int} (w : World) (hr : EFnd n 0 ⟨2, a1, a2, a3, a4, a5, a6, 0⟩) (hT : Tab w) (b1 : -1000000000000000000 ≤ a1) (b2 : a1 ≤ 1000000000000000000) :
    Calls Tryz.prog 5 #[.int .i64 n] w fun e w' => e = .returned (.bool true) ∧ Below w.heap.size w w' := by
  have HK := Lib.hid (fun w1 h1 => c_Track_ok (n := n) w1 hr h1 b1 b2)
  unfold TrkIs at HK
  have HF := Lib.hid hr.use
  have HT := Lib.hid hT
  clear hr hT
  have hgen := sgen; have hgen2 := sgen2; have hgen3 := sgen3; go_enter Tryz.func5, Tryz.ntmps5
  go_upto_region 4 with (first | (go_at_call 23; (with_reducible refine (c_pathWorks _ (HT.out.below (by exact belz))).mono ?_); rintro e w1 ⟨rfl, hb⟩; have hz := hb.size; (try simp only [szA, szS, szD, szN] at hz); (try (refine bcB (n := w.heap.size) hb ?_; intro h_w_0 e_w_0 d_w_0 _ _))) | (go_at_call 36; (with_reducible refine (HK.out _ (HT.out.below (by exact belz))).mono ?_); rintro e w2 ⟨s, cap, rfl, hcap, hat, hb⟩; have hz := hb.size; (try simp only [szA, szS, szD, szN] at hz); (try (refine bcB (n := w.heap.size) hb ?_; intro h_w_0 e_w_0 d_w_0 _ _)); (try (refine bcB (n := w1.heap.size) hb ?_; intro h_w1_0 e_w1_0 d_w1_0 _ _))))
  have HAT := Lib.hid hat
  have hw2 : Below w.heap.size w w2 := by exact belz
  clear hat
  go_cut [5, 6] (fun s5 s6 wc => ∃ b5 : Nat, s5 = .pointer (some ⟨b5, 0, none⟩) ∧ s6 = .int .i64 0 ∧ EAt wc b5 2 a1 a2 a3 a4 a5 a6 ∧ Below w2.heap.size w2 wc)
  case first =>
    go_wp2_with (go_at_call 37; (with_reducible refine (HF.out _ (HT.out.below (by exact belz))).mono ?_); rintro e w3 ⟨rfl, hb⟩; have hz := hb.size; (try simp only [szA, szS, szD, szN] at hz); (try (refine bcB (n := w2.heap.size) hb ?_; intro h_w2_0 e_w2_0 d_w2_0 _ _)))
    go_meet
    case rel => exact ⟨w3.heap.size, by go_simp, by go_simp, ⟨by (try simp); (try omega), by go_simp, by go_simp, by go_simp, by go_simp, by go_simp, by go_simp, by go_simp, fun o => by go_simp⟩, by exact belz⟩
  case rest =>
    obtain ⟨b5, rfl, rfl, hE, hb3⟩ := hcut
    obtain ⟨w3, rfl⟩ : ∃ w3 : World, w3 = wc := ⟨_, rfl⟩
    have hz2 := hw2.size
    have hz3 := hb3.size
    have hb30 : Below w.heap.size w w3 := Below.call hw2 (by omega) hb3
    have hT3 := Lib.hid (HT.out.below hb30)
    obtain ⟨lE, cE0, cE1, -, -, -, -, -, -⟩ := hE
    clear HF HT HK
    go_wp2_with fail
    go_loopg [7, 8] 49 (fun gk i kk wr => ∃ k : Nat, k ≤ 49 ∧ gk + k = 49 ∧ i = .int .i64 ((pts a1 k).length : Int) ∧ kk = .int .i64 ((k : Int) - 24) ∧ Below w3.heap.size w3 wr)
    case atStart => exact ⟨0, by omega, by omega, rfl, by simp, Below.refl _ _⟩
    case round =>
      obtain ⟨k, hk8, hk, rfl, rfl, hbel⟩ := hrel
      have hsz := hbel.size
      by_cases hlt : k < 49
      · have hkd : decide ((k : Int) - 24 ≤ 24) = true := decide_eq_true (by omega)
        have d1 : wr.cell? ⟨b5, 1, none⟩ = some (.int .i64 a1) := (hbel.cell (p := ⟨b5, 1, none⟩) lE).trans cE1
        have d0 : b5 < wr.heap.size := by omega
        have v1 : IntKind.i64.wrap (600000 * ((k : Int) - 24)) = 600000 * ((k : Int) - 24) := IntWalk.i64_in _ (by omega)
        have v2 : IntKind.i64.wrap (a1 + 600000 * ((k : Int) - 24)) = tkI a1 k := IntWalk.i64_in _ (by omega)
        have v3 : IntKind.i64.wrap ((k : Int) - 24 + 1) = ((k + 1 : Nat) : Int) - 24 := by rw [IntWalk.i64_in _ (by omega)]; omega
        have hti : -2000000000000000000 ≤ tkI a1 k ∧ tkI a1 k ≤ 2000000000000000000 := by unfold tkI; omega
        have HC := Lib.hid (fun w1 (h1 : Tab w1) => c_Center (tkI a1 k) w1 h1 (by omega) (by omega))
        have HTT := Lib.hid (hT3.out.below hbel)
        have HSN := Lib.hid (pts_snoc a1 k)
        have hdl := pts_le a1 k
        clear hti
        by_cases hu : cE (tkI a1 k) = 0
        · have hat := pts_at a1 49 k hlt hu
          obtain ⟨hi, hie⟩ := List.getElem?_eq_some_iff.1 hat
          obtain ⟨g, hs, hg, hp⟩ := HAT.out _ hi
          rw [hie] at hp
          have hgw : g < wr.heap.size := by omega
          have ix1 := @ix_Pt s g 0 (pts a1 49).length cap (pts a1 k).length hs hi
          have P : ∀ j, j < 5 → wr.cell? ⟨g, (pts a1 k).length * 5 + j, none⟩ = (ptC (tkI a1 k))[j]? := fun j hj => (hbel.cell (p := ⟨g, _, none⟩) (show g < w3.heap.size by omega)).trans ((hb3.cell (p := ⟨g, _, none⟩) hg).trans (hp.c j hj))
          have e0 : wr.cell? ⟨g, (pts a1 k).length * 5, none⟩ = some (.int .i64 (cV0 (tkI a1 k))) := P 0 (by omega)
          have e1 : wr.cell? ⟨g, (pts a1 k).length * 5 + 1, none⟩ = some (.int .i64 (cV1 (tkI a1 k))) := P 1 (by omega)
          have e2 : wr.cell? ⟨g, (pts a1 k).length * 5 + 2, none⟩ = some (.int .i64 (cV2 (tkI a1 k))) := P 2 (by omega)
          have e3 : wr.cell? ⟨g, (pts a1 k).length * 5 + 3, none⟩ = some (.int .i64 (cV3 (tkI a1 k))) := P 3 (by omega)
          have e4 : wr.cell? ⟨g, (pts a1 k).length * 5 + 4, none⟩ = some (.int .i64 (cV4 (tkI a1 k))) := P 4 (by omega)
          have hlen : (pts a1 (k + 1)).length = (pts a1 k).length + 1 := by rw [pts_snoc, if_pos hu]; simp
          have HL := Lib.hid hlen
          have n1 : decide (((pts a1 k).length : Int) ≥ ((pts a1 49).length : Int)) = false := decide_eq_false (by omega)
          have v4 : IntKind.i64.wrap (((pts a1 k).length : Int) + 1) = (((pts a1 k).length + 1 : Nat) : Int) := by rw [IntWalk.i64_in _ (by omega)]; omega
          rw [hu] at HC
          clear hu P hp hs hie hat hlen HAT
          generalize cV0 (tkI a1 k) = p0 at *
          generalize cV1 (tkI a1 k) = p1 at *
          generalize cV2 (tkI a1 k) = p2 at *
          generalize cV3 (tkI a1 k) = p3 at *
          generalize cV4 (tkI a1 k) = p4 at *
          generalize (pts a1 k).length = m at *
          generalize (pts a1 49).length = N at *
          go_upto_region 15 with (go_at_call 24; (with_reducible refine (HC.out _ (HTT.out.below (by exact belz))).mono ?_); rintro e w4 ⟨rfl, hb⟩; have hz := hb.size; (try simp only [szA, szS, szD, szN] at hz); (try (refine bcB (n := wr.heap.size) hb ?_; intro h_wr_0 e_wr_0 d_wr_0 _ _)); (try (refine bcB (n := b5) hb ?_; intro h_bb5_0 e_bb5_0 d_bb5_0 _ _)); (try (refine bcB (n := g) hb ?_; intro h_bg_0 e_bg_0 d_bg_0 _ _)))
          go_quiet (fail)
          go_wp2_with fail
          go_roundg (49 - (k + 1))
          case measure => omega
          case rel => exact ⟨k + 1, by omega, by omega, by rw [HL.out]; push_cast; rfl, rfl, by exact belz⟩
        · have hlen : (pts a1 (k + 1)).length = (pts a1 k).length := by rw [pts_snoc, if_neg hu]
          have f1 : (cE (tkI a1 k) != 0) = true := by simpa using hu
          have HL := Lib.hid hlen
          clear hlen
          go_wp2_with (go_at_call 24; (with_reducible refine (HC.out _ (HTT.out.below (by exact belz))).mono ?_); rintro e w4 ⟨rfl, hb⟩; have hz := hb.size; (try simp only [szA, szS, szD, szN] at hz); (try (refine bcB (n := wr.heap.size) hb ?_; intro h_wr_0 e_wr_0 d_wr_0 _ _)); (try (refine bcB (n := b5) hb ?_; intro h_bb5_0 e_bb5_0 d_bb5_0 _ _)))
          go_roundg (49 - (k + 1))
          case measure => omega
          case rel => exact ⟨k + 1, by omega, by omega, by rw [HL.out], rfl, by exact belz⟩
      · obtain rfl : k = 49 := by omega
        clear HAT
        generalize (pts a1 49).length = N at *
        have hb : Below w.heap.size w wr := Below.call hb30 (by omega) hbel
        go_wp2_with fail
        go_ret
        exact ⟨rfl, hb⟩
theorem walk_PathTracks (n : Int) (w : World) (hT : Tab w) :
    Calls Tryz.prog 5 #[.int .i64 n] w fun e w' => e = .returned (.bool true) ∧ Below w.heap.size w w' := by
  obtain ⟨r, hr, b1, b2⟩ := eFnd_bd n
  by_cases hx : r.x = 0
  · by_cases hk : r.k = 2
    · obtain ⟨k, a1, a2, a3, a4, a5, a6, x⟩ := r
      obtain rfl : x = 0 := hx
      obtain rfl : k = 2 := hk
      exact walk_PtT_ok w hr hT b1 b2
    · exact walk_PtT_none w hr hT hx hk
  · exact walk_PtT_err w hr hT hx
end
end Go.Proofs.YtcgnhnmigmdalaaGreatDoor
