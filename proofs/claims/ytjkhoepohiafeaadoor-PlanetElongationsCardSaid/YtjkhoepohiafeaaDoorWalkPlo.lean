/- Contracts of the reference's Planet and of planet.Longitude. -/
import Derived.Test.YtjkhoepohiafeaaDoorPlainPlo2
import Derived.Test.YtjkhoepohiafeaaDoorWalkPw
import Derived.Test.YtjkhoepohiafeaaDoorWalkDir
import Derived.Test.YtjkhoepohiafeaaDoorAsA
import Derived.Deep.RegionHeld3
set_option linter.unusedVariables false
set_option linter.unusedSimpArgs false
namespace Go.Proofs.YtjkhoepohiafeaaDoor
open Go.RowKit
/-- The reference's sum at any instant. -/
theorem c_rSumX (m r s inst : Int) (a : Option Addr) (cap : Nat) (l : List Tm) (w : World) (hc : l.length ≤ cap) (hs : TmSlice w a l) (hv : SumOk m r l s) (hr : ∀ x ∈ l, 0 < x.rt) (i1 : -9223372036854775808 ≤ inst) (i2 : inst ≤ 9223372036854775807) :
    Calls Tryd.prog 102 #[sumV m r a l.length cap s, .int .i64 inst] w fun e w' => ∃ n : Int, e = .returned (.int .i64 n) ∧ (-50000000000000000 ≤ n ∧ n ≤ 50000000000000000) ∧ Below w.heap.size w w' := by
  have h40 := hv.len
  have h2 : (l.length : Int) ≤ 40 := by omega
  have m1 := hv.m1
  have m2 := hv.m2
  have HTM := Lib.hid hv.tm
  have HRT := Lib.hid hr
  have HSL := Lib.hid hs
  clear hv hs hr
  have hgen := sgen; have hgen2 := sgen2; have hgen3 := sgen3; go_enter Tryd.func102, Tryd.ntmps102
  go_wp2_with fail
  go_loopg [5, 16] l.length (fun gk x5 i wr => ∃ k : Nat, ∃ n : Int, gk + k = l.length ∧ i = .int .i64 k ∧ x5 = .int .i64 n ∧ (-1048576000000000 - 1200000000000000 * (k : Int) ≤ n ∧ n ≤ 1048576000000000 + 1200000000000000 * (k : Int)) ∧ Below w.heap.size w wr)
  case atStart => exact ⟨0, m * 1048576, by omega, rfl, rfl, by omega, (Below.refl _ _).alloc (Nat.le_refl _) _⟩
  case round =>
    obtain ⟨k, n, hk, rfl, rfl, hn, hbel⟩ := hrel
    by_cases hlt : k < l.length
    · obtain ⟨b, off, ha, hb1, c0, c1, c2⟩ := (HSL.out.below (Nat.le_refl _) hbel) k hlt
      have ix1 := @ix_Tm a b off l.length cap k ha hlt
      have hsz := hbel.size
      have ht := HTM.out l[k] (List.getElem_mem hlt)
      have hr := HRT.out l[k] (List.getElem_mem hlt)
      clear ha
      generalize l[k] = x at *
      obtain ⟨av, av1, av2, hA⟩ := c_ArgX x.rt inst hr (by have := ht.r2; omega) i1 i2
      have HA := Lib.hid hA
      have p1 := ht.p1
      have p2 := ht.p2
      have HC := Lib.hid (fun w1 => c_SinCos (av + x.ph * 1000000) w1 (by omega) (by omega))
      have sb := sc1_bd (arg := (av + x.ph * 1000000) % 1000000000000000) (by omega) (by omega)
      have pb := prt_bd (a := x.amp) (v := (sc ((av + x.ph * 1000000) % 1000000000000000)).1) ht.a1 ht.a2 (by omega) (by omega)
      have HP := Lib.hid (fun w1 => c_Part x.amp (sc ((av + x.ph * 1000000) % 1000000000000000)).1 w1 ht.a1 ht.a2 (by omega) (by omega))
      have w1' : IntKind.i64.wrap (x.ph * 1000000) = x.ph * 1000000 := IntWalk.i64_in _ (by omega)
      have w2' : IntKind.i64.wrap (av + x.ph * 1000000) = av + x.ph * 1000000 := IntWalk.i64_in _ (by omega)
      obtain ⟨n3a, n3b⟩ := pb
      obtain ⟨n1, n2⟩ := hn
      have k40 : (k : Int) ≤ 40 := by omega
      clear sb hA
      go_wp2_with fail
      go_quiet ((first | (go_at_call 35; exact Calls.quiet_of_same ((HA.out _).mono (fun e w' ⟨h1, h2⟩ => ⟨h1, h2.symm⟩))) | (go_at_call 15; exact Calls.quiet_of_same ((HC.out _).mono (fun e w' ⟨h1, h2⟩ => ⟨h1, h2.symm⟩)))))
      clear w1' w2'
      go_wp2_with (go_at_call 36; refine (HP.out _).mono ?_; rintro e w' ⟨rfl, rfl⟩)
      go_roundg (l.length - (k + 1))
      case measure => omega
      case rel =>
        refine ⟨k + 1, _, by omega, by go_num, rfl, ⟨by omega, by omega⟩, ?_⟩
        exact belz
    · have hkl : k = l.length := by omega
      have hb2 : -50000000000000000 ≤ n ∧ n ≤ 50000000000000000 := by omega
      clear hkl
      go_wp2
      go_ret
      exact ⟨n, rfl, hb2, hbel⟩
theorem c_rWholeX (m r s inst : Int) (a : Option Addr) (cap : Nat) (l : List Tm) (w : World) (hc : l.length ≤ cap) (hs : TmSlice w a l) (hv : SumOk m r l s) (hr : ∀ x ∈ l, 0 < x.rt) (r0 : 0 < r) (i1 : -9223372036854775808 ≤ inst) (i2 : inst ≤ 9223372036854775807) :
    Calls Tryd.prog 82 #[sumV m r a l.length cap s, .int .i64 inst] w fun e w' => ∃ n : Int, e = .returned (.int .i64 n) ∧ (0 ≤ n ∧ n < 1048576000000000) ∧ Below w.heap.size w w' := by
  obtain ⟨av, av1, av2, hA⟩ := c_ArgX r inst r0 (by have := hv.r2; omega) i1 i2
  have HA := Lib.hid hA
  have HU := Lib.hid (fun w1 hs1 => c_rSumX m r s inst a cap l w1 hc hs1 hv hr i1 i2)
  have HS := Lib.hid hs
  clear hv hs hr hA
  have q1 : 0 ≤ av % 1000000 := by omega
  have q2 : av % 1000000 < 1000000 := by omega
  have q3 : 0 ≤ av / 1000000 := by omega
  have q4 : av / 1000000 < 1000000000 := by omega
  have HM := Lib.hid (fun n w1 (n1 : -50000000000000000 ≤ n) (n2 : n ≤ 50000000000000000) => c_rMod (n + av / 1000000 * 1048576 + av % 1000000 * 1048576 / 1000000) 1048576000000000 w1 (by omega) (by omega) (by omega) (by omega))
  have hgen := sgen; have hgen2 := sgen2; have hgen3 := sgen3; go_enter Tryd.func82, Tryd.ntmps82
  go_wp2_with (first | (go_at_call 35; refine (HA.out _).mono ?_; rintro e w' ⟨rfl, rfl⟩) | (go_at_call 102; (refine (HU.out _ (HS.out.below (Nat.le_refl _) (by exact belz))).mono ?_); rintro e w1 ⟨n, rfl, ⟨bd1, bd2⟩, hb⟩; have hz := hb.size; (try simp only [szA, szS, szD, szN] at hz); (try (refine bcB (n := w.heap.size) hb ?_; intro h_w_0 e_w_0 d_w_0 _ _))) | (go_at_call 16; refine (HM.out _ _ bd1 bd2).mono ?_; rintro e w' ⟨rfl, rfl⟩))
  go_ret
  refine ⟨_, rfl, ⟨by omega, by omega⟩, ?_⟩
  exact belz
theorem c_SunLonK (t k : Int) (w : World) (k1 : -8 ≤ k) (k2 : k ≤ 8) (i1 : -9223372036854775808 ≤ t) (i2 : t ≤ 9223372036854775807) :
    Calls Tryd.prog 56 #[.int .i64 t, .int .i64 k] w fun e w' => ∃ m : Int, e = .returned (.int .i64 m) ∧ (0 ≤ m ∧ m < 1048576000000000) ∧ Below w.heap.size w w' := by
  have HW := Lib.hid (fun a w1 hs1 => c_rWholeX 775342092 2737909333333 2000 t a 2 sunL w1 (Nat.le_refl _) hs1 (sumOk_of sun_e) (by decide) (by decide) i1 i2)
  have HM := Lib.hid (fun n w1 (n1 : 0 ≤ n) (n2 : n < 1048576000000000) => c_rMod (n + 250 * k * 1048576) 1048576000000000 w1 (by omega) (by omega) (by omega) (by omega))
  have e1 : IntKind.i64.wrap (250 * k) = 250 * k := IntWalk.i64_in _ (by omega)
  have e2 : IntKind.i64.wrap (250 * k * 1048576) = 250 * k * 1048576 := IntWalk.i64_in _ (by omega)
  have hgen := sgen; have hgen2 := sgen2; have hgen3 := sgen3; go_enter Tryd.func56, Tryd.ntmps56
  go_wp2_with (first | (go_at_call 83; (refine (c_sunSum _).mono ?_); rintro e w1 ⟨b, rfl, hb, hm⟩; have hz := hb.size; (try simp only [szA, szS, szD, szN] at hz); (try (refine bcB (n := w.heap.size) hb ?_; intro h_w_0 e_w_0 d_w_0 _ _))) | (go_at_call 82; (refine (HW.out _ _ hm).mono ?_); rintro e w2 ⟨n, rfl, ⟨bd1, bd2⟩, hb⟩; have hz := hb.size; (try simp only [szA, szS, szD, szN] at hz); (try (refine bcB (n := w.heap.size) hb ?_; intro h_w_0 e_w_0 d_w_0 _ _)); (try (refine bcB (n := w1.heap.size) hb ?_; intro h_w1_0 e_w1_0 d_w1_0 _ _))) | (go_at_call 16; refine (HM.out _ _ bd1 bd2).mono ?_; rintro e w' ⟨rfl, rfl⟩))
  go_ret
  refine ⟨_, rfl, ⟨by omega, by omega⟩, ?_⟩
  exact belz
theorem c_SunLonX (t : Int) (w : World) (i1 : -9223372036854775808 ≤ t) (i2 : t ≤ 9223372036854775807) :
    Calls Tryd.prog 56 #[.int .i64 t, .int .i64 0] w fun e w' => ∃ m : Int, e = .returned (.int .i64 m) ∧ (0 ≤ m ∧ m < 1048576000000000) ∧ Below w.heap.size w w' := c_SunLonK t 0 w (by omega) (by omega) i1 i2
theorem c_SinCosB (B : Int) (w : World) (b0 : 0 ≤ B) (b1 : B < 1000000000000000) : Calls Tryd.prog 15 #[.int .i64 B] w fun e w' => e = .returned (.tuple #[.int .i64 (sc B).1, .int .i64 (sc B).2]) ∧ w = w' := by
  have h := c_SinCos B w (by omega) (by omega)
  have e : B % 1000000000000000 = B := by omega
  rw [e] at h
  exact h
theorem tdiv_q {n : Int} (h1 : -1160000000000000000 ≤ n) (h2 : n ≤ 1160000000000000000) : -70900000000000 ≤ n.tdiv 16384 ∧ n.tdiv 16384 ≤ 70900000000000 := by
  by_cases c : 0 ≤ n
  · rw [Int.tdiv_eq_ediv_of_nonneg c]; omega
  · have := Int.neg_tdiv n 16384
    rw [Int.tdiv_eq_ediv_of_nonneg (by omega)] at this
    omega
/-- The reference's Planet, told by what Helio and SunLon tell. -/
theorem c_rPlanetV (s : ByteArray) (t r A : Int) (P : Int → Prop) (w : World) (r0 : 0 < r) (r1 : r ≤ 9537) (A0 : 0 ≤ A) (A1 : A < 1000000000000000) (hP : ∀ m, P m → 0 ≤ m ∧ m < 1048576000000000)
    (hH : ∀ w1, Calls Tryd.prog 54 #[.string s, .int .i64 t] w1 fun e w' => e = .returned (.tuple #[.int .i64 r, .int .i64 A, .bool true]) ∧ Below w1.heap.size w1 w')
    (hL : ∀ w1, Calls Tryd.prog 56 #[.int .i64 t, .int .i64 0] w1 fun e w' => ∃ m : Int, e = .returned (.int .i64 m) ∧ P m ∧ Below w1.heap.size w1 w') :
    Calls Tryd.prog 22 #[.string s, .int .i64 t] w fun e w' => ∃ m, P m ∧ e = .returned (.tuple #[.int .i64 (plF r (sc A).1 (sc (argU m)).1), .int .i64 (plF r (sc A).2 (sc (argU m)).2), .bool true]) ∧ Below w.heap.size w w' := by
  have HH := Lib.hid hH
  have HL := Lib.hid hL
  have HS1 := Lib.hid (fun w1 => c_SinCosB A w1 A0 A1)
  have HS2 := Lib.hid (fun B w1 (b0 : 0 ≤ B) (b1 : B < 1000000000000000) => c_SinCosB B w1 b0 b1)
  have HA := Lib.hid (fun m w1 (m0 : 0 ≤ m) (m1 : m < 1048576000000000) => c_argument m w1 (by omega) (by omega))
  obtain ⟨g1, g2, g3, g4⟩ := sc_bds A A0 A1
  have HPm := Lib.hid hP
  have HSB := Lib.hid sc_bds
  clear hH hL hP
  have hgen := sgen; have hgen2 := sgen2; have hgen3 := sgen3; go_enter Tryd.func22, Tryd.ntmps22
  go_upto_region 6 with (first | (go_at_call 54; (with_reducible refine (HH.out _).mono ?_); rintro e w1 ⟨rfl, hb⟩; have hz := hb.size; (try simp only [szA, szS, szD, szN] at hz); (try (refine bcB (n := w.heap.size) hb ?_; intro h_w_0 e_w_0 d_w_0 _ _))) | (go_at_call 15; (with_reducible refine (HS1.out _).mono ?_); rintro e w' ⟨rfl, rfl⟩) | (go_at_call 56; (refine (HL.out _).mono ?_); rintro e w2 ⟨m, rfl, hPm, hb⟩; have hz := hb.size; (try simp only [szA, szS, szD, szN] at hz); (try (refine bcB (n := w.heap.size) hb ?_; intro h_w_0 e_w_0 d_w_0 _ _)); (try (refine bcB (n := w1.heap.size) hb ?_; intro h_w1_0 e_w1_0 d_w1_0 _ _))) | (go_at_call 55; (with_reducible refine (HA.out _ _ (HPm.out _ hPm).1 (HPm.out _ hPm).2).mono ?_); rintro e w' ⟨rfl, rfl⟩) | (go_at_call 15; (with_reducible refine (HS2.out _ _ (argU_bd _).1 (argU_bd _).2).mono ?_); rintro e w' ⟨rfl, rfl⟩))
  obtain ⟨g5, g6, g7, g8⟩ := HSB.out (argU m) (argU_bd m).1 (argU_bd m).2
  have key : ∀ u v : Int, plF r u v = u.tdiv 16384 * r + v.tdiv 16384 * 1000 := fun _ _ => rfl
  have K1 := Lib.hid (key (sc A).1 (sc (argU m)).1)
  have K2 := Lib.hid (key (sc A).2 (sc (argU m)).2)
  obtain ⟨a1, a2⟩ := tdiv_q g1 g2
  obtain ⟨a3, a4⟩ := tdiv_q g3 g4
  obtain ⟨a5, a6⟩ := tdiv_q g5 g6
  obtain ⟨a7, a8⟩ := tdiv_q g7 g8
  have e1 : IntKind.i64.wrap ((sc A).1.tdiv 16384) = (sc A).1.tdiv 16384 := IntWalk.i64_in _ (by omega)
  have f1 : wrap64 ((sc A).1.tdiv 16384) = (sc A).1.tdiv 16384 := (IntWalk.i64_left _).symm.trans e1
  have e2 : IntKind.i64.wrap ((sc A).2.tdiv 16384) = (sc A).2.tdiv 16384 := IntWalk.i64_in _ (by omega)
  have f2 : wrap64 ((sc A).2.tdiv 16384) = (sc A).2.tdiv 16384 := (IntWalk.i64_left _).symm.trans e2
  have e3 : IntKind.i64.wrap ((sc (argU m)).1.tdiv 16384) = (sc (argU m)).1.tdiv 16384 := IntWalk.i64_in _ (by omega)
  have f3 : wrap64 ((sc (argU m)).1.tdiv 16384) = (sc (argU m)).1.tdiv 16384 := (IntWalk.i64_left _).symm.trans e3
  have e4 : IntKind.i64.wrap ((sc (argU m)).2.tdiv 16384) = (sc (argU m)).2.tdiv 16384 := IntWalk.i64_in _ (by omega)
  have f4 : wrap64 ((sc (argU m)).2.tdiv 16384) = (sc (argU m)).2.tdiv 16384 := (IntWalk.i64_left _).symm.trans e4
  have mr : ∀ p : Int, -70900000000000 ≤ p → p ≤ 70900000000000 → -676173300000000000 ≤ p * r ∧ p * r ≤ 676173300000000000 := by
    intro p h1 h2
    have k1 := Int.mul_le_mul_of_nonneg_right h1 (show 0 ≤ r by omega)
    have k2 := Int.mul_le_mul_of_nonneg_right h2 (show 0 ≤ r by omega)
    constructor <;> omega
  obtain ⟨b1, b2⟩ := mr _ a1 a2
  obtain ⟨b3, b4⟩ := mr _ a3 a4
  have h1 : IntKind.i64.wrap ((sc A).1.tdiv 16384 * r) = (sc A).1.tdiv 16384 * r := IntWalk.i64_in _ (by omega)
  have h2 : IntKind.i64.wrap ((sc A).2.tdiv 16384 * r) = (sc A).2.tdiv 16384 * r := IntWalk.i64_in _ (by omega)
  have h3 : IntKind.i64.wrap ((sc (argU m)).1.tdiv 16384 * 1000) = (sc (argU m)).1.tdiv 16384 * 1000 := IntWalk.i64_in _ (by omega)
  have h4 : IntKind.i64.wrap ((sc (argU m)).2.tdiv 16384 * 1000) = (sc (argU m)).2.tdiv 16384 * 1000 := IntWalk.i64_in _ (by omega)
  have h5 : IntKind.i64.wrap ((sc A).1.tdiv 16384 * r + (sc (argU m)).1.tdiv 16384 * 1000) = (sc A).1.tdiv 16384 * r + (sc (argU m)).1.tdiv 16384 * 1000 := IntWalk.i64_in _ (by omega)
  have h6 : IntKind.i64.wrap ((sc A).2.tdiv 16384 * r + (sc (argU m)).2.tdiv 16384 * 1000) = (sc A).2.tdiv 16384 * r + (sc (argU m)).2.tdiv 16384 * 1000 := IntWalk.i64_in _ (by omega)
  clear key mr g1 g2 g3 g4 g5 g6 g7 g8 a1 a2 a3 a4 a5 a6 a7 a8 b1 b2 b3 b4
  go_wp2
  refine bodyPost_ret (v := .tuple #[.int .i64 ((sc A).1.tdiv 16384 * r + (sc (argU m)).1.tdiv 16384 * 1000), .int .i64 ((sc A).2.tdiv 16384 * r + (sc (argU m)).2.tdiv 16384 * 1000), .bool true]) (by simp only [results, Tryd.results22]; go_simp) rfl ⟨m, hPm, by rw [K1.out, K2.out], ?_⟩
  exact belz
theorem c_rPlanetN (s : ByteArray) (t : Int) (w : World) (hH : ∀ w1, Calls Tryd.prog 54 #[.string s, .int .i64 t] w1 fun e w' => e = .returned (.tuple #[.int .i64 0, .int .i64 0, .bool false]) ∧ Below w1.heap.size w1 w') :
    Calls Tryd.prog 22 #[.string s, .int .i64 t] w fun e w' => e = .returned (.tuple #[.int .i64 0, .int .i64 0, .bool false]) ∧ Below w.heap.size w w' := by
  have HH := Lib.hid hH
  clear hH
  have hgen := sgen; have hgen2 := sgen2; have hgen3 := sgen3; go_enter Tryd.func22, Tryd.ntmps22
  go_wp2_with (go_at_call 54; (with_reducible refine (HH.out _).mono ?_); rintro e w1 ⟨rfl, hb⟩; have hz := hb.size; (try simp only [szA, szS, szD, szN] at hz); (try (refine bcB (n := w.heap.size) hb ?_; intro h_w_0 e_w_0 d_w_0 _ _)))
  refine bodyPost_ret (v := .tuple #[.int .i64 0, .int .i64 0, .bool false]) (by simp only [results, Tryd.results22]; go_simp) rfl ⟨rfl, ?_⟩
  exact belz
theorem pLo_one {al ah n : Int} (n0 : 0 < n) (n1 : n ≤ 10000) (ho : al ≤ ah) (a0 : -1000000000 ≤ al) (a1 : ah ≤ 1000000000) : pLo al ah n n 1 = n * al ∧ pHi al ah n n 1 = n * ah := by
  have key : ∀ a : Int, -1000000000 ≤ a → a ≤ 1000000000 → ratLo a n 1 = n * a ∧ ratHi a n 1 = n * a := by
    intro a h0 h1
    obtain ⟨e1, e2⟩ := rat_x a n 1
    have m1 := Int.mul_le_mul_of_nonneg_right h0 (show 0 ≤ n by omega)
    have m2 := Int.mul_le_mul_of_nonneg_right h1 (show 0 ≤ n by omega)
    have c : a * n = n * a := Int.mul_comm a n
    obtain ⟨p1, p2, -⟩ := rl_in (X := a * n) (d := 1) (by decide) (by omega) (by omega)
    obtain ⟨q1, q2, -⟩ := rh_in (X := a * n) (d := 1) (by decide) (by omega) (by omega)
    rw [e1, e2]
    constructor <;> omega
  obtain ⟨k1, k2⟩ := key al a0 (by omega)
  obtain ⟨k3, k4⟩ := key ah (by omega) a1
  have m := Int.mul_le_mul_of_nonneg_left ho (show 0 ≤ n by omega)
  unfold pLo pHi
  rw [k1, k2, k3, k4]
  constructor <;> omega
theorem c_ptimes (al ah n : Int) (w : World) (ha : Sp1 al ah) (n0 : 0 < n) (n1 : n ≤ 10000) :
    Calls Tryd.prog 53 #[.agg #[.int .i64 al, .int .i64 ah], .int .i64 n] w fun e w' => e = .returned (.agg #[.int .i64 (n * al), .int .i64 (n * ah)]) ∧ Below w.heap.size w w' := by
  obtain ⟨a0, a1, a2⟩ := ha
  have hr : ∀ a : Int, -1000000000 ≤ a → a ≤ 1000000000 → RatOk a n 1 := by
    intro a h0 h1
    left
    have h1 := absI_bd (a := a) (m := 1000000000) (by omega) (by omega)
    have h2 := absI_bd (a := n) (m := 10000) (by omega) (by omega)
    have h := Int.mul_le_mul h1 h2 (absI_nn n) (by decide)
    omega
  have hp := fun w1 => c_product al ah n n 1 w1 (by omega) (by omega) (by omega) (by omega) (by omega) (by omega) (by omega) (by omega) (by omega) (by omega) (hr al (by omega) (by omega)) (hr al (by omega) (by omega)) (hr ah (by omega) (by omega)) (hr ah (by omega) (by omega))
  obtain ⟨e1, e2⟩ := pLo_one n0 n1 a0 a1 a2
  rw [e1, e2] at hp
  have HP := Lib.hid hp
  clear hp hr e1 e2
  generalize n * al = p at *
  generalize n * ah = q at *
  have hgen := sgen; have hgen2 := sgen2; have hgen3 := sgen3; go_enter Tryd.func53, Tryd.ntmps53
  go_wp2_with (go_at_call 78; (refine (HP.out _).mono ?_); rintro e w1 ⟨rfl, hb⟩; have hz := hb.size; (try simp only [szA, szS, szD, szN] at hz); (try (refine bcB (n := w.heap.size) hb ?_; intro h_w_0 e_w_0 d_w_0 _ _)); (try (refine bcB (n := w.heap.size + 1) hb ?_; intro h_w_1 e_w_1 d_w_1 _ _)); (try (refine bcB (n := w.heap.size + 1 + 1) hb ?_; intro h_w_2 e_w_2 d_w_2 _ _)))
  refine bodyPost_ret (v := .agg #[.int .i64 p, .int .i64 q]) (by simp only [results, Tryd.results53]; go_simp) rfl ⟨rfl, ?_⟩
  exact belz
theorem c_PlusB (al ah bl bh : Int) (w : World) (a1 : -20000000000000 ≤ al) (a2 : al ≤ 20000000000000) (a3 : -20000000000000 ≤ ah) (a4 : ah ≤ 20000000000000) (b1 : -20000000000000 ≤ bl) (b2 : bl ≤ 20000000000000) (b3 : -20000000000000 ≤ bh) (b4 : bh ≤ 20000000000000) :
    Calls Tryd.prog 52 #[.agg #[.int .i64 al, .int .i64 ah], .agg #[.int .i64 bl, .int .i64 bh]] w fun e w' => e = .returned (.agg #[.int .i64 (al + bl), .int .i64 (ah + bh)]) ∧ Below w.heap.size w w' := by
  have hgen := sgen; have hgen2 := sgen2; have hgen3 := sgen3; go_enter Tryd.func52, Tryd.ntmps52
  go_wp2
  refine bodyPost_ret (v := .agg #[.int .i64 (al + bl), .int .i64 (ah + bh)]) (by simp only [results, Tryd.results52]; go_simp) rfl ⟨rfl, ?_⟩
  exact belz
end Go.Proofs.YtjkhoepohiafeaaDoor
