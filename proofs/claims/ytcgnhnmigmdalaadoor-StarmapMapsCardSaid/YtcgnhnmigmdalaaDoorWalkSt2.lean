/- Contracts of the reference's Star. -/
import Derived.Test.YtcgnhnmigmdalaaDoorStA
import Derived.Test.YtcgnhnmigmdalaaDoorWalkDir
set_option linter.unusedVariables false
set_option linter.unusedSimpArgs false
set_option maxRecDepth 100000
namespace Go.Proofs.YtcgnhnmigmdalaaDoor
open Go.RowKit
structure RsMem (w : World) (b : Nat) : Prop where
  lt : b + 3 < w.heap.size
  c0 : w.cell? ⟨b, 0, none⟩ = some (.int .i64 0)
  c1 : w.cell? ⟨b, 1, none⟩ = some (.int .i64 0)
  c2 : w.cell? ⟨b, 2, none⟩ = some (.int .i64 0)
  f0 : w.frozen? ⟨b, 0, none⟩ = false
  f1 : w.frozen? ⟨b, 1, none⟩ = false
  f2 : w.frozen? ⟨b, 2, none⟩ = false
  n : ∀ j, j < 8 → w.cell? ⟨b + 1, j, none⟩ = some (.string ⟨(stNm j).toArray⟩)
  a : ∀ j, j < 8 → w.cell? ⟨b + 1 + 1, j, none⟩ = some (.int .i64 (stRa j))
  d : ∀ j, j < 8 → w.cell? ⟨b + 1 + 1 + 1, j, none⟩ = some (.int .i64 (stDec j))
/-- The argument of a star's right ascension. -/
def stArg (v : Int) (K : Nat) : Int := (v + stRa K * 1000000) % 1000000000000000
def stArgD (K : Nat) : Int := stDec K * 1000000 % 1000000000000000
theorem c_rStar (s : ByteArray) (t v : Int) (K : Nat) (w : World) (hK : IsSt K s) (hK8 : K < 8) (v0 : 0 ≤ v) (v1 : v < 1000000000000000) (HA : Hid (∀ w1 : World, Calls Tryd.prog 47 #[.int .i64 97300000, .int .i64 t] w1 fun e w' => e = .returned (.int .i64 v) ∧ w1 = w')) :
    Calls Tryd.prog 20 #[.string s, .int .i64 t] w fun e w' => e = .returned (.tuple #[.agg #[.int .i64 (fm (sc (stArgD K)).2 (sc (stArg v K)).2), .int .i64 (fm (sc (stArgD K)).2 (sc (stArg v K)).1), .int .i64 (sc (stArgD K)).1], .bool true]) ∧ Below w.heap.size w w' := by
  have HK := Lib.hid hK
  obtain ⟨g1, g2, g3, g4⟩ := st_rng K hK8
  have hs1 := fun w1 => c_SinCos (v + stRa K * 1000000) w1 (by omega) (by omega)
  have hs2 := fun w1 => c_SinCos (stDec K * 1000000) w1 (by omega) (by omega)
  have e1 : (v + stRa K * 1000000) % 1000000000000000 = stArg v K := rfl
  have e2 : stDec K * 1000000 % 1000000000000000 = stArgD K := rfl
  rw [e1] at hs1
  rw [e2] at hs2
  obtain ⟨a1, a2, a3, a4⟩ := sc_bds (stArg v K) (by unfold stArg; omega) (by unfold stArg; omega)
  obtain ⟨d1, d2, d3, d4⟩ := sc_bds (stArgD K) (by unfold stArgD; omega) (by unfold stArgD; omega)
  have HS1 := Lib.hid hs1
  have HS2 := Lib.hid hs2
  clear hs1 hs2 e1 e2 hK
  generalize (sc (stArg v K)).1 = sa at *
  generalize (sc (stArg v K)).2 = ca at *
  generalize (sc (stArgD K)).1 = sd at *
  generalize (sc (stArgD K)).2 = cd at *
  generalize hra : stRa K = ra at *
  generalize hdec : stDec K = dec at *
  have HRA := Lib.hid hra
  have HDE := Lib.hid hdec
  clear hra hdec
  have hgen := sgen; have hgen2 := sgen2; have hgen3 := sgen3; go_enter Tryd.func20, Tryd.ntmps20
  go_wp2_with fail
  go_loopg [20] 8 (fun gk i wr => ∃ k : Nat, k ≤ K ∧ gk + k = 8 ∧ i = .int .i64 k ∧ Below w.heap.size w wr ∧ RsMem wr w.heap.size)
  case atStart =>
    refine ⟨0, by omega, by omega, rfl, by exact belz, ?_⟩
    constructor
    all_goals first | (go_simp; done) | (intro j hj; (rcases (show j = 0 ∨ j = 1 ∨ j = 2 ∨ j = 3 ∨ j = 4 ∨ j = 5 ∨ j = 6 ∨ j = 7 by omega) with rfl | rfl | rfl | rfl | rfl | rfl | rfl | rfl) <;> (simp only [stNm, stRa, stDec]; go_simp))
  case round =>
    obtain ⟨k, hkK, hk, rfl, hbel, hR⟩ := hrel
    have hsz := hbel.size
    have HR := Lib.hid hR
    have HBL := Lib.hid hbel
    obtain ⟨r0, r1, r2, r3, r4, r5, r6, rn, rA, rD⟩ := hR
    have hk8 : decide ((k : Int) < 8) = true := decide_eq_true (by omega)
    have cn := rn k (by omega)
    have cA := rA k (by omega)
    have cD := rD k (by omega)
    clear rn rA rD
    by_cases hlt : k < K
    · have hq : (stNm k == s.toList) = false := HK.out.1 k hlt
      generalize stNm k = nm at *
      go_wp2
      go_roundg (gk - 1)
      case measure => omega
      case rel =>
        have hbl := HBL.out
        exact ⟨k + 1, by omega, by omega, by go_num, by exact belz, HR.out⟩
    · obtain rfl : k = K := by omega
      have hq : (stNm k == s.toList) = true := HK.out.2 hK8
      rw [HRA.out] at cA
      rw [HDE.out] at cD
      generalize stNm k = nm at *
      have w1' : IntKind.i64.wrap (ra * 1000000) = ra * 1000000 := IntWalk.i64_in _ (by omega)
      have w2' : IntKind.i64.wrap (v + ra * 1000000) = v + ra * 1000000 := IntWalk.i64_in _ (by omega)
      go_wp2_with fail
      go_quiet ((first | (go_at_call 47; exact Calls.quiet_of_same ((HA.out _).mono (fun e w' ⟨h1, h2⟩ => ⟨h1, h2.symm⟩))) | (go_at_call 46; exact Calls.quiet_of_same ((HS1.out _).mono (fun e w' ⟨h1, h2⟩ => ⟨h1, h2.symm⟩)))))
      go_wp2_with (first | (go_at_call 46; (with_reducible refine (HS2.out _).mono ?_); rintro e w' ⟨rfl, rfl⟩) | (go_at_call 48; (with_reducible refine (c_fMul _ _ _ (by omega) (by omega) (by omega) (by omega)).mono ?_); rintro e w' ⟨rfl, rfl⟩))
      refine bodyPost_ret (v := .tuple #[.agg #[.int .i64 (fm cd ca), .int .i64 (fm cd sa), .int .i64 sd], .bool true]) (by simp only [results, Tryd.results20]; go_simp) rfl ⟨rfl, ?_⟩
      have hbl := HBL.out
      exact belz
theorem c_rStarN (s : ByteArray) (t : Int) (w : World) (hK : IsSt 8 s) :
    Calls Tryd.prog 20 #[.string s, .int .i64 t] w fun e w' => e = .returned (.tuple #[.agg #[.int .i64 0, .int .i64 0, .int .i64 0], .bool false]) ∧ Below w.heap.size w w' := by
  have HK := Lib.hid hK
  clear hK
  have hgen := sgen; have hgen2 := sgen2; have hgen3 := sgen3; go_enter Tryd.func20, Tryd.ntmps20
  go_wp2_with fail
  go_loopg [20] 8 (fun gk i wr => ∃ k : Nat, k ≤ 8 ∧ gk + k = 8 ∧ i = .int .i64 k ∧ Below w.heap.size w wr ∧ RsMem wr w.heap.size)
  case atStart =>
    refine ⟨0, by omega, by omega, rfl, by exact belz, ?_⟩
    constructor
    all_goals first | (go_simp; done) | (intro j hj; (rcases (show j = 0 ∨ j = 1 ∨ j = 2 ∨ j = 3 ∨ j = 4 ∨ j = 5 ∨ j = 6 ∨ j = 7 by omega) with rfl | rfl | rfl | rfl | rfl | rfl | rfl | rfl) <;> (simp only [stNm, stRa, stDec]; go_simp))
  case round =>
    obtain ⟨k, hkK, hk, rfl, hbel, hR⟩ := hrel
    have hsz := hbel.size
    have HR := Lib.hid hR
    have HBL := Lib.hid hbel
    obtain ⟨r0, r1, r2, r3, r4, r5, r6, rn, rA, rD⟩ := hR
    by_cases hlt : k < 8
    · have hk8 : decide ((k : Int) < 8) = true := decide_eq_true (by omega)
      have cn := rn k (by omega)
      have hq : (stNm k == s.toList) = false := HK.out.1 k hlt
      clear rn rA rD
      generalize stNm k = nm at *
      go_wp2
      go_roundg (gk - 1)
      case measure => omega
      case rel =>
        have hbl := HBL.out
        exact ⟨k + 1, by omega, by omega, by go_num, by exact belz, HR.out⟩
    · obtain rfl : k = 8 := by omega
      clear rn rA rD
      go_wp2
      refine bodyPost_ret (v := .tuple #[.agg #[.int .i64 0, .int .i64 0, .int .i64 0], .bool false]) (by simp only [results, Tryd.results20]; go_simp) rfl ⟨rfl, ?_⟩
      have hbl := HBL.out
      exact belz
end Go.Proofs.YtcgnhnmigmdalaaDoor
