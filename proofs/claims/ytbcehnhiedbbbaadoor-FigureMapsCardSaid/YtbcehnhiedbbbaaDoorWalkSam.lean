/- The contract of the law's sameFigure, at two figures that hold the same. -/
import Derived.Test.YtbcehnhiedbbbaaDoorWalkFg
import Derived.Deep.QuietTactic
import Derived.BigQuiet
set_option linter.unusedVariables false
set_option linter.unusedSimpArgs false
namespace Go.Proofs.YtbcehnhiedbbbaaDoor
open Go.RowKit
structure SmAt (w : World) (B : Nat) (a b a' b' : Option Addr) (np nl ca cb ca' cb' : Nat) : Prop where
  c0 : w.cell? ⟨B, 0, none⟩ = some (.slice a np ca)
  c1 : w.cell? ⟨B, 1, none⟩ = some (.slice b nl cb)
  d0 : w.cell? ⟨B + 1, 0, none⟩ = some (.slice a' np ca')
  d1 : w.cell? ⟨B + 1, 1, none⟩ = some (.slice b' nl cb')
  lt : B + 1 < w.heap.size
set_option maxRecDepth 100000 in
set_option maxHeartbeats 4000000 in
theorem c_same (a b a' b' : Option Addr) (ca cb ca' cb' : Nat) (P : List Fp) (L : List (List Int)) (w : World) (hP : FpSlice w a P) (hL : MatSlice w b L) (hP' : FpSlice w a' P) (hL' : MatSlice w b' L) (hpm : P.length ≤ maxLen) (hlm : L.length ≤ maxLen) (hrm : ∀ r ∈ L, r.length ≤ maxLen) :
    Calls Tryd.prog 32 #[.agg #[.slice a P.length ca, .slice b L.length cb], .agg #[.slice a' P.length ca', .slice b' L.length cb']] w fun e w' => e = .returned (.bool true) ∧ Below w.heap.size w w' := by
  unfold maxLen at hpm hlm hrm
  have HP := Lib.hid hP
  have HL := Lib.hid hL
  have HP2 := Lib.hid hP'
  have HL2 := Lib.hid hL'
  clear hP hL hP' hL'
  have hgen := sgen; have hgen2 := sgen2; have hgen3 := sgen3; go_enter Tryd.func32, Tryd.ntmps32
  go_wp2
  go_loopg [27] P.length (fun gk i wr => ∃ k : Nat, gk + k = P.length ∧ i = .int .i64 k ∧ SmAt wr w.heap.size a b a' b' P.length L.length ca cb ca' cb' ∧ Below w.heap.size w wr)
  case atStart =>
    refine ⟨0, by omega, rfl, ⟨by go_simp, by go_simp, by go_simp, by go_simp, by simp⟩, by exact belz⟩
  case round =>
    obtain ⟨k, hk, rfl, hS, hbel⟩ := hrel
    obtain ⟨s0, s1, s2, s3, slt⟩ := hS
    by_cases hlt : k < P.length
    · obtain ⟨bb, off, ha, hb1, c0, c1, c2, c3⟩ := (HP.out.below (Nat.le_refl _) hbel) k hlt
      obtain ⟨bb', off', ha', hb1', c0', c1', c2', c3'⟩ := (HP2.out.below (Nat.le_refl _) hbel) k hlt
      have ix1 := @ix_Fp a bb off P.length ca k ha hlt
      have ix2 := @ix_Fp a' bb' off' P.length ca' k ha' hlt
      clear ha ha'
      generalize P[k] = x at *
      obtain ⟨xn, xd, yn, yd⟩ := x
      dsimp only at c0 c1 c2 c3 c0' c1' c2' c3'
      go_upto_region 6 with fail
      go_quiet (fail)
      go_wp2_with fail
      go_roundg (P.length - (k + 1))
      case measure => omega
      case rel =>
        refine ⟨k + 1, by omega, by go_num, ⟨by go_simp, by go_simp, by go_simp, by go_simp, by (first | (simp; done) | (simp; omega))⟩, by exact belz⟩
    · obtain rfl : k = P.length := by omega
      clear hlt
      obtain ⟨wo, rfl⟩ : ∃ wo : World, wo = wr := ⟨_, rfl⟩
      go_wp2_with fail
      go_loopg [45] L.length (fun gk i wr => ∃ m : Nat, gk + m = L.length ∧ i = .int .i64 m ∧ SmAt wr w.heap.size a b a' b' P.length L.length ca cb ca' cb' ∧ Below w.heap.size w wr)
      case atStart => exact ⟨0, by omega, rfl, ⟨s0, s1, s2, s3, slt⟩, hbel⟩
      case round =>
        clear s0 s1 s2 s3 slt hbel
        obtain ⟨m, hm, rfl, hS, hbel⟩ := hrel
        obtain ⟨s0, s1, s2, s3, slt⟩ := hS
        by_cases hlt : m < L.length
        · obtain ⟨bb, off, v, ha, hb1, c0w, ⟨⟨ar, cr, rfl, hcr, hI⟩⟩⟩ := HL.out m hlt
          obtain ⟨bb', off', v', ha', hb1', c0w', ⟨⟨ar', cr', rfl, hcr', hI'⟩⟩⟩ := HL2.out m hlt
          have c0 := (hbel.cell (p := ⟨bb, off + m, none⟩) hb1).trans c0w
          have c0' := (hbel.cell (p := ⟨bb', off' + m, none⟩) hb1').trans c0w'
          have ix1 := @ix_Row b bb off L.length cb m ha hlt
          have ix2 := @ix_Row b' bb' off' L.length cb' m ha' hlt
          have hrl := hrm _ (List.getElem_mem hlt)
          clear ha ha'
          generalize L[m] = r at *
          have HI := Lib.hid hI
          have HI2 := Lib.hid hI'
          clear hI hI'
          go_upto_region 12 with fail
          go_quiet (fail)
          go_wp2_with fail
          go_loopg [67] r.length (fun gk i wr => ∃ j : Nat, gk + j = r.length ∧ i = .int .i64 j ∧ SmAt wr w.heap.size a b a' b' P.length L.length ca cb ca' cb' ∧ Below w.heap.size w wr)
          case atStart => exact ⟨0, by omega, rfl, ⟨by go_simp, by go_simp, by go_simp, by go_simp, by (first | (simp; done) | (simp; omega))⟩, by exact belz⟩
          case round =>
            clear s0 s1 s2 s3 slt hbel c0 c0'
            obtain ⟨j, hj, rfl, hS, hbel⟩ := hrel
            obtain ⟨s0, s1, s2, s3, slt⟩ := hS
            have c0 := (hbel.cell (p := ⟨bb, off + m, none⟩) hb1).trans c0w
            have c0' := (hbel.cell (p := ⟨bb', off' + m, none⟩) hb1').trans c0w'
            by_cases hlj : j < r.length
            · obtain ⟨b3, off3, ha3, hb3, c3⟩ := (HI.out.below (Nat.le_refl _) hbel) j hlj
              obtain ⟨b4, off4, ha4, hb4, c4⟩ := (HI2.out.below (Nat.le_refl _) hbel) j hlj
              have ix3 := @ix_Int ar b3 off3 r.length cr j ha3 hlj
              have ix4 := @ix_Int ar' b4 off4 r.length cr' j ha4 hlj
              clear ha3 ha4
              generalize r[j] = x at *
              go_upto_region 17 with fail
              go_quiet (fail)
              go_wp2_with fail
              go_roundg (r.length - (j + 1))
              case measure => omega
              case rel => exact ⟨j + 1, by omega, by go_num, ⟨by go_simp, by go_simp, by go_simp, by go_simp, by (first | (simp; done) | (simp; omega))⟩, by exact belz⟩
            · obtain rfl : j = r.length := by omega
              go_wp2_with fail
              go_roundg (L.length - (m + 1))
              case measure => omega
              case rel => exact ⟨m + 1, by omega, by go_num, ⟨s0, s1, s2, s3, slt⟩, hbel⟩
        · obtain rfl : m = L.length := by omega
          go_wp2_with fail
          go_ret
          exact ⟨rfl, hbel⟩
end Go.Proofs.YtbcehnhiedbbbaaDoor
