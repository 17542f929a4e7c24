/- The contracts of the reference's Times and Product. -/
import Derived.Test.YtjkhoepohiafeaaDoorWalkWideA
import Derived.Deep.QuietTactic
import Derived.BigQuiet
import Derived.BigGuard
set_option linter.unusedVariables false
set_option linter.unusedSimpArgs false
namespace Go.Proofs.YtjkhoepohiafeaaDoor
open Go.RowKit
def TimesIs (neg : Bool) (x : Int) (e : Ending) : Prop := ∃ d, e = .returned (WideV neg d) ∧ Dig d ∧ val6 d = x
set_option maxRecDepth 100000 in
set_option maxHeartbeats 4000000 in
theorem c_times (na nb : Bool) (a b : Nat → Int) (w : World) (ha : Dig a) (hb : Dig b) (a3 : a 3 = 0) (a4 : a 4 = 0) (a5 : a 5 = 0) (b3 : b 3 = 0) (b4 : b 4 = 0) (b5 : b 5 = 0) :
    Calls Tryd.prog 61 #[WideV na a, WideV nb b] w fun e w' => TimesIs (na != nb) (val6 a * val6 b) e ∧ Below w.heap.size w w' := by
  have HA := Lib.hid ha
  have HB := Lib.hid hb
  have HP := Lib.hid (tot_prod a3 a4 a5 b3 b4 b5)
  clear ha hb a3 a4 a5 b3 b4 b5
  unfold WideV
  have hgen := sgen; have hgen2 := sgen2; have hgen3 := sgen3; go_enter Tryd.func61, Tryd.ntmps61
  go_wp2
  go_loopg [18] 3 (fun gk i wr => ∃ (ii : Nat) (d : Nat → Int), gk + ii = 3 ∧ i = .int .i64 ii ∧ Dig d ∧ val6 d = tot a b ii ∧ WideAt wr w.heap.size na a ∧ WideAt wr (w.heap.size + 1) nb b ∧ WideAt wr (w.heap.size + 1 + 1) false (fun _ => 0) ∧ WideAt wr (w.heap.size + 1 + 1 + 1) (na != nb) d ∧ Below w.heap.size w wr)
  case atStart =>
    refine ⟨0, fun _ => 0, rfl, rfl, dig_zero, by rw [val6_zero]; rfl, ?_, ?_, ?_, ?_, ?_⟩
    · constructor <;> (try intro o) <;> go_simp
    · constructor <;> (try intro o) <;> go_simp
    · constructor <;> (try intro o) <;> go_simp
    · constructor <;> (try intro o) <;> go_simp <;> (cases na <;> cases nb <;> rfl)
    · exact belz
  case round =>
    obtain ⟨i, d, hi, rfl, hd, hval, WA, WB, WR, WW, hbel⟩ := hrel
    by_cases hlt : i < 3
    · have hiz : (i : Int) < 3 := by omega
      obtain ⟨wo, rfl⟩ : ∃ wo : World, wo = wr := ⟨_, rfl⟩
      have Q := Lib.hid (show val6 d + 0 * pw (i + 0) = tot a b i + rowS a b i 0 by rw [hval]; simp [rowS])
      have HD := Lib.hid hd
      have HWA := Lib.hid WA; have HWB := Lib.hid WB; have HWR := Lib.hid WR; have HWW := Lib.hid WW
      clear hval hd WA WB WR WW
      go_wp2
      go_loopg [7, 21] 3 (fun gk c k wr => ∃ (kk : Nat) (cc : Int) (d : Nat → Int), gk + kk = 3 ∧ c = .int .i64 cc ∧ k = .int .i64 kk ∧ 0 ≤ cc ∧ cc < 1000000000 ∧ Dig d ∧ val6 d + cc * pw (i + kk) = tot a b i + rowS a b i kk ∧ WideAt wr w.heap.size na a ∧ WideAt wr (w.heap.size + 1) nb b ∧ WideAt wr (w.heap.size + 1 + 1) false (fun _ => 0) ∧ WideAt wr (w.heap.size + 1 + 1 + 1) (na != nb) d ∧ Below w.heap.size w wr)
      case atStart => exact ⟨0, 0, d, rfl, rfl, rfl, by omega, by omega, HD.out, Q.out, HWA.out, HWB.out, HWR.out, HWW.out, hbel⟩
      case round =>
        clear HWA HWB HWR HWW hbel HD Q d
        obtain ⟨k, c, d, hk, rfl, rfl, c0, c1, hd, hval, WA, WB, WR, WW, hbel⟩ := hrel
        by_cases hkt : k < 3
        · have hkz : (k : Int) < 3 := by omega
          have e1 := WA.cell (show i < 6 by omega)
          have e2 := WB.cell (show k < 6 by omega)
          have e3 := WW.cell (show i + k < 6 by omega)
          have e4 := WW.fr (1 + (i + k))
          have x0 := HA.out.lo i (by omega)
          have x1 := HA.out.hi i (by omega)
          have y0 := HB.out.lo k (by omega)
          have y1 := HB.out.hi k (by omega)
          have z0 := hd.lo (i + k) (by omega)
          have z1 := hd.hi (i + k) (by omega)
          obtain ⟨p0, p1⟩ := prod_bd x0 x1 y0 y1
          have HS := Lib.hid (mul_step (show i + k < 6 by omega) hd p0 p1 c0 c1 hval)
          have HWA := Lib.hid WA; have HWB := Lib.hid WB; have HWR := Lib.hid WR; have HWW := Lib.hid WW
          have hsz := hbel.size
          clear hval hd WA WB WR WW
          have r1 : IntKind.i64.wrap ((i : Int) + (k : Int)) = (i : Int) + (k : Int) := IntWalk.i64_in _ (by omega)
          have r2 : 0 ≤ (i : Int) + (k : Int) := by omega
          have r3 : ((i : Int) + (k : Int)).toNat = i + k := by omega
          have r8 : (i : Int) + (k : Int) < 6 := by omega
          have r9 : (i : Int) < 6 := by omega
          have r10 : (k : Int) < 6 := by omega
          have r4 : IntKind.i64.wrap (a i * b k) = a i * b k := IntWalk.i64_in _ (by omega)
          have r5 : IntKind.i64.wrap (d (i + k) + a i * b k) = d (i + k) + a i * b k := IntWalk.i64_in _ (by omega)
          have r6 : IntKind.i64.wrap (d (i + k) + a i * b k + c) = d (i + k) + a i * b k + c := IntWalk.i64_in _ (by omega)
          have r11 : 0 ≤ d (i + k) + a i * b k + c := by omega
          have r12 : d (i + k) + a i * b k + c ≤ 1000000000000000000 := by omega
          go_wp2
          go_quiet (fail)
          go_wp2
          go_roundg (2 - k)
          case measure => omega
          case rel =>
            obtain ⟨s1, s2, s3, s4⟩ := HS.out
            refine ⟨k + 1, _, _, by omega, rfl, by go_num, s3, s4, s2, s1.trans ?_, (HWA.out.below (by exact belz)).setOther (by omega) _ _, (HWB.out.below (by exact belz)).setOther (by omega) _ _, (HWR.out.below (by exact belz)).setOther (by omega) _ _, (HWW.out.below (by exact belz)).set _ _ (by omega), ?_⟩
            · show _ = tot a b i + (rowS a b i k + a i * b k * pw (i + k))
              omega
            · exact belz
        · obtain rfl : k = 3 := by omega
          obtain ⟨wi, rfl⟩ : ∃ wi : World, wi = wr := ⟨_, rfl⟩
          have HQ := Lib.hid (show val6 d + c * pw (i + 3) = tot a b (i + 1) from hval)
          have HD := Lib.hid hd
          have HWA := Lib.hid WA; have HWB := Lib.hid WB; have HWR := Lib.hid WR; have HWW := Lib.hid WW
          have r1 : IntKind.i64.wrap ((i : Int) + 3) = (i : Int) + 3 := IntWalk.i64_in _ (by omega)
          clear hval hd WA WB WR WW
          go_wp2
          go_loopg [7, 10] (3 - i) (fun gk c k wr => ∃ (kk : Nat) (cc : Int) (d : Nat → Int), gk + kk = 6 ∧ i + 3 ≤ kk ∧ c = .int .i64 cc ∧ k = .int .i64 kk ∧ 0 ≤ cc ∧ cc < 1000000000 ∧ Dig d ∧ val6 d + cc * pw kk = tot a b (i + 1) ∧ WideAt wr w.heap.size na a ∧ WideAt wr (w.heap.size + 1) nb b ∧ WideAt wr (w.heap.size + 1 + 1) false (fun _ => 0) ∧ WideAt wr (w.heap.size + 1 + 1 + 1) (na != nb) d ∧ Below w.heap.size w wr)
          case atStart => exact ⟨i + 3, c, d, by omega, by omega, rfl, by go_num, c0, c1, HD.out, HQ.out, HWA.out, HWB.out, HWR.out, HWW.out, hbel⟩
          case round =>
            clear HWA HWB HWR HWW hbel HD HQ d c0 c1 c
            obtain ⟨k, c, d, hk, hik, rfl, rfl, c0, c1, hd, hval, WA, WB, WR, WW, hbel⟩ := hrel
            have hsz := hbel.size
            by_cases hkt : k < 6
            · have hkz : (k : Int) < 6 := by omega
              have e3 := WW.cell hkt
              have e4 := WW.fr (1 + k)
              have z0 := hd.lo k hkt
              have z1 := hd.hi k hkt
              have HS := Lib.hid (mul_step (p := 0) hkt hd (by omega) (by omega) c0 c1 hval)
              have HWA := Lib.hid WA; have HWB := Lib.hid WB; have HWR := Lib.hid WR; have HWW := Lib.hid WW
              clear hval hd WA WB WR WW
              go_wp2
              go_roundg (5 - k)
              case measure => omega
              case rel =>
                obtain ⟨s1, s2, s3, s4⟩ := HS.out
                rw [Int.add_zero] at s1 s2 s3 s4
                refine ⟨k + 1, _, _, by omega, by omega, rfl, by go_num, s3, s4, s2, by rw [s1]; omega, HWA.out.setOther (by omega) _ _, HWB.out.setOther (by omega) _ _, HWR.out.setOther (by omega) _ _, HWW.out.set _ _ (by omega), ?_⟩
                exact belz
            · obtain rfl : k = 6 := by omega
              have HT := Lib.hid (tot_bd HA.out HB.out (i + 1) (by omega))
              have HV := Lib.hid (val6_nn hd)
              have HQ := Lib.hid hval
              have HD := Lib.hid hd
              have HWA := Lib.hid WA; have HWB := Lib.hid WB; have HWR := Lib.hid WR; have HWW := Lib.hid WW
              clear hval hd WA WB WR WW
              go_wp2
              go_roundg (2 - i)
              case measure => omega
              case rel =>
                refine ⟨i + 1, d, by omega, by go_num, HD.out, ?_, HWA.out, HWB.out, HWR.out, HWW.out, hbel⟩
                have h1 := HQ.out
                have h2 := HV.out
                have h3 := HT.out
                simp only [pw] at h1
                omega
    · obtain rfl : i = 3 := by omega
      have HQ := Lib.hid (hval.trans HP.out)
      have HD := Lib.hid hd
      obtain ⟨u0, u1, u2, u3, u4, u5, u6, u7, u8⟩ := WW
      obtain ⟨v0, v1, v2, v3, v4, v5, v6, v7, v8⟩ := WR
      clear hval hd WA WB
      go_wp2
      refine bodyPost_ret (v := WideV (na != nb) d) (by simp only [results, Tryd.results61]; go_simp; rfl) rfl ⟨⟨d, rfl, HD.out, HQ.out⟩, ?_⟩
      exact belz
end Go.Proofs.YtjkhoepohiafeaaDoor
