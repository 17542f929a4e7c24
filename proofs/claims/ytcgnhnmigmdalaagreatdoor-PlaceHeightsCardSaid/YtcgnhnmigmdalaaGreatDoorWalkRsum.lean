/- Contracts of the reference's Sum, Whole, Contains and ContainsAngle. -/
import Derived.Test.YtcgnhnmigmdalaaGreatDoorWkD
import Derived.Test.YtcgnhnmigmdalaaGreatDoorWkA
import Derived.Test.YtcgnhnmigmdalaaGreatDoorFltE
import Derived.Deep.QuietTactic
import Derived.BigQuiet
set_option linter.unusedVariables false
set_option linter.unusedSimpArgs false
namespace Go.Proofs.YtcgnhnmigmdalaaGreatDoor
open Go.RowKit
theorem prt_bd {a v : Int} (a1 : -1000000000 ≤ a) (a2 : a ≤ 1000000000) (v1 : -1200000000000000000 ≤ v) (v2 : v ≤ 1200000000000000000) : -1200000000000000 ≤ prt a v ∧ prt a v ≤ 1200000000000000 := by
  unfold prt
  split
  · have := (prt_parts (v := -v) a1 a2 (by omega) (by omega)).2.2.2.2; omega
  · have := (prt_parts (v := v) a1 a2 (by omega) (by omega)).2.2.2.2; omega
theorem sc1_bd {arg : Int} (h0 : 0 ≤ arg) (h1 : arg < 1000000000000000) : -1153000000000000000 ≤ (sc arg).1 ∧ (sc arg).1 ≤ 1153000000000000000 := by
  have := sc_bd h0 (by omega) 12 (by omega)
  exact ⟨this.1, this.2.1⟩
theorem refTerm_bd {t : Tm} {inst : Int} (h : TmOk t) : -1200000000000000 ≤ refTerm t inst ∧ refTerm t inst ≤ 1200000000000000 := by
  obtain ⟨-, g0, g1⟩ := refArg_eq t inst
  have := sc1_bd g0 g1
  exact prt_bd h.a1 h.a2 (by omega) (by omega)
theorem refAt_bd {m : Int} {l : List Tm} {inst : Int} (m1 : -1000000000 ≤ m) (m2 : m ≤ 1000000000) (h : ∀ t ∈ l, TmOk t) : ∀ k, k ≤ l.length → -1048576000000000 - 1200000000000000 * (k : Int) ≤ refAt m l inst k ∧ refAt m l inst k ≤ 1048576000000000 + 1200000000000000 * (k : Int)
  | 0, _ => by
    have e : refAt m l inst 0 = m * 1048576 := rfl
    rw [e]; omega
  | k + 1, hk => by
    have ih := refAt_bd (inst := inst) m1 m2 h k (by omega)
    have := refTerm_bd (inst := inst) (h l[k] (List.getElem_mem (by omega)))
    rw [refAt_snoc m l inst k (by omega)]
    omega
theorem argV_bd (r i : Int) : 0 ≤ argV r i ∧ argV r i < 1000000000000000 := by unfold argV; omega
set_option maxHeartbeats 1000000 in
theorem c_rSum (m r s inst : Int) (a : Option Addr) (cap : Nat) (l : List Tm) (w : World) (hc : l.length ≤ cap) (hs : TmSlice w a l) (hv : SumOk m r l s) (i1 : -400000000000000 ≤ inst) (i2 : inst ≤ 400000000000000) :
    Calls Tryz.prog 68 #[sumV m r a l.length cap s, .int .i64 inst] w fun e w' => e = .returned (.int .i64 (refAt m l inst l.length)) ∧ Below w.heap.size w w' := by
  have h40 := hv.len
  have h2 : (l.length : Int) ≤ 40 := by omega
  have m1 := hv.m1
  have m2 := hv.m2
  have HTM := Lib.hid hv.tm
  have HSL := Lib.hid hs
  clear hv hs
  have hgen := sgen; have hgen2 := sgen2; have hgen3 := sgen3; go_enter Tryz.func68, Tryz.ntmps68
  go_wp2_with fail
  go_loopg [5, 16] l.length (fun gk x5 i wr => ∃ k : Nat, gk + k = l.length ∧ i = .int .i64 k ∧ x5 = .int .i64 (refAt m l inst k) ∧ Below w.heap.size w wr)
  case atStart => exact ⟨0, by omega, rfl, rfl, (Below.refl _ _).alloc (Nat.le_refl _) _⟩
  case round =>
    obtain ⟨k, hk, rfl, rfl, hbel⟩ := hrel
    by_cases hlt : k < l.length
    · obtain ⟨b, off, ha, hb1, c0, c1, c2⟩ := (HSL.out.below (Nat.le_refl _) hbel) k hlt
      have ix1 := @ix_Tm a b off l.length cap k ha hlt
      have hsz := hbel.size
      have HN := Lib.hid (refAt_snoc m l inst k hlt)
      have ht := HTM.out l[k] (List.getElem_mem hlt)
      obtain ⟨n1, n2⟩ := refAt_bd (inst := inst) m1 m2 HTM.out k (by omega)
      have n3 := refTerm_bd (inst := inst) ht
      clear ha
      generalize l[k] = x at *
      generalize refAt m l inst k = n at *
      have HR : Hid (refTerm x inst = prt x.amp (sc ((argV x.rt inst + x.ph * 1000000) % 1000000000000000)).1) := Lib.hid rfl
      rw [HR.out] at n3
      have HA := Lib.hid (fun w1 => c_Arg x.rt inst w1 (by have := ht.r1; omega) (by have := ht.r2; omega) (by omega) (by omega))
      have av := argV_bd x.rt inst
      have p1 := ht.p1
      have p2 := ht.p2
      have av1 := av.1
      have av2 := av.2
      have HC := Lib.hid (fun w1 => c_SinCos (argV x.rt inst + x.ph * 1000000) w1 (by omega) (by omega))
      have sb := sc1_bd (arg := (argV x.rt inst + x.ph * 1000000) % 1000000000000000) (by omega) (by omega)
      have HP := Lib.hid (fun w1 => c_Part x.amp (sc ((argV x.rt inst + x.ph * 1000000) % 1000000000000000)).1 w1 ht.a1 ht.a2 (by omega) (by omega))
      have HR2 := Lib.hid (show refTerm x inst = _ from HR.out)
      clear HR sb av
      generalize argV x.rt inst = av at *
      have w1' : IntKind.i64.wrap (x.ph * 1000000) = x.ph * 1000000 := IntWalk.i64_in _ (by omega)
      have w2' : IntKind.i64.wrap (av + x.ph * 1000000) = av + x.ph * 1000000 := IntWalk.i64_in _ (by omega)
      obtain ⟨n3a, n3b⟩ := n3
      have k40 : (k : Int) ≤ 40 := by omega
      go_wp2_with fail
      go_quiet ((first | (go_at_call 71; exact Calls.quiet_of_same ((HA.out _).mono (fun e w' ⟨h1, h2⟩ => ⟨h1, h2.symm⟩))) | (go_at_call 34; exact Calls.quiet_of_same ((HC.out _).mono (fun e w' ⟨h1, h2⟩ => ⟨h1, h2.symm⟩)))))
      clear w1' w2'
      go_wp2_with (go_at_call 53; refine (HP.out _).mono ?_; rintro e w' ⟨rfl, rfl⟩)
      go_roundg (l.length - (k + 1))
      case measure => omega
      case rel =>
        refine ⟨k + 1, by omega, by go_num, by rw [HN.out, HR2.out], ?_⟩
        exact belz
    · have hkl : k = l.length := by omega
      rw [hkl]
      clear hkl
      go_wp2
      go_ret
      exact ⟨rfl, hbel⟩
/-- The reference's whole sum. -/
def wholeV (m r : Int) (l : List Tm) (inst : Int) : Int := (refAt m l inst l.length + argV r inst / 1000000 * 1048576 + argV r inst % 1000000 * 1048576 / 1000000) % 1048576000000000
theorem c_rWhole (m r s inst : Int) (a : Option Addr) (cap : Nat) (l : List Tm) (w : World) (hc : l.length ≤ cap) (hs : TmSlice w a l) (hv : SumOk m r l s) (i1 : -400000000000000 ≤ inst) (i2 : inst ≤ 400000000000000) :
    Calls Tryz.prog 65 #[sumV m r a l.length cap s, .int .i64 inst] w fun e w' => e = .returned (.int .i64 (wholeV m r l inst)) ∧ Below w.heap.size w w' := by
  have HA := Lib.hid (fun w1 => c_Arg r inst w1 (by have := hv.r1; omega) (by have := hv.r2; omega) (by omega) (by omega))
  have HU := Lib.hid (fun w1 hs1 => c_rSum m r s inst a cap l w1 hc hs1 hv i1 i2)
  have HV : Hid (wholeV m r l inst = (refAt m l inst l.length + argV r inst / 1000000 * 1048576 + argV r inst % 1000000 * 1048576 / 1000000) % 1048576000000000) := Lib.hid rfl
  have bd := refAt_bd (inst := inst) hv.m1 hv.m2 hv.tm l.length (Nat.le_refl _)
  have h40 := hv.len
  have av := argV_bd r inst
  have HS := Lib.hid hs
  clear hv hs
  generalize argV r inst = av at *
  generalize refAt m l inst l.length = n at *
  obtain ⟨av1, av2⟩ := av
  have bd1 : -50000000000000000 ≤ n := by omega
  have bd2 : n ≤ 50000000000000000 := by omega
  clear bd
  have q1 : 0 ≤ av % 1000000 := by omega
  have q2 : av % 1000000 < 1000000 := by omega
  have q3 : 0 ≤ av / 1000000 := by omega
  have q4 : av / 1000000 < 1000000000 := by omega
  have HM := Lib.hid (fun w1 => c_rMod (n + av / 1000000 * 1048576 + av % 1000000 * 1048576 / 1000000) 1048576000000000 w1 (by omega) (by omega) (by omega) (by omega))
  have hgen := sgen; have hgen2 := sgen2; have hgen3 := sgen3; go_enter Tryz.func65, Tryz.ntmps65
  go_wp2_with (first | (go_at_call 71; refine (HA.out _).mono ?_; rintro e w' ⟨rfl, rfl⟩) | (go_at_call 68; (refine (HU.out _ (HS.out.below (Nat.le_refl _) (by exact belz))).mono ?_); rintro e w1 ⟨rfl, hb⟩; have hz := hb.size; (try simp only [szA, szS, szD, szN] at hz); (try (refine bcB (n := w.heap.size) hb ?_; intro h_w_0 e_w_0 d_w_0 _ _))) | (go_at_call 33; refine (HM.out _).mono ?_; rintro e w' ⟨rfl, rfl⟩))
  go_ret
  refine ⟨ret_int HV.out.symm, ?_⟩
  exact belz
/-- The interval of the angle contains the whole sum with all remainders. -/
theorem ang_contains {m r : Int} {l : List Tm} {s inst : Int} (hv : SumOk m r l s) : 0 ≤ angLo m r l s inst ∧ angLo m r l s inst < 1000000000 ∧
    (wholeV m r l inst - s * 1048576 - angLo m r l s inst * 1048576 + 8192) % 1048576000000000 ≤ (angHi m r l s inst - angLo m r l s inst - 2 * s) * 1048576 + 16384 ∧
    angHi m r l s inst - angLo m r l s inst ≤ bndAt s l + 1 ∧ angHi m r l s inst - angLo m r l s inst ≤ 2 * s + 3 := by
  obtain ⟨c1, c2⟩ := val_contains (inst := inst) hv
  obtain ⟨w1, w2, w3⟩ := val_width (inst := inst) hv
  have s1 := hv.s1
  have s2 := hv.s2
  have ea : argV r inst = grQ r inst % 1000000000 * 1000000 + grR r inst / 86400000 := by
    unfold argV grQ grR; generalize r * inst = P; omega
  have r0 : 0 ≤ grR r inst := Int.emod_nonneg _ (by omega)
  have r1 : grR r inst < 86400000000000 := Int.emod_lt_of_pos _ (by omega)
  have eh : angHi m r l s inst = angLo m r l s inst + (if 0 < grR r inst then valHi m l s inst + 1 else valHi m l s inst) - valLo m l s inst := rfl
  have el : angLo m r l s inst = (valLo m l s inst + grQ r inst % 1000000000) % 1000000000 := rfl
  rw [eh, el]
  unfold wholeV
  rw [ea]
  generalize refAt m l inst l.length = n at *
  generalize valLo m l s inst = vl at *
  generalize valHi m l s inst = vh at *
  generalize grQ r inst % 1000000000 = q at *
  generalize grR r inst = ρ at *
  have e1 : (q * 1000000 + ρ / 86400000) / 1000000 = q := by omega
  have e2 : (q * 1000000 + ρ / 86400000) % 1000000 = ρ / 86400000 := by omega
  rw [e1, e2]
  have key : ((n + q * 1048576 + ρ / 86400000 * 1048576 / 1000000) % 1048576000000000 - s * 1048576 - (vl + q) % 1000000000 * 1048576 + 8192) % 1048576000000000 = (n - s * 1048576 - vl * 1048576 + ρ / 86400000 * 1048576 / 1000000 + 8192) % 1048576000000000 := by omega
  rw [key]
  have f0 : 0 ≤ ρ / 86400000 * 1048576 / 1000000 := by omega
  have f1 : ρ / 86400000 * 1048576 / 1000000 < 1048576 := by omega
  by_cases h : 0 < ρ
  · rw [if_pos h]
    have hK : (n - s * 1048576 - vl * 1048576 + ρ / 86400000 * 1048576 / 1000000 + 8192) % 1048576000000000 = n - s * 1048576 - vl * 1048576 + ρ / 86400000 * 1048576 / 1000000 + 8192 := Int.emod_eq_of_lt (by omega) (by omega)
    rw [hK]
    omega
  · have f2 : ρ / 86400000 * 1048576 / 1000000 = 0 := by omega
    rw [if_neg h, f2]
    have hK : (n - s * 1048576 - vl * 1048576 + 0 + 8192) % 1048576000000000 = n - s * 1048576 - vl * 1048576 + 0 + 8192 := Int.emod_eq_of_lt (by omega) (by omega)
    rw [hK]
    omega
end Go.Proofs.YtcgnhnmigmdalaaGreatDoor
