/- Contracts of Digits, NoticeErr, notice.sum and NoticeSum. -/
import Derived.Test.YtbcehnhiedbbbaaDoorWalkNo
import Derived.Deep.RegionHeld3
import Derived.Deep.DeepCutAuto
import Derived.Lib.SmallJoins
set_option linter.unusedVariables false
set_option linter.unusedSimpArgs false
namespace Go.Proofs.YtbcehnhiedbbbaaDoor
open Go.RowKit
theorem one_str (w0 : World) (b : Nat) (c : UInt8) (h : w0.cell? ⟨b, 0, none⟩ = some (.int .u8 (c.toNat : Int))) : (convert 84 9 (.slice (some ⟨b, 0, none⟩) 1 1)).run Tryd.prog w0 = .ok (.string ⟨#[c]⟩) w0 := by
  have := run_convert_bytes_back (P := Tryd.prog) w0 84 9 5 ⟨b, 0, none⟩ 1 [c] Tryd.underlying84 Tryd.underlying5 Tryd.underlying9 (by
    intro j hj
    obtain rfl : j = 0 := by simp at hj; omega
    simpa [Addr.add] using h)
  simpa using this
theorem ba_app (a b : List UInt8) : (⟨a.toArray⟩ : ByteArray) ++ ⟨b.toArray⟩ = ⟨(a ++ b).toArray⟩ := by
  apply ByteArray.ext
  simp
theorem dec_small {u : Nat} (h : u < 10) : Go.Lib.decDigits u = [UInt8.ofNat (48 + u)] := by rw [Go.Lib.decDigits, dif_pos h]
theorem dec_big {u : Nat} (h : ¬ u < 10) : Go.Lib.decDigits u = Go.Lib.decDigits (u / 10) ++ [UInt8.ofNat (48 + u % 10)] := by rw [Go.Lib.decDigits, dif_neg h]
theorem digit_c {k : Nat} (h : k < 10) : ((UInt8.ofNat (48 + k)).toNat : Int) = 48 + (k : Int) := by
  rw [UInt8.toNat_ofNat']
  omega
theorem u8_in {n : Int} (h0 : 0 ≤ n) (h1 : n ≤ 255) : IntKind.u8.wrap n = n := by
  rw [IntKind.wrap_u8]; omega
set_option maxHeartbeats 1000000 in
set_option maxRecDepth 100000 in
theorem c_Digits : ∀ (u : Nat) (w : World), u ≤ 9223372036854775807 → Calls Tryd.prog 19 #[.int .i64 (u : Int)] w fun e w' => e = .returned (.string ⟨(Go.Lib.decDigits u).toArray⟩) ∧ Below w.heap.size w w' := by
  intro u
  induction u using Nat.strongRecOn with
  | _ u ih =>
    intro w hu
    by_cases h : u < 10
    · rw [dec_small h]
      have g : decide ((u : Int) < 10) = true := decide_eq_true (by omega)
      have hd := digit_c h
      generalize UInt8.ofNat (48 + u) = c at *
      have V1 : IntKind.i64.wrap (48 + (u : Int)) = 48 + (u : Int) := IntWalk.i64_in _ (by omega)
      have V2 : IntKind.u8.wrap (48 + (u : Int)) = (c.toNat : Int) := by rw [hd]; exact u8_in (by omega) (by omega)
      have hs := one_str (w.alloc (.cells #[.int .u8 (c.toNat : Int)] 5)) w.heap.size c (by go_simp)
      clear ih hd
      have hgen := sgen; have hgen2 := sgen2; have hgen3 := sgen3; go_enter Tryd.func19, Tryd.ntmps19
      go_wp2
      go_ret
      refine ⟨rfl, ?_⟩
      exact belz
    · rw [dec_big h]
      have HR := Lib.hid (fun w1 => ih (u / 10) (by omega) w1 (by omega))
      have g : decide ((u : Int) < 10) = false := decide_eq_false (by omega)
      have hd := digit_c (k := u % 10) (by omega)
      generalize UInt8.ofNat (48 + u % 10) = c at *
      have e1 : (u : Int).tdiv 10 = ((u / 10 : Nat) : Int) := by rw [Int.tdiv_eq_ediv_of_nonneg (by omega)]; omega
      have e2 : (u : Int).tmod 10 = ((u % 10 : Nat) : Int) := by rw [Int.tmod_eq_emod_of_nonneg (by omega)]; omega
      have hq : u % 10 < 10 := by omega
      obtain ⟨dl, hdl⟩ : ∃ dl, dl = Go.Lib.decDigits (u / 10) := ⟨_, rfl⟩
      rw [← hdl] at HR ⊢
      have hln : dl.length ≤ 20 := by rw [hdl, Go.Lib.decDigits_length]; exact Go.Lib.nDigits_le20 _ (by omega)
      have hu10 : u / 10 ≤ 9223372036854775807 := by omega
      clear hdl
      generalize u / 10 = p at *
      generalize u % 10 = q at *
      have V0 : IntKind.i64.wrap (p : Int) = (p : Int) := IntWalk.i64_in _ (by omega)
      have V3 : wrap64 (p : Int) = (p : Int) := (IntWalk.i64_left _).symm.trans V0
      have V1 : IntKind.i64.wrap (48 + (q : Int)) = 48 + (q : Int) := IntWalk.i64_in _ (by omega)
      have V2 : IntKind.u8.wrap (48 + (q : Int)) = (c.toNat : Int) := by rw [hd]; exact u8_in (by omega) (by omega)
      have ea : (⟨dl.toArray⟩ : ByteArray) ++ ⟨#[c]⟩ = ⟨(dl ++ [c]).toArray⟩ := ba_app dl [c]
      have hadd : ∀ w0, (Op.stringOp .add ⟨dl.toArray⟩ ⟨#[c]⟩).run Tryd.prog w0 = .ok (.string ⟨(dl ++ [c]).toArray⟩) w0 := by
        intro w0
        exact run_string_add_lists (P := Tryd.prog) w0 dl [c] (by omega) (by simp)
      generalize (⟨(dl ++ [c]).toArray⟩ : ByteArray) = R at *
      clear ea
      have hs := fun (w0 : World) (h : w0.cell? ⟨w.heap.size, 0, none⟩ = some (.int .u8 (c.toNat : Int))) => one_str w0 w.heap.size c h
      clear ih hd hu h
      have hgen := sgen; have hgen2 := sgen2; have hgen3 := sgen3; go_enter Tryd.func19, Tryd.ntmps19
      go_wp2_with fail
      go_region_with (first | ((go_at_call 19; (with_reducible refine (HR.out _).mono ?_); rintro e w1 ⟨rfl, hb⟩; have hz := hb.size; (try simp only [szA, szS, szD, szN] at hz); (try (refine bcB (n := w.heap.size) hb ?_; intro h_w_0 e_w_0 d_w_0 _ _))); have hs2 := fun (w0 : World) (h : w0.cell? ⟨w1.heap.size, 0, none⟩ = some (.int .u8 (c.toNat : Int))) => one_str w0 w1.heap.size c h))
      all_goals go_wp2
      all_goals go_ret
      all_goals refine ⟨rfl, ?_⟩
      all_goals exact belz
end Go.Proofs.YtbcehnhiedbbbaaDoor
