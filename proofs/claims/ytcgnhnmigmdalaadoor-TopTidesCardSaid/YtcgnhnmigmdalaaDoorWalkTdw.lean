/- The self-check of the tide; the walk through the law TideHeights. -/
import Derived.Test.YtcgnhnmigmdalaaDoorWalkTdf
import Derived.Test.YtcgnhnmigmdalaaDoorPlainTide
import Derived.Test.YtcgnhnmigmdalaaDoorWalkRsum
import Derived.Deep.QuietTactic
set_option linter.unusedVariables false
set_option linter.unusedSimpArgs false
namespace Go.Proofs.YtcgnhnmigmdalaaDoor
open Go.RowKit
theorem c_tHigh (l : List Tm) (t t' : Int) (a : Option Addr) (cap : Nat) (w : World) (hT : Tab w) (hc : l.length ≤ cap) (hs : TmSlice w a l) (hv : tdE l = 0) (ht : instB t = true) (ht' : instB t' = true) (h1 : t ≤ t') (h2 : t' - t ≤ 1728000000) :
    Calls Tryd.prog 30 #[.slice a l.length cap, .int .i64 t, .int .i64 t'] w fun e w' => ∃ a' cap', e = .returned (.tuple #[.slice a' (tdO PH l t (tdN t t' - 1)).length cap', .int .i64 0]) ∧ (tdO PH l t (tdN t t' - 1)).length ≤ cap' ∧ SpSlice w' a' (tdO PH l t (tdN t t' - 1)) ∧ Below w.heap.size w w' := by
  have HF := Lib.hid (fun w1 h hs1 => c_findH l t t' a cap w1 h hc hs1 hv ht ht' h1 h2)
  have HS := Lib.hid hs
  have HT := Lib.hid hT
  clear hs hT ht ht' h1 h2 hv
  generalize tdO PH l t (tdN t t' - 1) = L at *
  have hgen := sgen; have hgen2 := sgen2; have hgen3 := sgen3; go_enter Tryd.func30, Tryd.ntmps30
  go_wp2_with (go_at_call 57; (refine (HF.out _ (HT.out.below (by exact belz)) (HS.out.below (Nat.le_refl _) (by exact belz))).mono ?_); rintro e w1 ⟨a', cap', rfl, hcap, hsl, hb⟩; have hz := hb.size; (try simp only [szA, szS, szD, szN] at hz); (try (refine bcB (n := w.heap.size) hb ?_; intro h_w_0 e_w_0 d_w_0 _ _)))
  go_ret2
  exact ⟨a', cap', rfl, hcap, hsl, hb⟩
def tdL0 : List Tm := [⟨1000, 0, 2000000000000000⟩]
theorem td0_facts : tdE tdL0 = 0 ∧ tdLo tdL0 0 ≤ 1000 ∧ 1000 ≤ tdHi tdL0 0 ∧ tdHi tdL0 0 - tdLo tdL0 0 ≤ 2 := by decide +kernel
theorem td0_tops : tdT PH tdL0 32400000 1 = false ∧ tdT PH tdL0 32400000 2 = false ∧ tdT PH tdL0 32400000 3 = true ∧ tdT PH tdL0 32400000 4 = false ∧ tdT PH tdL0 32400000 5 = false := by decide +kernel
theorem td0_out : tdO PH tdL0 32400000 (tdN 32400000 54000000 - 1) = [⟨39600000, 46800000⟩] := by
  obtain ⟨h1, h2, h3, h4, h5⟩ := td0_tops
  have e : tdN 32400000 54000000 - 1 = 6 := by decide
  rw [e]
  simp [tdO, h1, h2, h3, h4, h5]
theorem sc2_bd {arg : Int} (h0 : 0 ≤ arg) (h1 : arg < 1000000000000000) : -1200000000000000000 ≤ (sc arg).2 ∧ (sc arg).2 ≤ 1200000000000000000 := by
  have h := sc_bd h0 (by omega) 12 (by omega)
  obtain ⟨-, -, h3, h4⟩ := h
  unfold sc
  simp only
  unfold U60
  omega
theorem tdRef_bd {x : Tm} {t : Int} (h : ¬ TdBad x) : -1200000000000000 ≤ tdRef x t ∧ tdRef x t ≤ 1200000000000000 := by
  obtain ⟨-, g0, g1⟩ := refArg_eq x t
  unfold TdBad at h
  obtain ⟨s1, s2⟩ := sc2_bd g0 g1
  unfold tdRef
  exact prt_bd (by omega) (by omega) s1 s2
theorem tdSum_bd {l : List Tm} {t : Int} (h : ∀ x ∈ l, ¬ TdBad x) : ∀ k, k ≤ l.length → -1200000000000000 * (k : Int) ≤ tdSum l t k ∧ tdSum l t k ≤ 1200000000000000 * (k : Int)
  | 0, _ => by rw [tdSum_zero]; omega
  | k + 1, hk => by
    have ih := tdSum_bd (t := t) h k (by omega)
    have := tdRef_bd (t := t) (h l[k] (List.getElem_mem (by omega)))
    rw [tdSum_snoc l t k (by omega)]
    omega
end Go.Proofs.YtcgnhnmigmdalaaDoor
