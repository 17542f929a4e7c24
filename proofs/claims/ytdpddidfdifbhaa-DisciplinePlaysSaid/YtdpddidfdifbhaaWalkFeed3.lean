/- The contracts of Feed and Read, whatever they are given. -/
import Derived.Test.YtdpddidfdifbhaaWalkRead2
import Derived.Test.YtdpddidfdifbhaaPlainDp
set_option linter.unusedVariables false
set_option linter.unusedSimpArgs false
namespace Go.Proofs.Ytdpddidfdifbhaa
open Go.RowKit
def Fed (b rb gb n : Nat) (d f last : Int) (R : Nat → Rd) (H : Nat → Bool) (k : Int) (x : Rd) (w : World) (e : Ending) (w' : World) : Prop :=
  e = .returned (.int .i64 (fdErr n last k x)) ∧ Touch3 b rb gb w w' ∧ KeepAt w' b rb gb n d f (stLast n last k x) (stR n last k x R) (stH n last k x H)
theorem c_feed (b rb gb n : Nat) (d f last : Int) (R : Nat → Rd) (H : Nat → Bool) (k : Int) (x : Rd) (w : World) (hK : KeepAt w b rb gb n d f last R H) (hn : n ≤ 40) :
    Calls Try.prog 41 #[.pointer (some ⟨b, 0, none⟩), .int .i64 k, .agg #[.int .i64 x.tk, .int .i64 x.lo, .int .i64 x.hi]] w (Fed b rb gb n d f last R H k x w) := by
  have bad : ∀ v : Int, v ≠ 0 → fdErr n last k x = v → ∀ e w', (e = Ending.returned (.int .i64 v) ∧ Below w.heap.size w w') → Fed b rb gb n d f last R H k x w e w' := by
    intro v hv hf e w' ⟨he, hb⟩
    have hz : ¬ fdErr n last k x = 0 := by rw [hf]; exact hv
    refine ⟨by rw [hf]; exact he, Touch3.of_below hb, ?_⟩
    unfold stLast stR stH
    rw [if_neg hz, if_neg hz, if_neg hz]
    exact hK.below hb
  by_cases h1 : k < 0 ∨ (n : Int) ≤ k
  · exact (c_feed_num b rb gb n d f last R H k x.tk x.lo x.hi w hK hn h1).mono (bad 1 (by omega) (by unfold fdErr; rw [if_pos h1]))
  · by_cases h2 : readErr x.tk x.lo x.hi = 0
    · by_cases h3 : x.tk < last
      · exact (c_feed_order b rb gb n d f last R H k x.tk x.lo x.hi w hK hn (by omega) (by omega) h2 h3).mono (bad 9 (by omega) (by unfold fdErr; rw [if_neg h1, if_neg (fun q => q h2), if_pos h3]))
      · have hz : fdErr n last k x = 0 := by unfold fdErr; rw [if_neg h1, if_neg (fun q => q h2), if_neg h3]
        obtain ⟨m, rfl⟩ : ∃ m : Nat, k = (m : Int) := ⟨k.toNat, by omega⟩
        refine (c_feed_ok b rb gb n d f last R H m x w hK hn (by omega) h2 (by omega)).mono (fun e w' ⟨he, hT, hK'⟩ => ?_)
        refine ⟨by rw [hz]; exact he, hT, ?_⟩
        unfold stLast stR stH
        rw [if_pos hz, if_pos hz, if_pos hz]
        exact hK'
    · exact (c_feed_bad b rb gb n d f last R H k x.tk x.lo x.hi w hK hn (by omega) (by omega) h2).mono (bad _ h2 (by unfold fdErr; rw [if_neg h1, if_pos h2]))
theorem c_read (b rb gb n : Nat) (d f last : Int) (R : Nat → Rd) (H : Nat → Bool) (q lo hi x : Int) (w : World) (hK : KeepAt w b rb gb n d f last R H) (hn : n ≤ 40) (hd : driftB d = true) (hf1 : 0 ≤ f) (hf2 : f ≤ 40) (hok : KOk n last R H) (ho : rdOut n d f last q R H = (lo, hi, x)) :
    Calls Try.prog 42 #[.pointer (some ⟨b, 0, none⟩), .int .i64 q] w fun e w' => e = .returned (.tuple #[.agg #[.int .i64 lo, .int .i64 hi], .int .i64 x]) ∧ Below w.heap.size w w' := by
  unfold rdOut at ho
  by_cases h1 : q < 0 ∨ 1000000000000 < q
  · have hy : yErr q last (heardN H n) f = 3 := by unfold yErr; rw [if_pos h1]
    rw [hy, if_pos (by omega)] at ho
    simp only [Prod.mk.injEq] at ho
    obtain ⟨rfl, rfl, rfl⟩ := ho
    exact c_read_range b q w (tickB_false h1)
  · have hq : tickB q = true := tickB_true (by omega) (by omega)
    by_cases h2 : q < last
    · have hy : yErr q last (heardN H n) f = 9 := by unfold yErr; rw [if_neg h1, if_pos h2]
      rw [hy, if_pos (by omega)] at ho
      simp only [Prod.mk.injEq] at ho
      obtain ⟨rfl, rfl, rfl⟩ := ho
      exact c_read_order b rb gb n d f last R H q w hK hq h2
    · by_cases h3 : (heardN H n : Int) ≤ 2 * f
      · have hy : yErr q last (heardN H n) f = 10 := by unfold yErr; rw [if_neg h1, if_neg h2, if_pos h3]
        rw [hy, if_pos (by omega)] at ho
        simp only [Prod.mk.injEq] at ho
        obtain ⟨rfl, rfl, rfl⟩ := ho
        exact c_read_state b rb gb n d f last R H q w hK hn hq (by omega) hf1 hf2 h3
      · have hy : yErr q last (heardN H n) f = 0 := by unfold yErr; rw [if_neg h1, if_neg h2, if_neg h3]
        rw [hy, if_neg (by omega)] at ho
        refine c_read_ok b rb gb n d f last R H q lo hi x w hK hn hd hq (by omega) hf1 (by omega) hok ?_
        unfold rdRes at ho
        revert ho
        generalize wst ((kept R H n).map (rdMv d q)) (heardN H n - f) ((kept R H n).map (rdMv d q)).length = t
        obtain ⟨p, q', is⟩ := t
        intro ho
        cases is
        · left
          simp at ho
          exact ⟨p, q', rfl, ho.1.symm, ho.2.1.symm, ho.2.2.symm⟩
        · right
          simp at ho
          obtain ⟨rfl, rfl, rfl⟩ := ho
          exact ⟨rfl, rfl⟩
end Go.Proofs.Ytdpddidfdifbhaa
