/- The walk through the law ContradictChangeds, all cases; and how far its first argument reaches. -/
import Derived.Test.YtdpddidfdifbhaaWalkChl2
import Derived.Test.YtdpddidfdifbhaaOpenBound
set_option linter.unusedVariables false
set_option linter.unusedSimpArgs false
namespace Go.Proofs.Ytdpddidfdifbhaa
open Go.RowKit Go.ChangeShapes Go.WideShapes Go.ChangeAt Go.Deep
section
variable {H : Type} {enc : TypeId × Value → H} {w : World}
theorem open_BdR {a : Option Addr} {len cap : Nat} {d : DataW H} {p : List MemPlace}
    (h : DataW.Trod enc Try.prog w 0 (fun _ => true) true 41 (.slice a len cap) d p) :
    (a = none → cap = 0) ∧ (len = 0 ∨ ∃ E S, d = .slice E S ∧ len ≤ E.length + S.length) := by
  obtain ⟨fuel, hf⟩ := h
  rcases open_slice Try.underlying41 hf with ⟨hcs, _⟩ | ⟨a', len', cap', m, n, D, Pl, hcs, _, hl, hm, hmm, hx, _⟩
  · simp [Value.cells] at hcs
    obtain ⟨rfl, rfl, rfl⟩ := hcs
    exact ⟨fun _ => rfl, .inl rfl⟩
  · simp [Value.cells] at hcs
    obtain ⟨rfl, rfl, rfl⟩ := hcs
    refine ⟨(fun e => by cases e), .inr ⟨_, _, (Prod.mk.inj hx).1, by simp⟩⟩
end
theorem bytes_Bd : Try.prog.bytesOf 47 = 32 := by kernel_rfl
theorem tigA {n : Nat} {a : Option Addr} {c : Nat} {l : List Bd} {m : Bd} {w : World} (hc : l.length + 1 ≤ c) (hs : BdSlice w a (l ++ [m])) : TigA n a (l.length + 1) c w := by
  refine (c_TightR1 n a c l m w hc hs).mono ?_
  rintro e w' ⟨v, x, rfl, _, hb⟩
  exact ⟨v, x, rfl, hb⟩
theorem walk_chl (n : Int) (a : Option Addr) (len cap : Nat) (l : List Bd) (m : Bd) (w : World) (hlen : l.length = len) (hc : len ≤ cap) (hs : BdSlice w a l) (hr : (len + 1) * 32 ≤ 140737488355328) (hnil : a = none → cap = 0) :
    Calls Try.prog 11 #[.int .i64 n, .slice a len cap, .agg #[.int .i64 m.a, .int .i64 m.b, .int .i64 m.lo, .int .i64 m.hi]] w fun e w' => e = .returned (.bool true) ∧ Below w.heap.size w w' := by
  subst hlen
  by_cases he : chErr n l = 0
  · obtain ⟨k, rfl, hv⟩ := bdOk_of he
    cases hok : okB k l
    · refine walk_chl_err k a cap l m w hs hr hnil 10 (by decide) (Lib.hid fun w1 hs1 => c_Chg_no k a cap l m w1 hc he hok hs1) (Lib.hid fun w1 hs1 => ?_) (Lib.hid fun w1 g c hgc hs1 => tigA hgc hs1)
      refine (c_Tight_no k a cap l w1 hc he (bdOk_at he) (okB_no hok) hs1).mono ?_
      rintro e w' ⟨rfl, hb⟩
      exact ⟨_, rfl, hb⟩
    · have HT0 : Hid (∀ w1, BdSlice w1 a l → TigY k a l.length cap w1 0) := Lib.hid fun w1 hs1 => by
        refine (c_Tight_ok k a cap l w1 hc he (bdOk_at he) (okB_yes hok) hs1).mono ?_
        rintro e w' ⟨a', c', rfl, _, _, hb⟩
        exact ⟨_, rfl, hb⟩
      by_cases he2 : chErr k (l ++ [m]) = 0
      · cases hok2 : okB k (l ++ [m])
        · refine walk_chl_late k a cap l m w hs hr hnil 10 (by decide) (Lib.hid fun w1 hs1 => ?_) HT0 (Lib.hid fun w1 g c hgc hs1 => ?_)
          · refine (c_Chg_ok k a cap l m w1 hc he hok hs1).mono ?_
            rintro e w' ⟨v, x, rfl, h | ⟨_, _, rfl, rfl⟩ | h, hb⟩
            · exact absurd he2 h.1
            · exact ⟨rfl, hb⟩
            · exact absurd (hok2.symm.trans h.2.1) (by simp)
          · refine (c_TightR1 k g c l m w1 hgc hs1).mono ?_
            rintro e w' ⟨v, x, rfl, h | ⟨_, _, rfl, rfl⟩ | h, hb⟩
            · exact absurd he2 h.1
            · exact ⟨_, rfl, hb⟩
            · exact absurd (hok2.symm.trans h.2.1) (by simp)
        · refine walk_chl_ok k a cap l m w hs hr hnil (fw l k) (fw (l ++ [m]) k) (by have := hv.n12; omega) (Lib.hid fun w1 hs1 => ?_) (Lib.hid fun w1 hs1 => c_Tight_ok k a cap l w1 hc he (bdOk_at he) (okB_yes hok) hs1) (Lib.hid fun w1 g c hgc hs1 => ?_)
          · refine (c_Chg_ok k a cap l m w1 hc he hok hs1).mono ?_
            rintro e w' ⟨v, x, rfl, h | h | ⟨_, _, rfl, hown⟩, hb⟩
            · exact absurd he2 h.1
            · exact absurd (hok2.symm.trans h.2.1) (by simp)
            · obtain ⟨a7, c7, rfl, h7, hp⟩ := own_pr hown
              exact ⟨a7, c7, rfl, h7, hp, hb⟩
          · refine (c_TightR1 k g c l m w1 hgc hs1).mono ?_
            rintro e w' ⟨v, x, rfl, h | h | ⟨_, _, a', c', rfl, rfl, h3, h4⟩, hb⟩
            · exact absurd he2 h.1
            · exact absurd (hok2.symm.trans h.2.1) (by simp)
            · exact ⟨a', c', rfl, h3, h4, hb⟩
      · refine walk_chl_late k a cap l m w hs hr hnil (chErr k (l ++ [m])) he2 (Lib.hid fun w1 hs1 => ?_) HT0 (Lib.hid fun w1 g c hgc hs1 => ?_)
        · refine (c_Chg_ok k a cap l m w1 hc he hok hs1).mono ?_
          rintro e w' ⟨v, x, rfl, ⟨_, rfl, rfl⟩ | h | h, hb⟩
          · exact ⟨rfl, hb⟩
          · exact absurd h.1 he2
          · exact absurd h.1 he2
        · refine (c_TightR1 k g c l m w1 hgc hs1).mono ?_
          rintro e w' ⟨v, x, rfl, ⟨_, rfl, rfl⟩ | h | h, hb⟩
          · exact ⟨_, rfl, hb⟩
          · exact absurd h.1 he2
          · exact absurd h.1 he2
  · refine walk_chl_err n a cap l m w hs hr hnil (chErr n l) he (Lib.hid fun w1 hs1 => c_Chg_bad n a cap l m w1 hc he hs1) (Lib.hid fun w1 hs1 => ?_) (Lib.hid fun w1 g c hgc hs1 => ?_)
    · refine (c_Tight_bad n a cap l w1 hc he hs1).mono ?_
      rintro e w' ⟨rfl, hb⟩
      exact ⟨_, rfl, hb⟩
    · by_cases he2 : chErr n (l ++ [m]) = 0
      · obtain ⟨k, rfl, _⟩ := bdOk_of he2
        exact tigA hgc hs1
      · have h := c_Tight_bad n g c (l ++ [m]) w1 (by simpa using hgc) he2 hs1
        rw [List.length_append] at h
        refine Calls.mono h ?_
        rintro e w' ⟨rfl, hb⟩
        exact ⟨_, _, rfl, hb⟩
end Go.Proofs.Ytdpddidfdifbhaa
