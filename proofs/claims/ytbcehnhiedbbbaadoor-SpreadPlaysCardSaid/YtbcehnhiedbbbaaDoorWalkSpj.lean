/- The law SpreadPlays answers true for every input. -/
import Derived.Test.YtbcehnhiedbbbaaDoorWalkSpp
set_option linter.unusedVariables false
set_option linter.unusedSimpArgs false
namespace Go.Proofs.YtbcehnhiedbbbaaDoor
open Go.RowKit
theorem walk_SpreadPlays (ka ea aa la : Option Addr) (kl kc el ec al ac ll lc : Nat) (K : List Int) (E : List Ed) (A : List Int) (L : List Nt) (nd : Int) (w : World) (hT : NTab w) (e0 : K.length = kl) (e2 : E.length = el) (e3 : A.length = al) (e4 : L.length = ll) (m0 : kl ≤ maxLen) (m2 : el ≤ maxLen) (m3 : al ≤ maxLen) (m4 : ll ≤ maxLen) (hs : IntSlice w ka K) (hes : EdSlice w ea E) (has : IntSlice w aa A) (hls : NtSlice w la L) (hwf : ∀ y ∈ L, y.tx.size ≤ maxLen) :
    Calls Tryd.prog 6 #[.slice ka kl kc, .int .i64 nd, .slice ea el ec, .slice aa al ac, .slice la ll lc] w fun e w' => e = .returned (.bool true) ∧ Below w.heap.size w w' := by
  subst e0 e2 e3 e4
  by_cases hX : newE K nd E E.length = 0
  · obtain ⟨h8, h40, ⟨n, rfl, h1, h12, hE⟩, hk⟩ := new_good hX
    exact walk_SpreadGood ka ea aa la kc ec ac lc K E A L n w hT hs hes has hls m3 m4 hwf h8 h1 h12 h40 hk hE
  · exact walk_SpreadBad ka ea aa la kc ec A.length ac L.length lc K E nd w hT hs hes m0 m2 hX
end Go.Proofs.YtbcehnhiedbbbaaDoor
