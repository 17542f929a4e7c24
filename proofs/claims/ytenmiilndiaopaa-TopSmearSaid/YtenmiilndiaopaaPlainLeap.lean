/- The Lean type of api.LeapStep. -/
namespace Go.Proofs.Ytenmiilndiaopaa
structure Lp where
  day : Int
  sh : Int
instance : Inhabited Lp := ⟨⟨0, 0⟩⟩
end Go.Proofs.Ytenmiilndiaopaa
