/- The Lean type of api.Span. -/
namespace Go.Proofs.YtjkhoepohiafeaaDoor
structure Sp where
  lo : Int
  hi : Int
instance : Inhabited Sp := ⟨⟨0, 0⟩⟩
end Go.Proofs.YtjkhoepohiafeaaDoor
