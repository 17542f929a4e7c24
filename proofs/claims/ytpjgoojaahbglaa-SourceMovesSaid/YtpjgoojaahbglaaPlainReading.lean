/- The Lean type of api.SourceReading. -/
namespace Go.Proofs.Ytpjgoojaahbglaa
structure Rd where
  tk : Int
  lo : Int
  hi : Int
instance : Inhabited Rd := ⟨⟨0, 0, 0⟩⟩
end Go.Proofs.Ytpjgoojaahbglaa
