/- The Lean type of api.SeriesTerm. -/
namespace Go.Proofs.YtffnmfcaoldlhaaDoor
structure Tm where
  amp : Int
  ph : Int
  rt : Int
instance : Inhabited Tm := ⟨⟨0, 0, 0⟩⟩
end Go.Proofs.YtffnmfcaoldlhaaDoor
