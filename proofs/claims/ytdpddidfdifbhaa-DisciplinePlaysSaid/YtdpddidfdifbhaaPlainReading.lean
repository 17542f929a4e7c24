/- The Lean type of api.SourceReading. -/
namespace Go.Proofs.Ytdpddidfdifbhaa
structure Rd where
  tk : Int
  lo : Int
  hi : Int
instance : Inhabited Rd := ⟨⟨0, 0, 0⟩⟩
end Go.Proofs.Ytdpddidfdifbhaa
