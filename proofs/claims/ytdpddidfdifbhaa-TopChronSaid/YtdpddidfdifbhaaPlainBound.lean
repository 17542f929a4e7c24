/- The Lean type of api.ChronBound. -/
namespace Go.Proofs.Ytdpddidfdifbhaa
structure Bd where
  a : Int
  b : Int
  lo : Int
  hi : Int
instance : Inhabited Bd := ⟨⟨0, 0, 0, 0⟩⟩
end Go.Proofs.Ytdpddidfdifbhaa
