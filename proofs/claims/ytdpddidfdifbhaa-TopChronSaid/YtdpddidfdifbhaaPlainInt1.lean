/- The Lean type of int. -/
namespace Go.Proofs.Ytdpddidfdifbhaa
end Go.Proofs.Ytdpddidfdifbhaa
