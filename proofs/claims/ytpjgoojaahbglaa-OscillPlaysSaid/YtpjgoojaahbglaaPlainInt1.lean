/- The Lean type of int. -/
namespace Go.Proofs.Ytpjgoojaahbglaa
end Go.Proofs.Ytpjgoojaahbglaa
