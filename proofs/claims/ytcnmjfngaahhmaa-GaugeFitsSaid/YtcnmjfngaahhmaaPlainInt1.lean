/- The Lean type of int. -/
namespace Go.Proofs.Ytcnmjfngaahhmaa
end Go.Proofs.Ytcnmjfngaahhmaa
