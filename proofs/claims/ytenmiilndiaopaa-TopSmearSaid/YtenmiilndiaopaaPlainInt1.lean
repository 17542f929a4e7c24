/- The Lean type of int. -/
namespace Go.Proofs.Ytenmiilndiaopaa
end Go.Proofs.Ytenmiilndiaopaa
