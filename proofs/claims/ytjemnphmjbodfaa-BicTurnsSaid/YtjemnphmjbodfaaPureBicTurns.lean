/- BicTurns: the walk by hand leaves nothing to prove here. -/
import Derived.Test.YtjemnphmjbodfaaGTurns1
namespace Go.Proofs.Ytjemnphmjbodfaa.Pure
open Go.Proofs.Ytjemnphmjbodfaa.PAll
theorem BicTurns : remitterlaw04_BicTurns.Pure := trivial
end Go.Proofs.Ytjemnphmjbodfaa.Pure
