import Derived.Test.YtjemnphmjbodfaaGKeeps6
namespace Go.Proofs.Ytjemnphmjbodfaa.Pure
open Go.RowKit Go.Proofs.Ytjemnphmjbodfaa.PAll
theorem CharsetKeeps : remitterlaw05_CharsetKeeps.Pure := trivial
end Go.Proofs.Ytjemnphmjbodfaa.Pure
