/- DateTurns: for every number, the day's texts are each other's, the next day is the next one, and its text is behind. No condition. -/
import Derived.Test.YtjemnphmjbodfaaDoorPAllx7
import Derived.Test.YtjemnphmjbodfaaDoorPureDate5
namespace Go.Proofs.YtjemnphmjbodfaaDoor.Pure
open Go.RowKit Go.Proofs.YtjemnphmjbodfaaDoor.PAll Go.Proofs.YtjemnphmjbodfaaDoorW.PrintWords Go.Proofs.YtjemnphmjbodfaaDoorW.PrintLast
theorem DateTurns : remitterlaw06_DateTurns.Pure := DateTurns'
end Go.Proofs.YtjemnphmjbodfaaDoor.Pure
