/- DateOrder: for every two texts, of two days the earlier one's text is ahead, and texts of one day are the same. No condition. -/
import Derived.Test.YtjemnphmjbodfaaDoorPAllx7
import Derived.Test.YtjemnphmjbodfaaDoorPureDate5
namespace Go.Proofs.YtjemnphmjbodfaaDoor.Pure
open Go.RowKit Go.Proofs.YtjemnphmjbodfaaDoor.PAll Go.Proofs.YtjemnphmjbodfaaDoorW.PrintWords Go.Proofs.YtjemnphmjbodfaaDoorW.PrintLast
theorem DateOrder : remitterlaw06_DateOrder.Pure := DateOrder'
end Go.Proofs.YtjemnphmjbodfaaDoor.Pure
