/- DateTells: for every text, whether it is a day or a moment, its other text, and which day it is, is what the document says. No condition. -/
import Derived.Test.YtjemnphmjbodfaaDoorPAllx6
import Derived.Test.YtjemnphmjbodfaaDoorPureDate4
namespace Go.Proofs.YtjemnphmjbodfaaDoor.Pure
open Go.RowKit Go.Proofs.YtjemnphmjbodfaaDoor.PAll Go.Proofs.YtjemnphmjbodfaaDoorW.PrintWords Go.Proofs.YtjemnphmjbodfaaDoorW.PrintLast
theorem DateTells : remitterlaw06_DateTells.Pure := DateTells'
end Go.Proofs.YtjemnphmjbodfaaDoor.Pure
