-- Made by this session's wip/tools/gprint.py, which runs the kit's print program; some functions' contracts are proved by hand.
import Derived.Test.YtjemnphmjbodfaaDoorProg
import Derived.Below
import Derived.Deep.Draws
import Derived.Deep.AppendLies
import Derived.Maps.AppendAt
import Derived.OwnWalk
import Derived.Laws.BytesArg
import Derived.Laws.MakeOwn
import Derived.Laws.OwnMore
import Derived.Deep.OwnRows
import Derived.Tactics
import Derived.Lib.ConvBytes
import Derived.Laws.Slices
import Derived.WalkKit
import Derived.KernelRfl
import Derived.RowKit3
import Derived.Deep.LoopGhost
import Derived.Deep.QuietTactic
import Derived.BigQuiet
import Derived.WideLaws
import Derived.Deep.DeepCutAuto
import Derived.Deep.CutBlock
import Derived.Deep.RegionHeld3
import Derived.Laws.Rows
import Derived.Lib.AppendStr
import Derived.ArgAppend
import Derived.Laws.IdiomCopy
import Derived.OrdersHeld
import Derived.Laws.BitsLemmas
import Derived.RowKit
import Derived.Test.YtjemnphmjbodfaaDoorGLib
import Derived.Test.YtjemnphmjbodfaaDoorWWords
import Derived.Test.YtjemnphmjbodfaaDoorWLast
import Derived.Test.YtjemnphmjbodfaaDoorWTab
import Derived.Test.YtjemnphmjbodfaaDoorWFour
import Derived.Test.YtjemnphmjbodfaaDoorWQPut
import Derived.Test.YtjemnphmjbodfaaDoorWApart
import Derived.Test.YtjemnphmjbodfaaDoorWArr
import Derived.Test.YtjemnphmjbodfaaDoorWZeros
import Derived.Test.YtjemnphmjbodfaaDoorWFoot
import Derived.Test.YtjemnphmjbodfaaDoorWKept
import Derived.Test.YtjemnphmjbodfaaDoorWShare
import Derived.Test.YtjemnphmjbodfaaDoorWN
import Derived.Test.YtjemnphmjbodfaaDoorWFootNe
import Derived.Test.YtjemnphmjbodfaaDoorWAt
import Derived.Test.YtjemnphmjbodfaaDoorWEqStruct
import Derived.Test.YtjemnphmjbodfaaDoorWRepsOne
import Derived.Test.YtjemnphmjbodfaaDoorWInv
import Derived.Test.YtjemnphmjbodfaaDoorWInvWords
import Derived.Test.YtjemnphmjbodfaaDoorWGuard
import Derived.Test.YtjemnphmjbodfaaDoorWNEv
import Derived.Test.YtjemnphmjbodfaaDoorWMore
namespace Go.Proofs.YtjemnphmjbodfaaDoor.PAll
open Go.RowKit Go.Proofs.YtjemnphmjbodfaaDoorW.PrintWords Go.Proofs.YtjemnphmjbodfaaDoorW.PrintLast Go.Proofs.YtjemnphmjbodfaaDoorW.PrintMore
attribute [local go_sem] max2_int min2_int max_two min_two max_three min_three max_four min_four   -- for this text's walks alone
set_option linter.unusedVariables false
set_option linter.unusedSimpArgs false



def errW : Option Int → Value
  | none => .nilIface
  | some c => .iface 0 (.int .i64 c)
theorem errW_none : errW none = .nilIface := rfl
theorem errW_some (c : Int) : errW (some c) = .iface 0 (.int .i64 c) := rfl

theorem info5 : (Tryd.prog.info? 5).map (fun i => (i.zero, i.size, i.bytes)) = some (some (.int .u8 0), 1, 1) := by kernel_rfl
-- the values' own types

end Go.Proofs.YtjemnphmjbodfaaDoor.PAll
