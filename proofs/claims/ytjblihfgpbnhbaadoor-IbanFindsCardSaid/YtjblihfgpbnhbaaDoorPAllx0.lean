-- Made by this session's wip/tools/gprint.py, which runs the kit's print program; some functions' contracts are proved by hand.
import Derived.Test.YtjblihfgpbnhbaaDoorProg
import Derived.Below
import Derived.Deep.Draws
import Derived.Deep.AppendLies
import Derived.Maps.AppendAt
import Derived.OwnWalk
import Derived.Laws.BytesArg
import Derived.Laws.MakeOwn
import Derived.Laws.OwnMore
import Derived.Deep.OwnRows
import Derived.Tactics
import Derived.Lib.ConvBytes
import Derived.Laws.Slices
import Derived.WalkKit
import Derived.KernelRfl
import Derived.RowKit3
import Derived.Deep.LoopGhost
import Derived.Deep.QuietTactic
import Derived.BigQuiet
import Derived.WideLaws
import Derived.Deep.DeepCutAuto
import Derived.Deep.CutBlock
import Derived.Deep.RegionHeld3
import Derived.Laws.Rows
import Derived.Lib.AppendStr
import Derived.ArgAppend
import Derived.Laws.IdiomCopy
import Derived.OrdersHeld
import Derived.Laws.BitsLemmas
import Derived.RowKit
import Derived.Test.YtjblihfgpbnhbaaDoorGLib
import Derived.Test.YtjblihfgpbnhbaaDoorWWords
import Derived.Test.YtjblihfgpbnhbaaDoorWLast
import Derived.Test.YtjblihfgpbnhbaaDoorWTab
import Derived.Test.YtjblihfgpbnhbaaDoorWFour
import Derived.Test.YtjblihfgpbnhbaaDoorWQPut
import Derived.Test.YtjblihfgpbnhbaaDoorWApart
import Derived.Test.YtjblihfgpbnhbaaDoorWArr
import Derived.Test.YtjblihfgpbnhbaaDoorWZeros
import Derived.Test.YtjblihfgpbnhbaaDoorWFoot
import Derived.Test.YtjblihfgpbnhbaaDoorWKept
import Derived.Test.YtjblihfgpbnhbaaDoorWShare
import Derived.Test.YtjblihfgpbnhbaaDoorWN
import Derived.Test.YtjblihfgpbnhbaaDoorWFootNe
import Derived.Test.YtjblihfgpbnhbaaDoorWAt
import Derived.Test.YtjblihfgpbnhbaaDoorWEqStruct
import Derived.Test.YtjblihfgpbnhbaaDoorWRepsOne
import Derived.Test.YtjblihfgpbnhbaaDoorWInv
import Derived.Test.YtjblihfgpbnhbaaDoorWInvWords
import Derived.Test.YtjblihfgpbnhbaaDoorWGuard
import Derived.Test.YtjblihfgpbnhbaaDoorWNEv
import Derived.Test.YtjblihfgpbnhbaaDoorWMore
namespace Go.Proofs.YtjblihfgpbnhbaaDoor.PAll
open Go.RowKit Go.Proofs.YtjblihfgpbnhbaaDoorW.PrintWords Go.Proofs.YtjblihfgpbnhbaaDoorW.PrintLast Go.Proofs.YtjblihfgpbnhbaaDoorW.PrintMore
attribute [local go_sem] max2_int min2_int max_two min_two max_three min_three max_four min_four   -- for this text's walks alone
set_option linter.unusedVariables false
set_option linter.unusedSimpArgs false



def errW : Option Int → Value
  | none => .nilIface
  | some c => .iface 0 (.int .i64 c)
theorem errW_none : errW none = .nilIface := rfl
theorem errW_some (c : Int) : errW (some c) = .iface 0 (.int .i64 c) := rfl

theorem info3 : (Tryd.prog.info? 3).map (fun i => (i.zero, i.size, i.bytes)) = some (some (.int .i64 0), 1, 8) := by kernel_rfl
-- the values' own types

end Go.Proofs.YtjblihfgpbnhbaaDoor.PAll
