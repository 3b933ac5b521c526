/- A field of a number that a call hands back. -/
import Derived.Test.YtggakekljbgeoaaDoorProg
import Derived.WalkKit
namespace Go.Proofs.YtggakekljbgeoaaDoor.PAll
open Go.RowKit
theorem field_num0 (b : Bool) (x y : Int) (w : World) : (Instr.field 24 (.agg #[.bool b, .int .i64 x, .int .i64 y]) 0).run Tryd.prog w = .ok (.bool b) w := by kernel_rfl
theorem field_num1 (b : Bool) (x y : Int) (w : World) : (Instr.field 24 (.agg #[.bool b, .int .i64 x, .int .i64 y]) 1).run Tryd.prog w = .ok (.int .i64 x) w := by kernel_rfl
theorem field_num2 (b : Bool) (x y : Int) (w : World) : (Instr.field 24 (.agg #[.bool b, .int .i64 x, .int .i64 y]) 2).run Tryd.prog w = .ok (.int .i64 y) w := by kernel_rfl
end Go.Proofs.YtggakekljbgeoaaDoor.PAll
