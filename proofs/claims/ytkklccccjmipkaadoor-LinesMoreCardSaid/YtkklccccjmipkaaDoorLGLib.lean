/- Small lemmas of this session's own, used by the hand-made contracts. -/
import Derived.WalkKit
import Derived.Deep.QuietTactic
import Derived.Lib.Hide
namespace Go.Proofs.YtkklccccjmipkaaDoor.GLib
open Go.RowKit
theorem size_mk (a : Array UInt8) : (ByteArray.mk a).size = a.size := rfl
theorem not_isEmpty {α : Type} [BEq α] (l : List α) : (!l.isEmpty) = (l != []) := by cases l <;> rfl
end Go.Proofs.YtkklccccjmipkaaDoor.GLib
