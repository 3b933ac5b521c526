/- The contract of strings.Trim at digits, in the print's form (the lines' share of GFin). -/
import Derived.Test.YtkklccccjmipkaaDoorLGWorld
import Derived.Test.YtkklccccjmipkaaDoorLGPlain
import Derived.Test.YtkklccccjmipkaaDoorLGLib
import Derived.Test.YtkklccccjmipkaaDoorLShelf
import Derived.Test.YtkklccccjmipkaaDoorLW
import Derived.WalkKit
import Derived.Lib.Hide
import Derived.Shelf.Strings.SlTrimAscii
namespace Go.Proofs.YtkklccccjmipkaaDoor.PAll
open Go.RowKit Go.Proofs.YtkklccccjmipkaaDoorW.PrintWords GPlain
set_option linter.unusedSimpArgs false
/-- strings.Trim, at digits. -/
def digs10 : List UInt8 := [48, 49, 50, 51, 52, 53, 54, 55, 56, 57]
def strings_Trim.f (a0 a1 : ByteArray) : Option ByteArray := if a0.size ≤ 1048576 ∧ a1.data.toList = digs10 then some (bs (Lib.trimS a0.data.toList digs10)) else none
theorem strings_Trim.calls (a0 a1 : ByteArray) (r : ByteArray) (w : World) (h : strings_Trim.f a0 a1 = some r) :
    Calls Tryd.prog 54 #[.string a0, .string a1] w fun e w' => e = .returned (.string r) ∧ Below w.heap.size w w' := by
  unfold strings_Trim.f at h
  by_cases hs : a0.size ≤ 1048576 ∧ a1.data.toList = digs10
  · rw [if_pos hs] at h
    obtain rfl := Option.some.inj h
    obtain rfl : a1 = ⟨#[48, 49, 50, 51, 52, 53, 54, 55, 56, 57]⟩ := by rw [bs_of a1, hs.2]; rfl
    exact Any.strings_Trim_laid Tryd.lays160 (by kernel_rfl) a0 ⟨#[48, 49, 50, 51, 52, 53, 54, 55, 56, 57]⟩ w (by omega) (by decide) (ascii_of_all (by decide))
  · rw [if_neg hs] at h
    cases h
end Go.Proofs.YtkklccccjmipkaaDoor.PAll
