/- The contract of fin.Write, in the print's form. -/
import Derived.Test.YtkklccccjmipkaaDoorZGWriteP
namespace Go.Proofs.YtkklccccjmipkaaDoor.PAll
open Go.RowKit Go.Proofs.YtkklccccjmipkaaDoorW.PrintWords GPlain
/-- fin.Write, of parts of at most 5000 bytes. -/
def fin_Write.f (a0_0 a0_1 a0_2 a0_3 a0_4 : ByteArray) : Option (ByteArray × Int) :=
  if a0_0.size ≤ 5000 ∧ a0_1.size ≤ 5000 ∧ a0_2.size ≤ 5000 ∧ a0_3.size ≤ 5000 ∧ a0_4.size ≤ 5000 then fin_WriteP.f 5 a0_0 a0_1 a0_2 a0_3 a0_4 else none
theorem fin_Write.calls (a0_0 a0_1 a0_2 a0_3 a0_4 : ByteArray) (r1 : ByteArray) (r2 : Int) (w : World) (h : fin_Write.f a0_0 a0_1 a0_2 a0_3 a0_4 = some (r1, r2)) :
    Calls Tryd.prog 18 #[.agg #[.string a0_0, .string a0_1, .string a0_2, .string a0_3, .string a0_4]] w fun e w' => e = .returned (.tuple #[.string r1, .int .i64 r2]) ∧ Below w.heap.size w w' := by
  unfold fin_Write.f at h
  by_cases hs : a0_0.size ≤ 5000 ∧ a0_1.size ≤ 5000 ∧ a0_2.size ≤ 5000 ∧ a0_3.size ≤ 5000 ∧ a0_4.size ≤ 5000
  · rw [if_pos hs] at h
    exact fin_WriteP.calls 5 _ _ _ _ _ r1 r2 w hs.1 hs.2.1 hs.2.2.1 hs.2.2.2.1 hs.2.2.2.2 h
  · rw [if_neg hs] at h
    cases h
end Go.Proofs.YtkklccccjmipkaaDoor.PAll
