/- FinWrites, in plain Lean: the program and the document write a message alike. -/
import Derived.Test.YtkklccccjmipkaaDoorZVPureFin6
import Derived.Test.YtkklccccjmipkaaDoorZVPFWritesx3
namespace Go.Proofs.YtkklccccjmipkaaDoor.Pure
open Go.RowKit Go.Proofs.YtkklccccjmipkaaDoor.PAll Go.Proofs.YtkklccccjmipkaaDoorW.PrintWords GPlain
theorem FinWrites (a0 a1 a2 a3 a4 : ByteArray) (hw : a0.size ≤ 140737488351232 ∧ a1.size ≤ 140737488351232 ∧ a2.size ≤ 140737488351232 ∧ a3.size ≤ 140737488351232 ∧ a4.size ≤ 140737488351232) :
    ∃ k, remitterlaw14_FinWrites.f k a0 a1 a2 a3 a4 = some true := by
  refine ⟨10000, ?_⟩
  obtain ⟨l0, rfl⟩ := bs_ex a0
  obtain ⟨l1, rfl⟩ := bs_ex a1
  obtain ⟨l2, rfl⟩ := bs_ex a2
  obtain ⟨l3, rfl⟩ := bs_ex a3
  obtain ⟨l4, rfl⟩ := bs_ex a4
  unfold remitterlaw14_FinWrites.f
  rw [bs_size, bs_size, bs_size, bs_size, bs_size] at *
  rw [wrap_ok (x := (l0.length : Int) + (l1.length : Int)) (by omega) (by omega), wrap_ok (x := (l0.length : Int) + (l1.length : Int) + (l2.length : Int)) (by omega) (by omega), wrap_ok (x := (l0.length : Int) + (l1.length : Int) + (l2.length : Int) + (l3.length : Int)) (by omega) (by omega), wrap_ok (x := (l0.length : Int) + (l1.length : Int) + (l2.length : Int) + (l3.length : Int) + (l4.length : Int)) (by omega) (by omega)]
  by_cases h : (l0.length : Int) + (l1.length : Int) + (l2.length : Int) + (l3.length : Int) + (l4.length : Int) > 3000
  · rw [if_pos h]
    rfl
  · rw [if_neg h, ref_w l0 l1 l2 l3 l4 (by omega) (by omega) (by omega) (by omega) (by omega) 10000 (by omega), Option.bind_some, fin_w l0 l1 l2 l3 l4 (by omega) (by omega) (by omega) (by omega) (by omega), Option.bind_some, if_pos rfl, if_pos rfl]
    rfl
end Go.Proofs.YtkklccccjmipkaaDoor.Pure
