/- FinReads, in plain Lean: the program and the document read a message alike. -/
import Derived.Test.YtkklccccjmipkaaDoorZPureFin5
import Derived.Test.YtkklccccjmipkaaDoorZPFReadsx6
namespace Go.Proofs.YtkklccccjmipkaaDoor.Pure
open Go.RowKit Go.Proofs.YtkklccccjmipkaaDoor.PAll Go.Proofs.YtkklccccjmipkaaDoorW.PrintWords GPlain
theorem FinReads : remitterlaw14_FinReads.Pure := by
  intro a0 _
  obtain ⟨L, rfl⟩ := bs_ex a0
  refine ⟨10000, ?_⟩
  unfold remitterlaw14_FinReads.f
  by_cases h : ((bs L).size : Int) > 3000
  · rw [if_pos h]
    rfl
  · have hL : L.length ≤ 4000 := by rw [bs_size] at h; omega
    rw [if_neg h, fin_f L hL, Option.bind_some, parse_f L hL 10000 (by omega), Option.bind_some]
    simp only [beq_self_eq_true, Bool.and_self, ↓reduceIte]
    rfl
end Go.Proofs.YtkklccccjmipkaaDoor.Pure
