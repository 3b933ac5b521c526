/- Texts compared by 'at least' and 'at most', in the print's words. -/
import Derived.WalkKit
import Derived.Laws.Strings
namespace Go.Proofs.YtggakekljbgeoaaDoor.GCmp
open Go
theorem less_flip : ∀ (x y : List UInt8), (Op.bytesLess x y || x == y) = !Op.bytesLess y x
  | [], [] => rfl
  | [], _ :: _ => rfl
  | _ :: _, [] => rfl
  | a :: x, b :: y => by
    have ih := less_flip x y
    have h : ∀ p q : UInt8, decide (p < q) = decide (p.toNat < q.toNat) := fun p q => rfl
    unfold Op.bytesLess
    rw [h a b, h b a]
    by_cases e : a = b
    · subst e
      simpa using ih
    · have hne : a.toNat ≠ b.toNat := fun h => e (UInt8.toNat_inj.1 h)
      have e1 : (a == b) = false := by simpa using e
      have e2 : (b == a) = false := by simpa using fun h : b = a => e h.symm
      have e3 : (a :: x == b :: y) = false := by simp [e]
      rw [e1, e2, e3]
      by_cases hl : a.toNat < b.toNat
      · simp [hl, Nat.not_lt.2 (Nat.le_of_lt hl)]
      · have : b.toNat < a.toNat := by omega
        simp [hl, this]
@[go_sem] theorem leq_string (t : TypeId) (a b : ByteArray) : binOp .leq t (.string a) (.string b) = pure (.bool !(Op.bytesLess b.toList a.toList)) := by rw [← less_flip]; simp [binOp, Op.stringOp]
@[go_sem] theorem geq_string (t : TypeId) (a b : ByteArray) : binOp .geq t (.string a) (.string b) = pure (.bool !(Op.bytesLess a.toList b.toList)) := by simp [binOp, Op.stringOp]
end Go.Proofs.YtggakekljbgeoaaDoor.GCmp
