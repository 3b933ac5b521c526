/- The contract of strings.Split, in the print's form. -/
import Derived.Test.YtkklccccjmipkaaDoorLGTrim
import Derived.RangeFuncRecord
import Derived.Test.YtkklccccjmipkaaDoorLPAllx0
import Derived.Lib.SplitLaws
namespace Go.Proofs.YtkklccccjmipkaaDoor.PAll
open Go.RowKit Go.Proofs.YtkklccccjmipkaaDoorW.PrintWords GPlain
def strings_Split.f (a0 a1 : ByteArray) : Option (List ByteArray) := if a0.size ≤ 1000000 ∧ 1 ≤ a1.size then some (Lib.splitB a1 0 (Lib.countB a0 a1) a0) else none
theorem reps_str (w : World) (base : Nat) (ok : Nat → Prop) : ∀ l : List ByteArray, Reps (Kd.string.M w base ok) 1 l (l.map Value.string)
  | [] => Reps.none _ _
  | s :: l => Reps.one rfl (reps_str w base ok l)
theorem strings_Split.calls (a0 a1 : ByteArray) (r : List ByteArray) (w : World) (h : strings_Split.f a0 a1 = some r) (hG : GW w) :
    Calls Tryd.prog 72 #[.string a0, .string a1] w fun e w' => ∃ v0_ : Value, e = .returned (v0_) ∧ Kd.R Kd.string 9 w' w.heap.size (fun _ => True) v0_ r ∧ Below w.heap.size w w' := by
  unfold strings_Split.f at h
  by_cases hs : a0.size ≤ 1000000 ∧ 1 ≤ a1.size
  · rw [if_pos hs] at h
    obtain rfl := Option.some.inj h
    obtain ⟨m, hm⟩ := hG
    have hc := Lib.countB_le a1 hs.2 a0.size a0 (Nat.le_refl _)
    have hl := Lib.splitB_all a1 hs.2 0 _ a0 rfl
    refine (Tryd.strings_Split a0 a1 m w (by omega) hm hs.2).mono ?_
    rintro e w' ⟨he, rfl⟩
    refine ⟨_, he, ⟨fun _ _ => trivial, (Lib.splitB a1 0 (Lib.countB a0 a1) a0).map Value.string, ⟨?_, .inr ⟨w.heap.size, Lib.countB a0 a1 + 1, ((Lib.splitB a1 0 (Lib.countB a0 a1) a0).map Value.string).toArray, ?_, Nat.le_refl _, World.alloc_heap_new _ _, by omega, ?_, ?_, ?_⟩⟩, reps_str _ _ _ _⟩, (Below.refl _ w).alloc (Nat.le_refl _) _⟩
    · show _ = _ * 1
      rw [List.length_map, Nat.mul_one]
    · rw [hl]
    · have : (1000001 : Nat) ≤ maxLen := by decide
      omega
    · show _ = (Lib.countB a0 a1 + 1) * 1
      rw [List.size_toArray, List.length_map, hl, Nat.mul_one]
    · show List.take (_ * 1) _ = _
      rw [Nat.mul_one, List.take_of_length_le (by rw [List.length_map]; exact Nat.le_refl _)]
  · rw [if_neg hs] at h
    cases h
end Go.Proofs.YtkklccccjmipkaaDoor.PAll
